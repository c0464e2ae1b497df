/- Walks and laws that LargeData asks for. -/
import Derived.Test.YtfefijlnbhbplaaGreatDoorGX42
import Derived.Test.YtfefijlnbhbplaaGreatDoorGX40
import Derived.Test.YtfefijlnbhbplaaGreatDoorGX34
import Derived.Test.YtfefijlnbhbplaaGreatDoorRows
import Derived.LaidMore
import Derived.Lay
import Derived.SevenTiedAt
import Derived.Lib.SmallJoins
set_option linter.unusedVariables false
set_option linter.unusedSimpArgs false
set_option maxRecDepth 1000000
set_option maxHeartbeats 25600000
namespace Go.Proofs.YtfefijlnbhbplaaGreatDoor
open Go Go.RowKit Limb
namespace Limb
theorem pG(l:List Nat)(s i n v:Nat):((l.set (s+i) v).drop s).take n=((l.drop s).take n).set i v:=by
 rw[List.drop_set,if_neg ω,Nat.add_sub_cancel_left,List.take_set]
theorem Aw{h:Hp}(k:Good h){o i v:Nat}(hf:isF h o 3 (i+1)=true):bj (putF h o i v) o=(bj h o).set i v/\hdO (putF h o i v) o=hdO h o:=by
 obtain⟨h1,f,c⟩:=isF_iff.1 hf;have b:hdO (putF h o i v) o=hdO h o:=nj k (isO_iff.1 h1).2.2 (show i<(hd h (o/2)).size from c) (isO_iff.1 h1).2.2;refine⟨?_,b⟩;unfold bj;rw[b];show((h.ws.set (o/2+3+i) v).drop (o/2+3)).take _=_
 rw[pG]
theorem pu{l:List Nat}{i v:Nat}(h:i<l.length):(l.set i v).take (i+1)=l.take i++[v]:=by
 rw[List.take_set,List.take_succ_eq_append_getElem h,List.set_append_right _ _ (by rw[List.length_take];omega)];rw[List.length_take,Nat.min_eq_left ω,Nat.sub_self];rfl
theorem mH(o:Nat): ∀(l:List Nat) (i:Nat) (h:Hp),Good h->isF h o 3 (i+l.length)=true->Lim l->bj (aY o i l h) o=(bj h o).take i++l++(bj h o).drop (i+l.length)/\Grow h (aY o i l h)/\hdO (aY o i l h) o=hdO h o/\(aY o i l h).ws.length=h.ws.length/\(aY o i l h).last=h.last
 |[],i,h,k,_,_=>⟨by show bj h o=_;simp,Grow.refl k,rfl,rfl,rfl⟩
 |v :: t,i,h,k,hf,hl=>by
  have hf:isF h o 3 (i+(t.length+1))=true:=hf;have f:v<4294967296:=hl.head;have b:=aO hf (show i+1<=i+(t.length+1) by omega);obtain⟨j,m⟩:=Aw (v:=v) k b;have g:=grow_put3 k b f;obtain⟨q,u,x,y,z⟩:=mH o t (i+1) (putF h o i v) g.good (g.isF _ _ _ (aO hf ω)) hl.tail;have c:i<(bj h o).length:=by rw[bg k (aH hf)];have:=(isF_iff.1 hf).2.2;omega
  refine⟨?_,g.trans u,x.trans m,y.trans (by show(h.ws.set _ _).length=_;rw[List.length_set]),z⟩;show bj (aY o (i+1) t (putF h o i v)) o=_
  rw[q,j,pu c,List.drop_set,if_pos ω];rw[show i+1+t.length=i+(v :: t).length by simp;omega];simp
end Limb
open Lib Go.Proofs.Tryz
theorem iU{P:Program}(w:World){c:Array Oper}{rest:List Oper}{o:Oper}{a:Act}{Q:Exit->Act->World->Prop}(k:o.guard=none)(m x v:Operand)(t:TypeId)(j:o.op=Op.mapUpdate t m x v)(M d e:Value)(l:a.eval m=M)(p:a.eval x=d)(q:a.eval v=e)(w':World)(f:(Instr.mapUpdate t M d e).run P w= .ok () w')(s:wpList P c Q rest (a.put o.dst undef) w'):wpList P c Q (o :: rest) a w:=by
 refine wpList_plain k fun y i=>?_
 unfold Oper.wp;simp[execOp,j,l,p,q,f,Result.andThen];exact i _ _ s
def szs:List Nat:=[0,0,0,128,32,8,16]
def rts:List Nat:=[0,1,2,3,4,6,8]
theorem nL{r n:Nat}{t:List (Nat×Nat)}{h d:Hp}(k:Limb.Good h)(l:n<=65535)(e:bZ ((r,n) :: t) h=some d): ∃o h1,aW h 0 1 n=some (o,h1)/\isO h1 o=true/\bZ t (Limb.setR h1 r o)=some d:=by
 obtain⟨m,f,a⟩:=Option.bind_eq_some_iff.1 e;obtain⟨⟨o,h1⟩,c,j⟩:=Option.map_eq_some_iff.1 f;obtain⟨g,i⟩:=bm k δ δ l c;exact⟨o,h1,c,aH i,by rw[<-j]at a;exact a⟩
theorem Aq: ∀k,k<7->cB.drop k=(wd rts k,wd szs k) :: cB.drop (k+1):=δ
theorem Ce: ∀k,k<7->wd rts k<64/\wd szs k<=65535:=δ
theorem F0: ∀k,k<3->bareCls.drop k=(k,13+k) :: bareCls.drop (k+1):=δ
theorem Fc: ∀k,k<7->3<=k->bareCls.drop k=(wd rts k,20) :: bareCls.drop (k+1):=δ
theorem Bw: ∀k,k<22->tenOn.drop k=(10+k) :: tenOn.drop (k+1):=δ
theorem ja{k:Nat}(hk:k<22):plans.drop k=plans.getD k ⟨[],0,0,false,[]⟩ :: plans.drop (k+1):=by
 rw[List.getD_eq_getElem?_getD,List.getElem?_eq_getElem (show k<plans.length from hk)];exact List.drop_eq_getElem_cons (show k<plans.length from hk)
theorem wV: ∀k,k<22->(plans.getD k ⟨[],0,0,false,[]⟩).fmt<=1000/\bu 6 (10+k)<=1000:=δ
theorem wR{f a:Nat}{b:Bool}(h1:f<=1000)(c:a<=1000):bA f a b<100000:=by
 unfold bA;split<;>omega
theorem RowsAt.only{w w':World}{g:Nat}{vs:List Value}{ps:List Nat}(h:RowsAt w g vs)(a:Only ps w w')(c: ∀g e d,Row w g e d->g∉ps):RowsAt w' g vs:=
 ⟨h.1,h.2.1.only a (c _ _ _ h.2.1),fun i f=>by
  rcases h.2.2 i f with x|⟨x1,gf,x2,x3⟩
  ·exact .inl x
  ·exact .inr ⟨x1,gf,x2,x3.only a (c _ _ _ x3)⟩⟩
def BR(g gs gt:Nat)(vs:List Value)(X:World):Prop:=RowsAt X g vs/\Row X gs 3 (aC .i64 szs)/\Row X gt 3 (aC .i64 rts)
theorem mg(g gs gt:Nat)(vs:List Value):RKeeps (BR g gs gt vs):=
 (j9 g vs).and ((jZ gs 3 (aC .i64 szs) δ δ δ δ).and (jZ gt 3 (aC .i64 rts) δ δ δ δ))
theorem BR.only{w w':World}{g gs gt:Nat}{vs:List Value}{ps:List Nat}(h:BR g gs gt vs w)(a:Only ps w w')(c: ∀g e d,Row w g e d->g∉ps):BR g gs gt vs w':=
 ⟨h.1.only a c,h.2.1.only a (c _ _ _ h.2.1),h.2.2.only a (c _ _ _ h.2.2)⟩
def BM(g gs gt b:Nat)(vs:List Value)(ms:List Nat)(X:World):Prop:=BR g gs gt vs X/\MetasAt X b ms.length ms
theorem pZ(g gs gt b:Nat)(vs:List Value)(ms:List Nat):RKeeps (BM g gs gt b vs ms):=(mg g gs gt vs).and (sN b ms.length ms)
section
variable {w X:World} {G F:RFoot} {hk:Hp} {g gs gt b:Nat} {vs:List Value} {ms:List Nat}
theorem BY(c:RC w G (BM g gs gt b vs ms) X F hk)(A:w.heap.size<=b)(B:ms.length<=1000)(m:Nat)(C:m<4294967296): ∃f,(Instr.mapUpdate 125 (.map (some b)) (I (10+(ms.length:Int))) (Ψ m)).run prog X= .ok () f/\RC w G (BM g gs gt b vs (ms++[m])) f F hk:=by
 obtain⟨f,k,i,q⟩:=c.ex.2.update B m C;rw[Int.natCast_add]at k;have x: ∀g e v,Row X g e v->g∉[b]:=fun g e v r z=>c.ex.2.not_row r (List.mem_singleton.1 z).symm
 have c1:RC w G (BR g gs gt vs) X F hk:=c.with (mg g gs gt vs) c.ex.1
 have j:=c1.aside q A (c.ex.2.not_mem c.hp) (c.ex.1.only q x);exact⟨f,k,j.with (pZ _ _ _ _ _ _) ⟨j.ex,by rw[List.length_append];exact i⟩⟩
theorem qL(c:RC w G (BM g gs gt b vs ms) X F hk)(d:ms.length<=1000){j:Nat}(e:j<ms.length):(Instr.lookup 125 (.map (some b)) (I ((10+j:Nat):Int)) false).run prog X= .ok (Ψ (wd ms j:Nat)) X:=c.ex.2.lookup e d
end
theorem Cs{w:World}{G:RFoot}(n:Nat)(h1:64<=n)(h2:n<=1048576)(H:RefAt w G (cG n))(h5w:5<=w.heap.size){g:Nat}{vs:List Value}(RA:RowsAt w g vs)(hA hP hE:Hp)(ms:List Nat)(st:Limb.StepsR n hA hP ms hE):Calls prog 25 #[E G.p,M g 22 22] w fun e w'=>e= .returned (I 0)/\RMoved w G w' (ce bareCls (cM ms 0 plans hP)):=by
 obtain⟨hZ,hhZ⟩:=ξ (ce bareCls (cM ms 0 plans hP));rw[<-hhZ];have HZ:=hid hhZ;clear hhZ;have HF:=hid (qW h1 h2 st.first);have HPr:=hid st.pairs;have HGd:=hid st.good;have HPd:=hid st.paired;obtain⟨W1,hW1,ra,hb1,hz1⟩:=aA w 3 [I 0,I 0,I 0,I 128,I 32,I 8,I 16];obtain⟨W2,hW2,rb,hb2,hz2⟩:=aA W1 3 [I 0,I 1,I 2,I 3,I 4,I 6,I 8];have ra:Row W1 w 3 (aC .i64 szs):=ra;have rb:Row W2 W1 3 (aC .i64 rts):=rb;replace ra:=ra.below hb2 ra.lt;have hBB:=hb1.trans (hb2.mono ω);have RA2:=RA.below hBB;rw[hz1]at rb;obtain⟨gs,hgs⟩:=ξ w.heap.size;obtain⟨gt,hgt⟩:=ξ (w.heap.size+1);rw[<-hgs]at ra;rw[<-hgt]at rb;have HGS:=hid hgs;have HGT:=hid hgt;have HW2:=hid (show W2=(w.alloc (.cells #[I 0,I 0,I 0,I 128,I 32,I 8,I 16] 3)).alloc (.cells #[I 0,I 1,I 2,I 3,I 4,I 6,I 8] 3) by rw[hW2,hW1]);have HC:=hid (((RC.start H h5w).below hBB).with (mg g gs gt vs) ⟨RA2,ra,rb⟩);clear hW1 hW2 hz1 hz2 hb1 hb2 ra rb RA RA2 hBB hgs hgt st H h5w;go_enter func25,ntmps25;go_wp2;rw[<-HW2.out,<-HGT.out,<-HGS.out];clear HW2;go_loopw[7] (fun i wr=> ∃(k:Nat) (F:RFoot) (hk:Hp),k<=7/\i= .int .i64 k/\Hid (RC w G (BR g gs gt vs) wr F hk)/\Hid ((k=0/\hk=cG n)∨(0<k/\bZ (cB.drop k) hk=some hA))) (fun i _=>7-(intOf i).toNat);case atStart=>exact⟨0,G,cG n,Nat.zero_le _,rfl,HC,hid (.inl ⟨rfl,rfl⟩)⟩
 case round=>
  clear HC;obtain⟨k,F,hk,hkn,rfl,HC,HR⟩:=hrel;by_cases h0:k<7
  ·have d1:decide ((k:Int)<7)=true:=dT;have d2:decide (k<7)=true:=decide_eq_true h0;obtain⟨l1,l2⟩:=Ce k h0;have sl:=HC.out.ex.2.1.sl (n:=7) rfl δ;have ix:=fun W=>sl.index 62 underlying62 ic W .i64 k h0
   have cx:=sl.cell h0;rw[aJ (by exact h0)]at cx;have HSx:=hid (fun W=>((HC.out.ex.2.2.sl (n:=7) rfl δ).index 62 underlying62 ic W .i64 k h0))
   have HSc:=hid (fun Y F1 h1 (c:RC w G (BR g gs gt vs) Y F1 h1)=>show Y.cell? ⟨gt,k,none⟩=O (I (wd rts k:Nat))from by
    have:=(c.ex.2.2.sl (n:=7) rfl δ).cell h0
    rwa [aJ (by exact h0)]at this)
   have hd:=Aq k h0
   have hnx: ∃o h1,aW hk 0 1 (wd szs k)=some (o,h1)/\o<4294967296/\(k=0->wd rts k=0/\bZ (cB.drop 1) (Limb.setR (Limb.setR (Limb.setR (Limb.setR h1 0 o) 5 o) 7 o) 9 o)=some hA)/\(k≠0->bZ (cB.drop (k+1)) (Limb.setR h1 (wd rts k) o)=some hA):=by
    rcases HR.out with⟨e1,e2⟩|⟨e1,e2⟩
    ·subst e1 e2;obtain⟨o,q0,q1,q2,q3,q4,q5⟩:=HF.out;exact⟨o,q0,q1,q3,fun _=>⟨rfl,q5⟩,fun e=>absurd rfl e⟩
    ·rw[hd]at e2;obtain⟨o,q0,q1,q2,q3⟩:=nL HC.out.hp.good l2 e2;exact⟨o,q0,q1,aM (bm HC.out.hp.good δ δ l2 q1).1.good q2,fun e=>absurd e ω,fun _=>q3⟩
   obtain⟨o,h1',x1,x2,x3,x4⟩:=hnx;have HAl:=hid (fun Y F1 (c:RC w G (BR g gs gt vs) Y F1 hk)=>show Calls prog 12 #[E G.p,Ψ 0,I 1,I (wd szs k:Nat)] Y fun e X'=>e=Rt #[Ψ o,I 0]/\∃F',RC w G (BR g gs gt vs) X' F' h1' from lG c 0 (wd szs k) o h1' l2 x1);have HX3:=hid x3;have HX4:=hid x4;generalize wd szs k=sz at*
   generalize wd rts k=rk at*
   have HRx:=hid (fun W=>(HC.out.root (i:=rk) l1).2.2 W);have hcc:=HC.out;clear sl hd x1 x3 x4 HR;go_wp2_with fail;refine(HAl.out _ _ hcc).mono ?_;rintro e Y1 ⟨rfl,F1,Q⟩;have HC1:=hid Q;clear Q hcc HC HAl cx ix;go_wp2_with fail;have hX: ∃F2 h2,RC w G (BR g gs gt vs) Y1.drew F2 h2:=⟨F1,h1',HC1.out.drew⟩;have fz:=HC1.out.drew.free rk;have cg:=(HC1.out.root (i:=rk) l1).2.1;refine wp_region_held (S:=fun Y=> ∃F2 h2,RC w G (BR g gs gt vs) Y F2 h2) κ ?_;refine tk 0 (E G.p) ?_;refine tk 1 (E G.p) ?_;refine tk 2 (Θ G.p 2) ?_;refine tk 3 (M G.gr 64 64) ?_ (y:=fun X hX=>by obtain⟨B,D,v⟩:=hX;have q:=(v.root (i:=0) δ).1;go_simp);refine tk 4 (M gt 7 7) ?_;refine tk 5 (I k) ?_;refine tk 6 (Θ gt k) ?_ (y:=fun X hX=>by have ix2:=HSx.out;go_simp);refine tk 7 (I rk) ?_ (y:=fun X hX=>by obtain⟨B,D,v⟩:=hX;have q:=HSc.out _ _ _ v;go_simp);refine tk 8 (Ψ o) ?_;refine tk 9 (Θ G.gr rk) ?_ (y:=fun X hX=>by have ix2:=HRx.out;go_simp);refine wo 10 ?_;have HX:=hid hX;clear hX;unfold wpOp;go_simp;have hX: ∃F2 h2,RC w G (BR g gs gt vs) (Y1.drew.setCell ⟨G.gr,rk,none⟩ (Ψ o)) F2 h2:=⟨F1,_,HC1.out.drew.setR rk o x2⟩;refine .inl ⟨hX,?_⟩;refine wpAnyH_done κ ?_ _;have hc2:=(HC1.out.setR rk o x2).drew;obtain⟨Y2,hY2⟩:=ξ ((Y1.setCell ⟨G.gr,rk,none⟩ (Ψ (o:Nat))).drew);rw[<-hY2]at hc2 ⊢;have U:=hid hc2;clear hX hc2 hY2 fz cg HC1 HSx HSc HRx;by_cases hk0:k=0
   ·obtain⟨z1,z2⟩:=HX3.out hk0;subst hk0 z1;have HZ2:=hid z2;clear z2 HX3 HX4 d1 d2 l1;go_wp2_with fail;have hX: ∃F2 h2,RC w G (BR g gs gt vs) Y2.drew F2 h2:=⟨F1,_,U.out.drew⟩;have fz5:Y2.frozen? ⟨G.gr,5,none⟩=false:=U.out.free 5;have fz7:Y2.frozen? ⟨G.gr,7,none⟩=false:=U.out.free 7;have fz9:Y2.frozen? ⟨G.gr,9,none⟩=false:=U.out.free 9;have cg5:Y2.cell? ⟨G.gr,5,none⟩=some (.int .u32 _):=(U.out.root (i:=5) δ).2.1;have cg7:Y2.cell? ⟨G.gr,7,none⟩=some (.int .u32 _):=(U.out.root (i:=7) δ).2.1;have cg9:Y2.cell? ⟨G.gr,9,none⟩=some (.int .u32 _):=(U.out.root (i:=9) δ).2.1;have ix5: ∀W,(Instr.indexAt 44 (M G.gr 64 64) (I 5)).run prog W= .ok (Θ G.gr 5) W:=(U.out.root (i:=5) δ).2.2;have ix7: ∀W,(Instr.indexAt 44 (M G.gr 64 64) (I 7)).run prog W= .ok (Θ G.gr 7) W:=(U.out.root (i:=7) δ).2.2;have ix9: ∀W,(Instr.indexAt 44 (M G.gr 64 64) (I 9)).run prog W= .ok (Θ G.gr 9) W:=(U.out.root (i:=9) δ).2.2;refine wp_region_held (S:=fun Y=> ∃F2 h2,RC w G (BR g gs gt vs) Y F2 h2) κ ?_;refine tk 0 (E G.p) ?_;refine tk 1 (E G.p) ?_;refine tk 2 (Θ G.p 2) ?_;refine tk 3 (M G.gr 64 64) ?_ (y:=fun X hX=>by obtain⟨B,D,v⟩:=hX;have q:=(v.root (i:=0) δ).1;go_simp);refine tk 4 (E G.p) ?_;refine tk 5 (E G.p) ?_;refine tk 6 (Θ G.p 2) ?_;refine tk 7 (M G.gr 64 64) ?_ (y:=fun X hX=>by obtain⟨B,D,v⟩:=hX;have q:=(v.root (i:=0) δ).1;go_simp);refine tk 8 (E G.p) ?_;refine tk 9 (E G.p) ?_;refine tk 10 (Θ G.p 2) ?_;refine tk 11 (M G.gr 64 64) ?_ (y:=fun X hX=>by obtain⟨B,D,v⟩:=hX;have q:=(v.root (i:=0) δ).1;go_simp);refine tk 12 (Ψ o) ?_;refine tk 13 (Ψ o) ?_;refine tk 14 (Ψ o) ?_;refine tk 15 (Θ G.gr 5) ?_;refine wo 16 ?_;clear hX;unfold wpOp;go_simp;have hX: ∃F2 h2,RC w G (BR g gs gt vs) (Y2.drew.setCell ⟨G.gr,5,none⟩ (Ψ o)) F2 h2:=⟨F1,_,(U.out.drew.setR 5 o x2)⟩;refine .inl ⟨hX,?_⟩;refine tk 17 (Θ G.gr 7) ?_;refine wo 18 ?_;clear hX;unfold wpOp;go_simp;have hX: ∃F2 h2,RC w G (BR g gs gt vs) ((Y2.drew.setCell ⟨G.gr,5,none⟩ (Ψ o)).setCell ⟨G.gr,7,none⟩ (Ψ o)) F2 h2:=⟨F1,_,((U.out.drew.setR 5 o x2).setR 7 o x2)⟩;refine .inl ⟨hX,?_⟩;refine tk 19 (Θ G.gr 9) ?_;refine wo 20 ?_;clear hX;unfold wpOp;go_simp;have hX: ∃F2 h2,RC w G (BR g gs gt vs) (((Y2.drew.setCell ⟨G.gr,5,none⟩ (Ψ o)).setCell ⟨G.gr,7,none⟩ (Ψ o)).setCell ⟨G.gr,9,none⟩ (Ψ o)) F2 h2:=⟨F1,_,(((U.out.drew.setR 5 o x2).setR 7 o x2).setR 9 o x2)⟩;refine .inl ⟨hX,?_⟩;refine wpAnyH_done κ ?_ _;have hc3:=(((U.out.setR 5 o x2).setR 7 o x2).setR 9 o x2).drew;obtain⟨Y3,hY3⟩:=ξ ((((Y2.setCell ⟨G.gr,5,none⟩ (Ψ o)).setCell ⟨G.gr,7,none⟩ (Ψ o)).setCell ⟨G.gr,9,none⟩ (Ψ o)).drew);rw[<-hY3]at hc3 ⊢;have HC3:=hid hc3;clear hX hc3 hY3 fz5 fz7 fz9 cg5 cg7 cg9 ix5 ix7 ix9 U;go_wp2;go_roundw;case rel=>exact⟨0+1,F1,_,δ,by simp,HC3,hid (.inr ⟨Nat.succ_pos _,HZ2.out⟩)⟩
    case measure=>simp[intOf]
   ·have HZ4:=hid (HX4.out hk0);have e0:((k:Int)==0)=false:=nE
    have e0':(k==0)=false:=nE;generalize Limb.setR h1' rk o=hq at*
    clear HX3 HX4 l1;go_wp2;go_roundw;case rel=>exact⟨k+1,F1,hq,h0,by simp,U,hid (.inr ⟨Nat.succ_pos _,HZ4.out⟩)⟩
    case measure=>exact μ
  ·obtain rfl:k=7:=ω
   rw[(φ:((7:Nat):Int)=7)];have d1:decide ((7:Int)<7)=false:=rfl
   have hA0:hk=hA:=by
    rcases HR.out with⟨e1,_⟩|⟨_,e2⟩
    ·cases e1
    ·exact Option.some.inj e2
   subst hA0;have hmm:= @run_makeMap prog;obtain⟨b,hb⟩:=ξ wr.heap.size;obtain⟨V,hV⟩:=ξ (wr.alloc (.map #[] 0));have hbV:Below wr.heap.size wr V:=by rw[hV];exact(Below.refl _ _).alloc ι _
   have hMt:MetasAt V b 0 []:=(by rw[hV,hb];exact MetasAt.made wr);have HBW:=hid (show w.heap.size<=b by rw[hb];exact HC.out.st.2.2.size);have hc1:=HC.out.below hbV;have HC1:=hid (hc1.with (pZ g gs gt b vs []) ⟨hc1.ex,hMt⟩);have HV:=hid hV;have HB:=hid hb;have HP0:=hid (show dp (tenOn.drop 0) hk=some (ms,hP)from HPr.out);clear hb hV hbV hMt hc1 HC HR HF HPr;go_wp2;rw[<-HV.out,<-HB.out];clear HV HB hmm;go_loopw[11] (fun i wr=> ∃(k:Nat) (F:RFoot) (hq:Hp) (T mr:List Nat),k<=22/\i= .int .i64 k/\Hid (T.length=k)/\Hid (RC w G (BM g gs gt b vs T) wr F hq)/\Hid (dp (tenOn.drop k) hq=some (mr,hP))/\Hid (T++mr=ms)) (fun i _=>22-(intOf i).toNat);case atStart=>exact⟨0,F,hk,[],ms,Nat.zero_le _,rfl,hid rfl,HC1,HP0,hid rfl⟩
   case round=>
    clear HC1 HP0 HGd;obtain⟨k,F2,hq,T,mr,hkn2,rfl,HLd,HC,HPr,HAp⟩:=hrel;by_cases h0:k<22
    ·have d1:decide ((k:Int)<22)=true:=dT;have d2:decide (k<22)=true:=decide_eq_true h0;have hr:=HPr.out;rw[Bw k h0]at hr;obtain⟨c,m,q1,q2,ms',x1,x2,x3,x4,x5,x6,x7⟩:=wP HC.out.hp.good ω hr;have HPa:=hid (DF HC.out c m q1 q2 x1 x2);have HAp2:=hid (show(T++[m])++ms'=ms by rw[<-HAp.out,x6,List.append_assoc];rfl);have HPr2:=hid (show dp (tenOn.drop (k+1)) (Limb.setR q2 (10+k) c)=some (ms',hP)from x7);have HLd2:=hid (show(T++[m]).length=k+1 by rw[List.length_append,HLd.out];rfl)
     have ixr: ∀W,(Instr.indexAt 44 (M G.gr 64 64) (I (10+(k:Int)))).run prog W= .ok (Θ G.gr (10+k)) W:=by
      have:=(HC.out.root (i:=10+k) ω).2.2;rw[Int.natCast_add]at this;exact this
     clear hr x1 x2 x5 x6 x7 HPr HAp HC;go_wp2_with fail;refine(HPa.out).mono ?_;rintro e Y1 ⟨rfl,F3,Q⟩;have c2:=(Q.root (i:=0) δ).1;have fz:=Q.free (10+k);have hc2:=Q.setR (10+k) c x3;obtain⟨Y2,hY2⟩:=ξ (Y1.setCell ⟨G.gr,10+k,none⟩ (Ψ (c:Nat)));rw[<-hY2]at hc2;obtain⟨Y3,hU,hc3⟩:=BY hc2 HBW.out (by have:=HLd.out;omega) m x4;rw[HLd.out]at hU;rw[hY2]at hU;have HU:=hid hU;have HC3:=hid hc3;clear hc2 hY2 hU hc3 HPa x3 x4;have cg:=(Q.root (i:=10+k) ω).2.1;clear Q;go_wp2_with(at_mapUpdate;refine iU _ rfl _ _ _ _ rfl _ _ _ rfl rfl rfl _ HU.out ?_);clear c2 fz ixr cg;go_roundw;case rel=>exact⟨k+1,F3,_,T++[m],ms',h0,by simp,HLd2,HC3,HPr2,HAp2⟩
     case measure=>exact μ
    ·obtain rfl:k=22:=ω
     rw[(φ:((22:Nat):Int)=22)];have d1:decide ((22:Int)<22)=false:=rfl;have hpr:=Option.some.inj HPr.out;rw[Prod.mk.injEq]at hpr;obtain⟨e1,e2⟩:=hpr;have hap:=HAp.out;rw[<-e1,List.append_nil]at hap;subst hap e2;have HC0:=hid HC.out;have HG0:=hid (Limb.Grow.refl HC.out.hp.good);have HW0:=hid (show cM T 0 (plans.drop 0) hq=cM T 0 plans hq from rfl);obtain⟨hW,hhW⟩:=ξ (cM T 0 plans hq);have hz:=HZ.out;rw[<-hhW]at HW0 hz;have HZ2:=hid hz;clear hz HZ hhW e1 HPr HAp HC;go_wp2;go_loopw[15] (fun i wr=> ∃(k:Nat) (F:RFoot) (A:Hp),k<=22/\i= .int .i64 k/\Hid (RC w G (BM g gs gt b vs T) wr F A)/\Hid (Limb.Grow hq A)/\Hid (cM T k (plans.drop k) A=hW)) (fun i _=>22-(intOf i).toNat);case atStart=>exact⟨0,F2,hq,Nat.zero_le _,rfl,HC0,HG0,HW0⟩
     case round=>
      clear HC0 HG0 HW0;obtain⟨k,F3,A,hkn3,rfl,HC,HG,HWr⟩:=hrel;by_cases h0:k<22
      ·have d1:decide ((k:Int)<22)=true:=dT;have d2:decide (k<22)=true:=decide_eq_true h0;have hw:=HWr.out;rw[ja h0]at hw;have hw:cM T (k+1) (plans.drop (k+1)) (tG A T k (plans.getD k ⟨[],0,0,false,[]⟩))=hW:=hw;rw[BW]at hw;have hPk:=HPd.out.grow HG.out;obtain⟨l1,l2⟩:=wV k h0;have psup:=BB k h0;have HRow:=hid (fun Y F1 h1 (c:RC w G (BM g gs gt b vs T) Y F1 h1)=>c.ex.1.1.cells h0)
       have HFx:=hid (fun Y F1 h1 (c:RC w G (BM g gs gt b vs T) Y F1 h1)=>show Calls prog 69 #[M g 22 22,I (10+(k:Int))] Y fun e w'=>e= .returned (I (bu 6 (10+k)))/\Y=w' from by
        have:=CC c.ex.1.1 k h0;rw[Int.natCast_add]at this;exact this)
       have hlm:T.length=22:=HPd.out.len;have HLk:=hid (fun Y F1 h1 (c:RC w G (BM g gs gt b vs T) Y F1 h1) j (hj:j<22)=>qL c ω (j:=j) ω)
       have HLkk:=hid (fun Y F1 h1 (c:RC w G (BM g gs gt b vs T) Y F1 h1)=>show(Instr.lookup 125 (.map (some b)) (I (10+(k:Int))) false).run prog Y= .ok (Ψ (wd T k:Nat)) Y from by
        have:=qL c ω (j:=k) ω;rw[Int.natCast_add]at this;exact this)
       have ixr: ∀W,(Instr.indexAt 44 (M G.gr 64 64) (I (10+(k:Int)))).run prog W= .ok (Θ G.gr (10+k)) W:=by
        have:=(HC.out.root (i:=10+k) ω).2.2;rw[Int.natCast_add]at this;exact this
       have HIr:=hid (fun i (hi:i<64)=>(HC.out.root (i:=i) hi).2.2);have ix0: ∀W,(Instr.indexAt 44 (M G.gr 64 64) (I 0)).run prog W= .ok (E G.gr) W:=(HC.out.root (i:=0) δ).2.2;have ix11: ∀W,(Instr.indexAt 44 (M G.gr 64 64) (I 11)).run prog W= .ok (Θ G.gr 11) W:=(HC.out.root (i:=11) δ).2.2;have ix:=fun W=>eG (P:=prog) 5 δ 65 71 underlying65 jg g 22 22 W .i64 k h0
       have i0:=hPk.low 0 δ;have i11:isO A (wd A.rt 11)=true:=aH (hPk.cls 1 δ);have i12:isO A (wd A.rt 12)=true:=aH (hPk.cls 2 δ);have icl:=hPk.cls k h0;have imt:=hPk.met k h0;have hwl:=fun b=>wR (b:=b) l1 l2
       have HNu:=hid (fun Y=>zL Y (plans.getD k ⟨[],0,0,false,[]⟩).fmt (bu 6 (10+k)) (plans.getD k ⟨[],0,0,false,[]⟩).idx l1 l2)
       have HSupO:=hid (fun(e:(plans.getD k ⟨[],0,0,false,[]⟩).sup≠0)=>show 10<=(plans.getD k ⟨[],0,0,false,[]⟩).sup/\(plans.getD k ⟨[],0,0,false,[]⟩).sup<32/\isO A (wd A.rt (plans.getD k ⟨[],0,0,false,[]⟩).sup)=true/\isO A (wd T ((plans.getD k ⟨[],0,0,false,[]⟩).sup-10))=true from by
        rcases psup with x|x
        ·exact absurd x e
        ·have a1:=aH (hPk.cls ((plans.getD k ⟨[],0,0,false,[]⟩).sup-10) ω);rw[show 10+((plans.getD k ⟨[],0,0,false,[]⟩).sup-10)=(plans.getD k ⟨[],0,0,false,[]⟩).sup by omega]at a1;exact⟨x.1,x.2,a1,aH (hPk.met ((plans.getD k ⟨[],0,0,false,[]⟩).sup-10) ω)⟩)
       generalize plans.getD k ⟨[],0,0,false,[]⟩=p at*
       obtain⟨wn,hwn⟩:=ξ (bA p.fmt (bu 6 (10+k)) p.idx);rw[<-hwn]at hw HNu;have hwn1:wn<100000:=by rw[hwn];exact hwl _
       obtain⟨m,hm⟩:=ξ (wd T k);rw[<-hm]at HLkk hw imt;have HWi:=hid (fun s tt (hs:isO A s=true) (ht:isO A tt=true) Y F1 (c:RC w G (BM g gs gt b vs T) Y F1 A)=>DM c (wd A.rt (10+k)) m (wd A.rt 0) s tt wn icl imt i12 i0 hs ht hwn1);have HGw:=hid (fun s tt (hs:isO A s=true) (ht:isO A tt=true)=>HG.out.trans (yD (c:=wd A.rt (10+k)) (m:=m) (n:=wd A.rt 0) (s:=s) (t:=tt) (fm:=wn) HG.out.good icl imt i12 i0 hs ht hwn1))
       have L:=hid (fun Y F1 h1 (er:h1.rt=A.rt) (c:RC w G (BM g gs gt b vs T) Y F1 h1) i (hi:i<64)=>show Y.cell? ⟨G.p,2,none⟩=O (M G.gr 64 64)/\Y.cell? ⟨G.gr,i,none⟩=O (Ψ (wd A.rt i:Nat))from by
        have:=c.root hi;rw[er]at this;exact⟨this.1,this.2.1⟩)
       generalize bu 6 (10+k)=fx at*
       have HI0:=hid i0;have HI11:=hid i11;have HWW:=hid hw;clear hwn hm hw hPk hwl i0 i11 i12 icl imt hlm psup HWr l1 l2 hwn1;go_wp2;refine bH (fun Y=> ∃B,RC w G (BM g gs gt b vs T) Y B A) κ κ ⟨F3,HC.out.drew⟩ ?_;show wpQuiet _ _ _ _ [_,_,_,_,_,_,_,_,_,_,_,_,_,_] _
       refine qa (E G.p) ?_;refine qa (E G.p) ?_;refine qa (Θ G.p 2) ?_;refine qa (M G.gr 64 64) ?_ (f:=by intro Y Q;obtain⟨B,v⟩:=Q;have q:=(L.out _ _ _ rfl v 0 δ).1;go_simp);refine qa (E G.gr) ?_;refine qa (Ψ (wd A.rt 0:Nat)) ?_ (f:=by intro Y Q;obtain⟨B,v⟩:=Q;have q:=(L.out _ _ _ rfl v 0 δ).2;go_simp);refine qa (E G.p) ?_;refine qa (E G.p) ?_;refine qa (Θ G.p 2) ?_;refine qa (M G.gr 64 64) ?_ (f:=by intro Y Q;obtain⟨B,v⟩:=Q;have q:=(L.out _ _ _ rfl v 0 δ).1;go_simp);refine qa (Θ G.gr 11) ?_;refine qa (Ψ (wd A.rt 11:Nat)) ?_ (f:=by intro Y Q;obtain⟨B,v⟩:=Q;have q:=(L.out _ _ _ rfl v 11 δ).2;go_simp);refine qa (Ψ (wd A.rt 0:Nat)) ?_;refine qa (Ψ (wd A.rt 11:Nat)) ?_;refine wpQuiet_nil ?_;rintro V24 ⟨F24,Q⟩;have HC1:=hid Q;obtain⟨p0,p1,p2,p3,p4⟩:=HRow.out _ _ _ Q;clear Q HC;by_cases hs0:p.sup=0
       ·have hww:=HWW.out;rw[if_pos hs0,if_pos hs0]at hww;have HWn:=hid hww;have HGn:=hid (HGw.out (wd A.rt 0) (wd A.rt 11) HI0.out HI11.out);have HWk:=hid (fun Y F1 (c:RC w G (BM g gs gt b vs T) Y F1 A)=>HWi.out (wd A.rt 0) (wd A.rt 11) HI0.out HI11.out Y F1 c);have e0:((p.sup:Int) != 0)=false:=by rw[hs0];rfl
        have e0':(p.sup != 0)=false:=(by rw[hs0];rfl);rw[hs0]at p1;generalize Limb.am A (wd A.rt (10+k)) m (wd A.rt 0) (wd A.rt 0) (wd A.rt 11) wn=hx2 at*
        clear hww HWW HWi HGw HSupO HI0 HI11 p0 p2 p3 p4 hs0 e0 e0';go_wp2_with fail;clear p1;have HRE:=hid (show hx2.rt=A.rt from HGn.out.rt.trans HG.out.rt.symm);have hc:=HC1.out.drew;have hX: ∃B D,D.rt=A.rt/\RC w G (BM g gs gt b vs T) V24.drew B D:=⟨_,_,rfl,hc⟩;refine wp_region_held (S:=fun Y=> ∃B D,D.rt=A.rt/\RC w G (BM g gs gt b vs T) Y B D) κ ?_;refine tk 0 (E G.p) ?_;refine tk 1 (E G.p) ?_;refine tk 2 (E G.p) ?_;refine tk 3 (Θ G.p 2) ?_;refine tk 4 (M G.gr 64 64) ?_ (y:=fun X hX=>by obtain⟨B,D,e9,v⟩:=hX;have q:=(L.out _ _ _ e9 v 0 δ).1;go_simp);refine tk 5 (I k) ?_;refine tk 6 (I (10+(k:Int))) ?_ (y:=fun X hX=>by go_simp;(first |done|exact aF ω ω|omega));refine tk 7 (Θ G.gr (10+k)) ?_;refine tk 8 (Ψ (wd A.rt (10+k):Nat)) ?_ (y:=fun X hX=>by obtain⟨B,D,e9,v⟩:=hX;have q:=(L.out _ _ _ e9 v (10+k) ω).2;go_simp);refine tk 9 (.map (some b)) ?_;refine tk 10 (I k) ?_;refine tk 11 (I (10+(k:Int))) ?_ (y:=fun X hX=>by go_simp;(first |done|exact aF ω ω|omega));refine tk 12 (Ψ m) ?_ (y:=fun X hX=>by obtain⟨B,D,e9,v⟩:=hX;have q:=HLkk.out _ _ _ v;go_simp);refine tk 13 (E G.p) ?_;refine tk 14 (E G.p) ?_;refine tk 15 (Θ G.p 2) ?_;refine tk 16 (M G.gr 64 64) ?_ (y:=fun X hX=>by obtain⟨B,D,e9,v⟩:=hX;have q:=(L.out _ _ _ e9 v 0 δ).1;go_simp);refine tk 17 (E G.gr) ?_;refine tk 18 (Ψ (wd A.rt 0:Nat)) ?_ (y:=fun X hX=>by obtain⟨B,D,e9,v⟩:=hX;have q:=(L.out _ _ _ e9 v (0) δ).2;go_simp);refine tk 19 (Ψ (wd A.rt 0:Nat)) ?_;refine tk 20 (Ψ (wd A.rt 11:Nat)) ?_;refine tk 21 (M g 22 22) ?_;refine tk 22 (I k) ?_;refine tk 23 (Θ g (5*k)) ?_;refine tk 24 (Θ g (5*k+2)) ?_;refine tk 25 (I p.fmt) ?_ (y:=fun X hX=>by obtain⟨B,D,e9,v⟩:=hX;have q:=(HRow.out _ _ _ v).2.2.1;go_simp);refine tk 26 (M g 22 22) ?_;refine tk 27 (I k) ?_;refine tk 28 (I (10+(k:Int))) ?_ (y:=fun X hX=>by go_simp;(first |done|exact aF ω ω|omega));refine tk 30 (M g 22 22) ?_;refine tk 31 (I k) ?_;refine tk 32 (Θ g (5*k)) ?_;refine tk 33 (Θ g (5*k+4)) ?_;refine tk 34 (.bool p.idx) ?_ (y:=fun X hX=>by obtain⟨B,D,e9,v⟩:=hX;have q:=(HRow.out _ _ _ v).2.2.2.2;go_simp);refine wo 29 ?_;unfold wpOp;go_simp;refine .inl ((HFx.out _ _ _ hc).mono ?_);rintro e X1 ⟨rfl,rfl⟩;refine⟨hX,?_⟩;refine wo 35 ?_;unfold wpOp;go_simp;refine .inl ((HNu.out _).mono ?_);rintro e X2 ⟨rfl,rfl⟩;refine⟨hX,?_⟩;refine wo 36 ?_;unfold wpOp;go_simp;refine .inl ((HWk.out _ _ hc).mono ?_);rintro e X3 ⟨rfl,F28,hc2⟩;replace hX: ∃B D,D.rt=A.rt/\RC w G (BM g gs gt b vs T) X3 B D:=⟨F28,hx2,HRE.out,hc2⟩;refine⟨hX,?_⟩;refine wpAnyH_done κ ?_ _;have U:=hid hc2;clear hX hc2 hc HC1 HNu HFx HLkk HRow HWk;go_wp2;go_roundw;case rel=>exact⟨k+1,F28,hx2,h0,by simp,U,HGn,HWn⟩
        case measure=>exact μ
       ·obtain⟨s1,s2,s3,s4⟩:=HSupO.out hs0;have hww:=HWW.out;rw[if_neg hs0,if_neg hs0]at hww;have HWn:=hid hww;have HGn:=hid (HGw.out (wd A.rt p.sup) (wd T (p.sup-10)) s3 s4);have HWk:=hid (fun Y F1 (c:RC w G (BM g gs gt b vs T) Y F1 A)=>HWi.out (wd A.rt p.sup) (wd T (p.sup-10)) s3 s4 Y F1 c);have e0:((p.sup:Int) != 0)=true:=by rw[bne_iff_ne];omega
        have e0':(p.sup != 0)=true:=by rw[bne_iff_ne];omega
        have HLs:=hid (fun Y F1 h1 (c:RC w G (BM g gs gt b vs T) Y F1 h1)=>show(Instr.lookup 125 (.map (some b)) (I (p.sup:Int)) false).run prog Y= .ok (Ψ (wd T (p.sup-10):Nat)) Y from by
         have:=HLk.out _ _ _ c (p.sup-10) ω;rw[(ω:10+(p.sup-10)=p.sup)]at this;exact this)
        have ixs:=HIr.out p.sup ω;have HRs:=hid (fun Y F1 (c:RC w G (BM g gs gt b vs T) Y F1 A)=>(L.out Y F1 _ rfl c p.sup ω).2);generalize Limb.am A (wd A.rt (10+k)) m (wd A.rt 0) (wd A.rt p.sup) (wd T (p.sup-10)) wn=hx2 at*
        obtain⟨s,hs⟩:=ξ (wd A.rt p.sup);obtain⟨tt,ht⟩:=ξ (wd T (p.sup-10));rw[<-hs]at HWk HRs;rw[<-ht]at HWk HLs;clear hww HWW HWi HGw HSupO HI0 HI11 p0 p2 p3 p4 hs0 s1 s2 s3 s4 hs ht HLk HIr;go_wp2_with fail;clear p1 e0 e0';refine bH (fun Y=> ∃B,RC w G (BM g gs gt b vs T) Y B A) κ κ ⟨F24,HC1.out.drew⟩ ?_;show wpQuiet _ _ _ _ [_,_,_,_,_,_,_,_,_,_,_,_,_,_,_,_,_,_,_,_] _
        refine qa (E G.p) ?_;refine qa (E G.p) ?_;refine qa (Θ G.p 2) ?_;refine qa (M G.gr 64 64) ?_ (f:=by intro Y Q;obtain⟨B,v⟩:=Q;have q:=(L.out _ _ _ rfl v 0 δ).1;go_simp);refine qa (M g 22 22) ?_;refine qa (I k) ?_;refine qa (Θ g (5*k)) ?_;refine qa (Θ g (5*k+1)) ?_;refine qa (I p.sup) ?_ (f:=by intro Y Q;obtain⟨B,v⟩:=Q;have q:=(HRow.out _ _ _ v).2.1;go_simp);refine qa (Θ G.gr p.sup) ?_;refine qa (Ψ s) ?_ (f:=by intro Y Q;obtain⟨B,v⟩:=Q;have q:=HRs.out _ _ v;go_simp);refine qa (.map (some b)) ?_;refine qa (M g 22 22) ?_;refine qa (I k) ?_;refine qa (Θ g (5*k)) ?_;refine qa (Θ g (5*k+1)) ?_;refine qa (I p.sup) ?_ (f:=by intro Y Q;obtain⟨B,v⟩:=Q;have q:=(HRow.out _ _ _ v).2.1;go_simp);refine qa (Ψ tt) ?_ (f:=by intro Y Q;obtain⟨B,v⟩:=Q;have q:=HLs.out _ _ _ v;go_simp);refine qa (Ψ s) ?_;refine qa (Ψ tt) ?_;refine wpQuiet_nil ?_;rintro V26 ⟨F26,Q⟩;clear HC1;have HC1:=hid Q;clear Q HRs HLs ixs;go_wp2_with fail;have HRE:=hid (show hx2.rt=A.rt from HGn.out.rt.trans HG.out.rt.symm);have hc:=HC1.out.drew;have hX: ∃B D,D.rt=A.rt/\RC w G (BM g gs gt b vs T) V26.drew B D:=⟨_,_,rfl,hc⟩;refine wp_region_held (S:=fun Y=> ∃B D,D.rt=A.rt/\RC w G (BM g gs gt b vs T) Y B D) κ ?_;refine tk 0 (E G.p) ?_;refine tk 1 (E G.p) ?_;refine tk 2 (E G.p) ?_;refine tk 3 (Θ G.p 2) ?_;refine tk 4 (M G.gr 64 64) ?_ (y:=fun X hX=>by obtain⟨B,D,e9,v⟩:=hX;have q:=(L.out _ _ _ e9 v 0 δ).1;go_simp);refine tk 5 (I k) ?_;refine tk 6 (I (10+(k:Int))) ?_ (y:=fun X hX=>by go_simp;(first |done|exact aF ω ω|omega));refine tk 7 (Θ G.gr (10+k)) ?_;refine tk 8 (Ψ (wd A.rt (10+k):Nat)) ?_ (y:=fun X hX=>by obtain⟨B,D,e9,v⟩:=hX;have q:=(L.out _ _ _ e9 v (10+k) ω).2;go_simp);refine tk 9 (.map (some b)) ?_;refine tk 10 (I k) ?_;refine tk 11 (I (10+(k:Int))) ?_ (y:=fun X hX=>by go_simp;(first |done|exact aF ω ω|omega));refine tk 12 (Ψ m) ?_ (y:=fun X hX=>by obtain⟨B,D,e9,v⟩:=hX;have q:=HLkk.out _ _ _ v;go_simp);refine tk 13 (E G.p) ?_;refine tk 14 (E G.p) ?_;refine tk 15 (Θ G.p 2) ?_;refine tk 16 (M G.gr 64 64) ?_ (y:=fun X hX=>by obtain⟨B,D,e9,v⟩:=hX;have q:=(L.out _ _ _ e9 v 0 δ).1;go_simp);refine tk 17 (E G.gr) ?_;refine tk 18 (Ψ (wd A.rt 0:Nat)) ?_ (y:=fun X hX=>by obtain⟨B,D,e9,v⟩:=hX;have q:=(L.out _ _ _ e9 v (0) δ).2;go_simp);refine tk 19 (Ψ s) ?_;refine tk 20 (Ψ tt) ?_;refine tk 21 (M g 22 22) ?_;refine tk 22 (I k) ?_;refine tk 23 (Θ g (5*k)) ?_;refine tk 24 (Θ g (5*k+2)) ?_;refine tk 25 (I p.fmt) ?_ (y:=fun X hX=>by obtain⟨B,D,e9,v⟩:=hX;have q:=(HRow.out _ _ _ v).2.2.1;go_simp);refine tk 26 (M g 22 22) ?_;refine tk 27 (I k) ?_;refine tk 28 (I (10+(k:Int))) ?_ (y:=fun X hX=>by go_simp;(first |done|exact aF ω ω|omega));refine tk 30 (M g 22 22) ?_;refine tk 31 (I k) ?_;refine tk 32 (Θ g (5*k)) ?_;refine tk 33 (Θ g (5*k+4)) ?_;refine tk 34 (.bool p.idx) ?_ (y:=fun X hX=>by obtain⟨B,D,e9,v⟩:=hX;have q:=(HRow.out _ _ _ v).2.2.2.2;go_simp);refine wo 29 ?_;unfold wpOp;go_simp;refine .inl ((HFx.out _ _ _ hc).mono ?_);rintro e X1 ⟨rfl,rfl⟩;refine⟨hX,?_⟩;refine wo 35 ?_;unfold wpOp;go_simp;refine .inl ((HNu.out _).mono ?_);rintro e X2 ⟨rfl,rfl⟩;refine⟨hX,?_⟩;refine wo 36 ?_;unfold wpOp;go_simp;refine .inl ((HWk.out _ _ hc).mono ?_);rintro e X3 ⟨rfl,F28,hc2⟩;replace hX: ∃B D,D.rt=A.rt/\RC w G (BM g gs gt b vs T) X3 B D:=⟨F28,hx2,HRE.out,hc2⟩;refine⟨hX,?_⟩;refine wpAnyH_done κ ?_ _;have U:=hid hc2;clear hX hc2 hc HC1 HNu HFx HLkk HRow HWk;go_wp2;go_roundw;case rel=>exact⟨k+1,F28,hx2,h0,by simp,U,HGn,HWn⟩
        case measure=>exact μ
      ·obtain rfl:k=22:=ω
       rw[(φ:((22:Nat):Int)=22)];have d1:decide ((22:Int)<22)=false:=rfl;have hw:=HWr.out;have hw:A=hW:=hw;subst hw;have HC0:=hid HC.out;have HG0:=hid HG.out;have HW0:=hid (show ce (bareCls.drop 0) A=hZ from HZ2.out.symm);clear hw HWr HC HG HZ2;go_wp2;go_loopw[18] (fun i wr=> ∃(k:Nat) (F:RFoot) (Z:Hp),k<=7/\i= .int .i64 k/\Hid (RC w G (BM g gs gt b vs T) wr F Z)/\Hid (Limb.Grow hq Z)/\Hid (ce (bareCls.drop k) Z=hZ)) (fun i _=>7-(intOf i).toNat);case atStart=>exact⟨0,F3,A,Nat.zero_le _,rfl,HC0,HG0,HW0⟩
       case round=>
        clear HC0 HG0 HW0;obtain⟨k,F4,Z,hkn4,rfl,HC,HG,HCl⟩:=hrel;by_cases h0:k<7
        ·have d1:decide ((k:Int)<7)=true:=dT;have d2:decide (k<7)=true:=decide_eq_true h0;have hw:=HCl.out;have hPk:=HPd.out.grow HG.out;have ixr:=fun W=>(HC.out.root (i:=k) ω).2.2 W
         have L:=hid (fun Y F1 h1 (er:h1.rt=Z.rt) (c:RC w G (BM g gs gt b vs T) Y F1 h1) i (hi:i<64)=>show Y.cell? ⟨G.p,2,none⟩=O (M G.gr 64 64)/\Y.cell? ⟨G.gr,i,none⟩=O (Ψ (wd Z.rt i:Nat))from by
          have:=c.root hi;rw[er]at this;exact⟨this.1,this.2.1⟩)
         have HIr:=hid (fun i (hi:i<64)=>(HC.out.root (i:=i) hi).2.2);have Q:=HC.out.drew;have hX: ∃B D,D.rt=Z.rt/\RC w G (BM g gs gt b vs T) wr.drew B D:=⟨_,_,rfl,Q⟩;by_cases h3:k<3
         ·have d3:decide ((k:Int)<3)=true:=dT;have d4:decide (k<3)=true:=decide_eq_true h3;rw[F0 k h3]at hw;have hw:ce (bareCls.drop (k+1)) (Limb.setC Z (wd Z.rt k) (wd Z.rt (13+k)))=hZ:=hw;have i1:isO Z (wd Z.rt k)=true:=hPk.low k (by simp;omega)
          have i2:isO Z (wd Z.rt (13+k))=true:=by
           have:=aH (hPk.cls (3+k) ω)
           rwa [(ω:10+(3+k)=13+k)]at this
          have ixs: ∀W,(Instr.indexAt 44 (M G.gr 64 64) (I (13+(k:Int)))).run prog W= .ok (Θ G.gr (13+k)) W:=by
           have:=HIr.out (13+k) ω;rw[Int.natCast_add]at this;exact this
          have HSt:=hid (fun Y F1 (c:RC w G (BM g gs gt b vs T) Y F1 Z)=>gO c i1 (bN i2));have HGn:=hid (HG.out.trans (dy HG.out.good i1 (bN i2)));have HWn:=hid hw;have HRE:=hid (show(Limb.setC Z (wd Z.rt k) (wd Z.rt (13+k))).rt=Z.rt from rfl);generalize Limb.setC Z (wd Z.rt k) (wd Z.rt (13+k))=hy2 at*
          have HCC:=hid Q;clear hw hPk i1 i2 HIr HCl Q HC;go_wp2_with fail;have Q:=HCC.out;refine wp_region_held (S:=fun Y=> ∃B D,D.rt=Z.rt/\RC w G (BM g gs gt b vs T) Y B D) κ ?_;refine tk 0 (E G.p) ?_;refine tk 1 (E G.p) ?_;refine tk 2 (E G.p) ?_;refine tk 3 (Θ G.p 2) ?_;refine tk 4 (M G.gr 64 64) ?_ (y:=fun X hX=>by obtain⟨B,D,e9,v⟩:=hX;have q:=(L.out _ _ _ e9 v 0 δ).1;go_simp);refine tk 5 (I k) ?_;refine tk 6 (Θ G.gr k) ?_;refine tk 7 (Ψ (wd Z.rt (k):Nat)) ?_ (y:=fun X hX=>by obtain⟨B,D,e9,v⟩:=hX;have q:=(L.out _ _ _ e9 v (k) ω).2;go_simp);refine tk 8 (E G.p) ?_;refine tk 9 (E G.p) ?_;refine tk 10 (Θ G.p 2) ?_;refine tk 11 (M G.gr 64 64) ?_ (y:=fun X hX=>by obtain⟨B,D,e9,v⟩:=hX;have q:=(L.out _ _ _ e9 v 0 δ).1;go_simp);refine tk 12 (I k) ?_;refine tk 13 (I (13+(k:Int))) ?_ (y:=fun X hX=>by go_simp;(first |done|exact aF ω ω|omega));refine tk 14 (Θ G.gr (13+k)) ?_;refine tk 15 (Ψ (wd Z.rt (13+k):Nat)) ?_ (y:=fun X hX=>by obtain⟨B,D,e9,v⟩:=hX;have q:=(L.out _ _ _ e9 v (13+k) ω).2;go_simp);refine wo 16 ?_;unfold wpOp;go_simp;refine .inl ((HSt.out _ _ Q).mono ?_);rintro e X1 ⟨rfl,F5,Q⟩;replace hX: ∃B D,D.rt=Z.rt/\RC w G (BM g gs gt b vs T) X1 B D:=⟨F5,hy2,HRE.out,Q⟩;refine⟨hX,?_⟩;refine wpAnyH_done κ ?_ _;have U:=hid Q;clear hX Q HSt L HCC;go_wp2;go_roundw;case rel=>exact⟨k+1,F5,hy2,h0,by simp,U,HGn,HWn⟩
          case measure=>exact μ
         ·have d3:decide ((k:Int)<3)=false:=dF;have d4:decide (k<3)=false:=decide_eq_false h3;rw[Fc k h0 ω]at hw;obtain⟨l1,l2⟩:=Ce k h0;have hw:ce (bareCls.drop (k+1)) (Limb.setC Z (wd Z.rt (wd rts k)) (wd Z.rt 20))=hZ:=hw;have i1:isO Z (wd Z.rt (wd rts k))=true:=hPk.low (wd rts k) (by have:k=3∨k=4∨k=5∨k=6:=ω;rcases this with rfl|rfl|rfl|rfl<;>decide);have i2:isO Z (wd Z.rt 20)=true:=aH (hPk.cls 10 δ);have ix20: ∀W,(Instr.indexAt 44 (M G.gr 64 64) (I 20)).run prog W= .ok (Θ G.gr 20) W:=HIr.out 20 δ;have ixk:=fun W=>((HC.out.ex.1.2.2.sl (n:=7) rfl δ).index 62 underlying62 ic W .i64 k h0)
          have HSc:=hid (fun Y F1 h1 (c:RC w G (BM g gs gt b vs T) Y F1 h1)=>show Y.cell? ⟨gt,k,none⟩=O (I (wd rts k:Nat))from by
           have:=(c.ex.1.2.2.sl (n:=7) rfl δ).cell h0
           rwa [aJ (by exact h0)]at this)
          have ixs:=HIr.out (wd rts k) l1;have HSt:=hid (fun Y F1 (c:RC w G (BM g gs gt b vs T) Y F1 Z)=>gO c i1 (bN i2));have HGn:=hid (HG.out.trans (dy HG.out.good i1 (bN i2)));have HWn:=hid hw;have HRE:=hid (show(Limb.setC Z (wd Z.rt (wd rts k)) (wd Z.rt 20)).rt=Z.rt from rfl);generalize Limb.setC Z (wd Z.rt (wd rts k)) (wd Z.rt 20)=hy2 at*
          generalize wd rts k=rk at*
          have HCC:=hid Q;clear hw hPk i1 i2 HIr HCl Q HC l2 ixr;go_wp2_with fail;have Q:=HCC.out;refine wp_region_held (S:=fun Y=> ∃B D,D.rt=Z.rt/\RC w G (BM g gs gt b vs T) Y B D) κ ?_;refine tk 0 (E G.p) ?_;refine tk 1 (E G.p) ?_;refine tk 2 (E G.p) ?_;refine tk 3 (Θ G.p 2) ?_;refine tk 4 (M G.gr 64 64) ?_ (y:=fun X hX=>by obtain⟨B,D,e9,v⟩:=hX;have q:=(L.out _ _ _ e9 v 0 δ).1;go_simp);refine tk 5 (M gt 7 7) ?_;refine tk 6 (I k) ?_;refine tk 7 (Θ gt k) ?_;refine tk 8 (I rk) ?_ (y:=fun X hX=>by obtain⟨B,D,e9,v⟩:=hX;have q:=HSc.out _ _ _ v;go_simp);refine tk 9 (Θ G.gr rk) ?_;refine tk 10 (Ψ (wd Z.rt (rk):Nat)) ?_ (y:=fun X hX=>by obtain⟨B,D,e9,v⟩:=hX;have q:=(L.out _ _ _ e9 v (rk) l1).2;go_simp);refine tk 11 (E G.p) ?_;refine tk 12 (E G.p) ?_;refine tk 13 (Θ G.p 2) ?_;refine tk 14 (M G.gr 64 64) ?_ (y:=fun X hX=>by obtain⟨B,D,e9,v⟩:=hX;have q:=(L.out _ _ _ e9 v 0 δ).1;go_simp);refine tk 15 (Θ G.gr 20) ?_;refine tk 16 (Ψ (wd Z.rt (20):Nat)) ?_ (y:=fun X hX=>by obtain⟨B,D,e9,v⟩:=hX;have q:=(L.out _ _ _ e9 v (20) δ).2;go_simp);refine wo 17 ?_;unfold wpOp;go_simp;refine .inl ((HSt.out _ _ Q).mono ?_);rintro e X1 ⟨rfl,F5,Q⟩;replace hX: ∃B D,D.rt=Z.rt/\RC w G (BM g gs gt b vs T) X1 B D:=⟨F5,hy2,HRE.out,Q⟩;refine⟨hX,?_⟩;refine wpAnyH_done κ ?_ _;have U:=hid Q;clear hX Q HSt L HCC;go_wp2;go_roundw;case rel=>exact⟨k+1,F5,hy2,h0,by simp,U,HGn,HWn⟩
          case measure=>exact μ
        ·obtain rfl:k=7:=ω
         rw[(φ:((7:Nat):Int)=7)];have d1:decide ((7:Int)<7)=false:=rfl;have hw:=HCl.out;have hw:Z=hZ:=hw;subst hw;have HM:=hid HC.out.moved;clear hw HC HG HCl;go_wp2;go_ret;exact⟨rfl,HM.out⟩
theorem ua(w:World):Calls prog 29 #[] w fun e w'=>(∃g,e= .returned (M g 11 11)/\Row w' g 9 (sels.map sv))/\Below w w w':=by
 obtain⟨W,f,a,b,j⟩:=aA w 9 [.string ⟨#[100,111,101,115,78,111,116,85,110,100,101,114,115,116,97,110,100,58]⟩,.string ⟨#[109,117,115,116,66,101,66,111,111,108,101,97,110]⟩,.string ⟨#[99,97,110,110,111,116,82,101,116,117,114,110,58]⟩,.string ⟨#[97,98,111,117,116,84,111,82,101,116,117,114,110,58,116,104,114,111,117,103,104,58]⟩,.string ⟨#[118,97,108,117,101]⟩,.string ⟨#[118,97,108,117,101,58]⟩,.string ⟨#[118,97,108,117,101,58,118,97,108,117,101,58]⟩,.string ⟨#[118,97,108,117,101,58,118,97,108,117,101,58,118,97,108,117,101,58]⟩,.string ⟨#[100,111,73,116]⟩,.string ⟨#[115,105,103,110,97,108]⟩,.string ⟨#[117,110,119,105,110,100]⟩];have c:=hid (show Row W w 9 (sels.map sv)from a);have d:=hid b;clear a b j;subst f;go_enter func29,ntmps29;go_wp2;go_ret;exact⟨⟨_,rfl,c.out⟩,d.out⟩
theorem mJ: ∀k,k<22->okT (plans.getD k ⟨[],0,0,false,[]⟩).name=true/\0<(plans.getD k ⟨[],0,0,false,[]⟩).name.length/\((plans.getD k ⟨[],0,0,false,[]⟩).fields.all (fun t=>okT t&&decide (0<t.length)))=true/\((plans.getD k ⟨[],0,0,false,[]⟩).fields.all okT)=true/\(plans.getD k ⟨[],0,0,false,[]⟩).fields.length<=100:=δ
theorem wE: ∀k,k<11->okT (sels.getD k [])=true/\0<(sels.getD k []).length:=δ
theorem wI{h g:Hp}{c:Nat}{fs:List (List Nat)}(e:kf h c fs=some g): ∃b d a f,bR fs h=some (b,d)/\aW d (wd d.rt 20) 1 fs.length=some (a,f)/\g=Limb.putF (aY a 0 b f) c 3 a:=by
 unfold kf at e;obtain⟨⟨b,d⟩,i,j⟩:=Option.bind_eq_some_iff.1 e;obtain⟨⟨a,f⟩,k,l⟩:=Option.map_eq_some_iff.1 j;exact⟨b,d,a,f,i,k,l.symm⟩
section
variable {w X:World} {G F:RFoot} {R:World->Prop} {hk:Hp}
theorem AC(c:RC w G R X F hk)(K:Limb.Ker hk)(fs:List (List Nat))(n gf:Nat)(q:n=fs.length)(g:0<n)(i:n<=100)(p:Row X gf 9 (fs.map sv))(j:fs.all (fun t=>okT t&&decide (0<t.length))=true)(b:List Nat)(d:Hp)(r:bR fs hk=some (b,d))(a:Nat)(k:Hp)(s:aW d (wd d.rt 20) 1 fs.length=some (a,k)):Calls prog 30 #[E G.p,M gf n n] X fun e l=>e=Rt #[Ψ a,I 0]/\∃f,RC w G R l f (aY a 0 b k):=by
 rw[<-c.p];exact(CG c.hp c.bf K fs n gf q g i p (c.hp.not_mem p δ δ δ δ) j b d r a k s).mono fun e l ⟨x,f,y⟩=>⟨x,f,c.step y⟩
end
def RR(g a:Nat)(vs:List Value)(X:World):Prop:=RowsAt X g vs/\Row X a 9 (sels.map sv)
theorem z6(g b:Nat)(vs:List Value):RKeeps (RR g b vs):=(j9 g vs).and (jZ b 9 (sels.map sv) δ δ δ δ)
theorem DK(w:World)(h5w:5<=w.heap.size)(n:Nat)(h1:64<=n)(h2:n<=1048576)(hA hP hE:Hp)(ms:List Nat)(st:Limb.StepsR n hA hP ms hE):Calls prog 5 #[I n] w fun e w'=> ∃G,e=Rt #[E G.p,I 0]/\RefAt w' G hE/\Below w w w'/\∀g∈G.l,w.heap.size<=g:=by
 have HNw:=hid (Fy w n h1 h2 h5w);have HRo:=hid (fun X=>Et X);have HSp:=hid (fun X=>ua X);have HBo:=hid (fun X G (H:RefAt X G (cG n)) (h5:5<=X.heap.size) g vs (RA:RowsAt X g vs)=>Cs n h1 h2 H h5 RA hA hP hE ms st);have HP2:=hid st.paired2;obtain⟨hB,hhB⟩:=ξ (ce bareCls (cM ms 0 plans hP));have T:=st.rest;rw[<-hhB]at T HP2 HBo;obtain⟨hN,e1,e2⟩:=Option.bind_eq_some_iff.1 T;obtain⟨hS,e3,e4⟩:=Option.bind_eq_some_iff.1 e2;have HN0:=hid (show dt 0 (plans.drop 0) hB=some hN from e1);have HS0:=hid (show dV 0 (sels.drop 0) hN=some hS from e3);have HF0:=hid (show bo 0 (plans.drop 0) hS=some hE from e4);have H5:=hid h5w;clear st T e1 e2 e3 e4 hhB h5w;go_enter func5,ntmps5;go_wp2_with fail;refine(HNw.out).mono ?_;rintro e w1 ⟨G,rfl,H,hb1,hGl⟩;have HBW:=hid hb1;have HGl:=hid hGl;have HH:=hid H;clear H hb1 hGl HNw;go_wp2_with fail;refine(HRo.out w1).mono ?_;rintro e X1 ⟨⟨g,vs,rfl,hRw,-⟩,hb⟩;have h5x:=Nat.le_trans H5.out HBW.out.size;have HB1:=hid (HBo.out X1 G (HH.out.below hb) (Nat.le_trans h5x hb.size) g vs hRw);have HC0:=hid (((RC.start HH.out h5x).below hb).with (j9 g vs) hRw);clear hb hRw h5x HBo HRo HH;go_wp2_with fail;refine(HB1.out).mono ?_;rintro e X2 ⟨rfl,F,hSt⟩;have j:=hid (HC0.out.step hSt);have A:=hid (Limb.Grow.refl j.out.hp.good);clear hSt HC0 HB1;go_wp2;go_loopw[6] (fun i wr=> ∃(k:Nat) (F:RFoot) (hk:Hp),k<=22/\i= .int .i64 k/\Hid (RC w1 G (fun X=>RowsAt X g vs) wr F hk)/\Hid (Limb.Grow hB hk)/\Hid (dt k (plans.drop k) hk=some hN)) (fun i _=>22-(intOf i).toNat);case atStart=>exact⟨0,F,hB,Nat.zero_le _,rfl,j,A,HN0⟩
 case round=>
  clear j A HN0 F;obtain⟨k,F,hk,hkn,rfl,j,A,Z⟩:=hrel;by_cases h0:k<22
  ·have d1:decide ((k:Int)<22)=true:=dT;have d2:decide (k<22)=true:=decide_eq_true h0;have hr:=Z.out;rw[ja h0]at hr;have v:=HP2.out.grow A.out;obtain⟨n1,n2,n3,n4,n5⟩:=mJ k h0;obtain⟨p0,p1,p2,p3,p4⟩:=j.out.ex.cells h0;replace p0:wr.cell? ⟨g,5*k,none⟩=some (.string (cE (plans.getD k ⟨[],0,0,false,[]⟩).name)):=p0;have HNm:=hid (fun Y Q h1 (c:RC w1 G (fun X=>RowsAt X g vs) Y Q h1)=>show Y.cell? ⟨g,5*k,none⟩=some (.string (cE (plans.getD k ⟨[],0,0,false,[]⟩).name))from(c.ex.cells h0).1);have ix:=fun W=>eG (P:=prog) 5 δ 65 71 underlying65 jg g 22 22 W .i64 k h0
   have ixr: ∀W,(Instr.indexAt 44 (M G.gr 64 64) (I (10+(k:Int)))).run prog W= .ok (Θ G.gr (10+k)) W:=by
    have:=(j.out.root (i:=10+k) ω).2.2;rw[Int.natCast_add]at this;exact this
   generalize plans.getD k ⟨[],0,0,false,[]⟩=p at*
   obtain⟨b1,b2⟩:=dU n1;obtain⟨⟨o,f⟩,x1,x2⟩:=Option.bind_eq_some_iff.1 hr;obtain⟨⟨a,h3⟩,x3,x4⟩:=Option.bind_eq_some_iff.1 x2;simp only at x3 x4;obtain⟨C,i1⟩:=cI v.good b1 b2 x1;have D:=v.cls k h0;have er1:f.rt=hk.rt:=C.rt;rw[C.rt]at x3;have c1F:=C.isF _ _ _ D;have g2:=aV C.good (i:=0) (aO c1F δ) (aM C.good (aH i1));have c2O:=aH (g2.isF _ _ _ c1F);obtain⟨g3,i3⟩:=kS g2.good b1 b2 (aM g2.good c2O) x3;have hK:=v.ker;obtain⟨c,hc⟩:=ξ (wd hk.rt (10+k));rw[<-hc]at x3 D c1F g2 c2O g3;have HIn:=hid (fun Y Q (cn:RC w1 G (fun X=>RowsAt X g vs) Y Q hk)=>lY cn hK (cE p.name) (by rw[bF];exact b2) (by rw[bF];exact n2) o f (by rw[ft b1];exact x1));have L:=hid (fun Y Q (cn:RC w1 G (fun X=>RowsAt X g vs) Y Q f)=>show Calls prog 27 #[E G.p,Ψ c,I 0,Ψ o] Y fun e X'=>e= .returned (I 0)/\∃F',RC w1 G (fun X=>RowsAt X g vs) X' F' (Limb.putF f c 0 o)from gn cn (i:=0) (aO c1F δ) (bL (aH i1)) (aM C.good (aH i1)));have HSg:=hid (fun Y Q (cn:RC w1 G (fun X=>RowsAt X g vs) Y Q (Limb.putF f c 0 o))=>sm cn ((hK.grow C).grow g2) (cE p.name) (by rw[bF];exact b2) (by rw[bF];exact n2) c c2O a h3 (by rw[ft b1];exact x3));have HG2:=hid (A.out.trans ((C.trans g2).trans g3));have U:=hid (show dt (k+1) (plans.drop (k+1)) h3=some hN from x4);have HE1:=hid (show wd f.rt (10+k)=c by rw[er1,hc]);have HE2:=hid (show(Limb.putF f c 0 o).rt=f.rt from rfl);have HE3:=hid (show h3.rt=f.rt from g3.rt);generalize Limb.putF f c 0 o=h2 at*
   generalize cE p.name=sn at*
   clear hr v n1 n2 n3 n4 n5 b1 b2 x1 x2 x3 x4 C i1 D c1F g2 c2O g3 i3 hK hc er1 A Z p1 p2 p3 p4;go_wp2_with fail;refine(HIn.out _ _ j.out).mono ?_;rintro e Y1 ⟨rfl,Q,z⟩;obtain⟨c2,cr,-⟩:=z.root (i:=10+k) ω;rw[HE1.out]at cr;have O:=hid z;clear z j HIn p0;go_wp2_with fail;refine(L.out _ _ O.out).mono ?_;rintro e Y2 ⟨rfl,F2,z⟩;have HC3:=hid z;clear z O L c2 cr;go_wp2_with fail;have z:=HC3.out.drew;have hX: ∃F9 h9,h9.rt=f.rt/\RC w1 G (fun X=>RowsAt X g vs) Y2.drew F9 h9:=⟨_,_,HE2.out,z⟩;refine wp_region_held (S:=fun Y=> ∃F9 h9,h9.rt=f.rt/\RC w1 G (fun X=>RowsAt X g vs) Y F9 h9) κ ?_;refine tk 0 (E G.p) ?_;refine tk 1 (M g 22 22) ?_;refine tk 2 (I k) ?_;refine tk 3 (Θ g (5*k)) ?_;refine tk 4 (Θ g (5*k)) ?_;refine tk 5 (.string sn) ?_ (y:=fun X hX=>by obtain⟨F9,h9,e9,c9⟩:=hX;have q:=HNm.out _ _ _ c9;go_simp);refine tk 6 (E G.p) ?_;refine tk 7 (E G.p) ?_;refine tk 8 (Θ G.p 2) ?_;refine tk 9 (M G.gr 64 64) ?_ (y:=fun X hX=>by obtain⟨F9,h9,e9,c9⟩:=hX;have q:=(c9.root (i:=0) δ).1;go_simp);refine tk 10 (I k) ?_;refine tk 11 (I (10+(k:Int))) ?_ (y:=fun X hX=>by go_simp;(first |done|exact aF ω ω|omega));refine tk 12 (Θ G.gr (10+k)) ?_;refine tk 13 (Ψ c) ?_ (y:=fun X hX=>by obtain⟨F9,h9,e9,c9⟩:=hX;have q:=(c9.root (i:=10+k) ω).2.1;rw[e9,HE1.out]at q;go_simp);refine wo 14 ?_;unfold wpOp;go_simp;refine .inl ((HSg.out _ _ z).mono ?_);rintro e X1 ⟨rfl,F4,z⟩;replace hX: ∃F9 h9,h9.rt=f.rt/\RC w1 G (fun X=>RowsAt X g vs) X1 F9 h9:=⟨F4,h3,HE3.out,z⟩;refine⟨hX,?_⟩;refine tk 15 (.tuple #[Ψ a,I 0]) ?_;refine tk 16 (Ψ a) ?_;refine tk 17 (I 0) ?_;refine tk 18 (I 0) ?_;refine wpAnyH_done κ ?_ _;have HC4:=hid z;clear hX z HSg HNm HC3 ixr ix;go_wp2;go_roundw;case rel=>exact⟨k+1,F4,h3,h0,by simp,HC4,HG2,U⟩
   case measure=>exact μ
  ·obtain rfl:k=22:=ω
   rw[(φ:((22:Nat):Int)=22)];have d1:decide ((22:Int)<22)=false:=rfl;have hn:=Option.some.inj Z.out;have hn:hk=hN:=hn;subst hn;have HCk:=hid j.out;have HGk:=hid A.out;clear j A Z;go_wp2_with fail;refine(HSp.out _).mono ?_;rintro e X3 ⟨⟨gl,rfl,hSl⟩,hb⟩;have hc:=HCk.out.below hb;have j:=hid (hc.with (z6 g gl vs) ⟨hc.ex,hSl⟩);have A:=hid HGk.out;clear hb hSl hc HCk HGk HSp;go_wp2;go_loopw[10] (fun i wr=> ∃(k:Nat) (F:RFoot) (hq:Hp),k<=11/\i= .int .i64 k/\Hid (RC w1 G (RR g gl vs) wr F hq)/\Hid (Limb.Grow hB hq)/\Hid (dV k (sels.drop k) hq=some hS)) (fun i _=>11-(intOf i).toNat);case atStart=>exact⟨0,F,hk,Nat.zero_le _,rfl,j,A,HS0⟩
   case round=>
    clear j A HS0;obtain⟨k,F,hk,hkn,rfl,j,A,Z⟩:=hrel;by_cases h0:k<11
    ·have d1:decide ((k:Int)<11)=true:=dT;have d2:decide (k<11)=true:=decide_eq_true h0;have hr:=Z.out;rw[iF (show k<sels.length from h0)]at hr;have v:=HP2.out.grow A.out;obtain⟨n1,n2⟩:=wE k h0;have sl:=j.out.ex.2.sl (n:=11) rfl δ;have ix:=fun W=>sl.index 69 underlying69 kU W .i64 k h0
     have cx:wr.cell? ⟨gl,k,none⟩=some (.string (cE (sels.getD k []))):=(by rw[j.out.ex.2.ae];exact sU (show k<sels.length from h0));obtain⟨b1,b2⟩:=dU n1;obtain⟨⟨o,f⟩,x1,x2⟩:=Option.bind_eq_some_iff.1 hr;simp only at x2;obtain⟨C,i1⟩:=cI v.good b1 b2 x1;rw[C.rt]at x2;have q1:isF f (wd hk.rt 8) 1 (k+1)=true:=C.isF _ _ _ (aO v.l8 ω);have o1:=aH i1;have g2:=aV C.good q1 (aM C.good o1);have HIn:=hid (fun Y Q (cn:RC w1 G (RR g gl vs) Y Q hk)=>lY cn v.ker (cE (sels.getD k [])) (by rw[bF];exact b2) (by rw[bF];exact n2) o f (by rw[ft b1];exact x1));have L:=hid (fun Y Q (cn:RC w1 G (RR g gl vs) Y Q f)=>gn cn q1 (bL o1) (aM C.good o1));have HG2:=hid (A.out.trans (C.trans g2));have U:=hid (show dV (k+1) (sels.drop (k+1)) (Limb.putF f (wd hk.rt 8) k o)=some hS from x2);have HE1:=hid (show wd f.rt 8=wd hk.rt 8 by rw[C.rt]);have ix8: ∀W,(Instr.indexAt 44 (M G.gr 64 64) (I 8)).run prog W= .ok (Θ G.gr 8) W:=(j.out.root (i:=8) δ).2.2;generalize Limb.putF f (wd hk.rt 8) k o=h2 at*
     generalize wd hk.rt 8=l8 at*
     generalize cE (sels.getD k [])=sn at*
     clear hr v n1 n2 b1 b2 sl x1 x2 C i1 q1 o1 g2 A Z;go_wp2_with fail;refine(HIn.out _ _ j.out).mono ?_;rintro e Y1 ⟨rfl,Q,z⟩;obtain⟨c2,cr,-⟩:=z.root (i:=8) δ;rw[HE1.out]at cr;have O:=hid z;clear z j HIn cx ix;go_wp2_with fail;refine(L.out _ _ O.out).mono ?_;rintro e Y2 ⟨rfl,F2,z⟩;have HC3:=hid z;clear z O L c2 cr ix8;go_wp2;go_roundw;case rel=>exact⟨k+1,F2,h2,h0,by simp,HC3,HG2,U⟩
     case measure=>exact μ
    ·obtain rfl:k=11:=ω
     rw[(φ:((11:Nat):Int)=11)];have d1:decide ((11:Int)<11)=false:=rfl;have hn:=Option.some.inj Z.out;have hn:hk=hS:=hn;subst hn;have HC0:=hid j.out;have HG0:=hid A.out;clear j A Z;go_wp2;go_loopw[13] (fun i wr=> ∃(k:Nat) (F:RFoot) (hq:Hp),k<=22/\i= .int .i64 k/\Hid (RC w1 G (RR g gl vs) wr F hq)/\Hid (Limb.Grow hB hq)/\Hid (bo k (plans.drop k) hq=some hE)) (fun i _=>22-(intOf i).toNat);case atStart=>exact⟨0,F,hk,Nat.zero_le _,rfl,HC0,HG0,HF0⟩
     case round=>
      clear HC0 HG0 HF0;obtain⟨k,F,hk,hkn,rfl,j,A,Z⟩:=hrel;by_cases h0:k<22
      ·have d1:decide ((k:Int)<22)=true:=dT;have d2:decide (k<22)=true:=decide_eq_true h0;have hr:=Z.out;rw[ja h0]at hr;have v:=HP2.out.grow A.out;obtain⟨n1,n2,n3,n4,n5⟩:=mJ k h0;obtain⟨p0,p1,p2,p3,p4⟩:=j.out.ex.1.cells h0;have hfa:=j.out.ex.1.2.2 k h0;have ix:=fun W=>eG (P:=prog) 5 δ 65 71 underlying65 jg g 22 22 W .i64 k h0
       have ixr: ∀W,(Instr.indexAt 44 (M G.gr 64 64) (I (10+(k:Int)))).run prog W= .ok (Θ G.gr (10+k)) W:=by
        have:=(j.out.root (i:=10+k) ω).2.2;rw[Int.natCast_add]at this;exact this
       generalize plans.getD k ⟨[],0,0,false,[]⟩=p at*
       have D:=v.cls k h0;clear p0 p1 p2 p4 n1 n2;by_cases V:p.fields=[]
       ·have hr2:bo (k+1) (plans.drop (k+1)) hk=some hE:=by
         have:(if p.fields=[]then bo (k+1) (plans.drop (k+1)) hk else(kf hk (wd hk.rt (10+k)) p.fields).bind (bo (k+1) (plans.drop (k+1))))=some hE:=hr
         rwa [if_pos V]at this
        have hv:vs.getD k undef= .slice none 0 0:=(by rcases hfa with x|x;exact x.2;exact absurd V x.1);rw[hv]at p3;have U:=hid hr2;clear hr v n3 n4 n5 hfa D V hr2 hv Z ixr;go_wp2;go_roundw;case rel=>exact⟨k+1,F,hk,h0,by simp,j,A,U⟩
        case measure=>exact μ
       ·obtain⟨f,x1,x2⟩: ∃h1,kf hk (wd hk.rt (10+k)) p.fields=some h1/\bo (k+1) (plans.drop (k+1)) h1=some hE:=by
         have:(if p.fields=[]then bo (k+1) (plans.drop (k+1)) hk else(kf hk (wd hk.rt (10+k)) p.fields).bind (bo (k+1) (plans.drop (k+1))))=some hE:=hr;rw[if_neg V]at this;exact Option.bind_eq_some_iff.1 this
        obtain⟨gf,hv,rf⟩: ∃gf,vs.getD k undef= .slice (some ⟨gf,0,none⟩) p.fields.length p.fields.length/\Row wr gf 9 (p.fields.map sv):=by
         rcases hfa with x|⟨_,gf,y1,y2⟩
         ·exact absurd x.1 V
         ·exact⟨gf,y1,y2⟩
        rw[hv]at p3;have hnf:0<p.fields.length:=List.length_pos_iff.2 V;obtain⟨nf,hnf2⟩:=ξ p.fields.length;rw[<-hnf2]at p3 n5;have e3:((nf:Int)==0)=false:=nE
        have e3':(nf==0)=false:=nE;have C:=pQ v.good n4 ω D x1;obtain⟨all,hI,a,hA',y1,y2,y3⟩:=wI x1;obtain⟨g2,i2,i3⟩:=gj p.fields hk hI all v.good n4 y1;obtain⟨g3,i4⟩:=bm g2.good δ δ (show p.fields.length<=65535 by omega) y2;have g4:=iR all 0 hA' g3.good (fun x hx=>g3.isO (i2 x hx)) (by rw[Nat.zero_add,i3];exact i4);have i5:=aH (g4.isF _ _ _ i4);have gA:=(g2.trans g3).trans g4;have HNa:=hid (AC j.out v.ker p.fields nf gf hnf2 ω n5 rf n3 all hI y1 a hA' y2);have q1:=aO (gA.isF _ _ _ D) (show 3+1<=6 by decide);have L:=hid (fun Y Q (cn:RC w1 G (RR g gl vs) Y Q (aY a 0 all hA'))=>show Calls prog 27 #[E G.p,Ψ (wd hk.rt (10+k):Nat),I 3,Ψ a] Y fun e X'=>e= .returned (I 0)/\∃F',RC w1 G (RR g gl vs) X' F' f from by rw[y3];exact gn cn q1 (bL i5) (aM g4.good i5));have HE1:=hid (show wd (aY a 0 all hA').rt (10+k)=wd hk.rt (10+k) by rw[gA.rt]);have HG2:=hid (A.out.trans C);have U:=hid x2;generalize aY a 0 all hA'=hM at*
        generalize wd hk.rt (10+k)=c at*
        clear hr v n3 n4 n5 hfa D V hv Z x1 x2 hnf hnf2 C A y1 y2 y3 g2 i2 i3 g3 i4 g4 i5 gA q1 rf;go_wp2_with fail;refine(HNa.out).mono ?_;rintro e Y1 ⟨rfl,Q,z⟩;obtain⟨c2,cr,-⟩:=z.root (i:=10+k) ω;rw[HE1.out]at cr;have O:=hid z;clear z j HNa p3 ix;go_wp2_with fail;refine(L.out _ _ O.out).mono ?_;rintro e Y2 ⟨rfl,F2,z⟩;have HC3:=hid z;clear z O L c2 cr ixr;go_wp2;go_roundw;case rel=>exact⟨k+1,F2,f,h0,by simp,HC3,HG2,U⟩
        case measure=>exact μ
      ·obtain rfl:k=22:=ω
       rw[(φ:((22:Nat):Int)=22)];have d1:decide ((22:Int)<22)=false:=rfl;have hn:=Option.some.inj Z.out;have hn:hk=hE:=hn;subst hn
       have hfin:RefAt wr F hk/\Below w w wr/\∀g∈F.l,w.heap.size<=g:=by
        refine⟨j.out.hp,HBW.out.trans (j.out.st.2.2.ah HBW.out.size HGl.out),fun g hg=>?_⟩;rcases j.out.st.2.1.mem g hg with e|e
        ·exact HGl.out g e
        ·have:=HBW.out.size;omega
       have HFin:=hid hfin;have HPP:=hid j.out.p;clear hfin j A Z;go_wp2;go_ret2;exact⟨F,by rw[HPP.out];rfl,HFin.out⟩
def PartU(b N:Nat)(l:List Nat)(y:Nat):Prop:=(dL b N).map iD=l++(dL b y).map iD
theorem PartU.start(b N:Nat):PartU b N [] N:=rfl
theorem PartU.step{b N y:Nat}{l:List Nat}(h:PartU b N l y)(a:2<=b)(c:0<y):PartU b N (l++[iD (y%b)]) (y/b):=by
 unfold PartU at*
 rw[h,eJ a c];simp
theorem PartU.done{b N:Nat}{l:List Nat}(h:PartU b N l 0):l=(dL b N).map iD:=by
 unfold PartU at h;rw[fa]at h;simpa using h.symm
theorem PartU.len_lt{b N y:Nat}{l:List Nat}(h:PartU b N l y)(a:2<=b)(c:0<y):l.length<(dL b N).length:=by
 have:=congrArg List.length h;rw[eJ a c]at this;simp at this;omega
theorem ze: ∀d:_root_.Fin 36,Lib.upperB (UInt8.ofNat (sgn d.val))=UInt8.ofNat (iD d.val):=by decide+kernel
def pq(b:Nat)(z:Int):List Nat:=if z=0 then[48]else(if z<0 then[45]else[])++(dL b z.natAbs).reverse.map iD
theorem pV{b:Nat}(l:2<=b)(o:b<=36)(z:Int):oO b z=(pq b z).map UInt8.ofNat:=by
 have c: ∀n:Nat,((dL b n).reverse.map sgn).map (fun x=>Lib.upperB (UInt8.ofNat x))=((dL b n).reverse.map iD).map UInt8.ofNat:=fun n=>by
  rw[List.map_map,List.map_map];refine List.map_congr_left fun d k=>?_
  have:=xE l n d (List.mem_reverse.1 k);exact ze ⟨d,ω⟩
 unfold oO Lib.toUpperA;by_cases g:z=0
 ·subst g;rfl
 ·by_cases f:z<0
  ·have i:k7 b z=45 :: (dL b z.natAbs).reverse.map sgn:=(by unfold k7 txt;rw[if_pos f,if_neg ω]);have j:pq b z=45 :: (dL b z.natAbs).reverse.map iD:=by unfold pq;rw[if_neg g,if_pos f];rfl
   rw[i,j,List.map_map,List.map_cons,List.map_cons];have h:=c z.natAbs;rw[List.map_map]at h;congr 1;rw[<-h];simp only[List.map_map];rfl
  ·have i:k7 b z=(dL b z.natAbs).reverse.map sgn:=(by unfold k7 txt;rw[if_neg f,if_neg ω]);have j:pq b z=(dL b z.natAbs).reverse.map iD:=by unfold pq;rw[if_neg g,if_neg f];rfl
   rw[i,j,List.map_map];exact c z.natAbs
theorem Bg(W:World): ∀d:Nat,d<36->(Instr.index 9 (.string {data:= #[48,49,50,51,52,53,54,55,56,57,65,66,67,68,69,70,71,72,73,74,75,76,77,78,79,80,81,82,83,84,85,86,87,88,89,90]}) (.int .u64 (d:Int))).run prog W= .ok (.int .u8 ((iD d:Nat):Int)) W
 |0,_|1,_|2,_|3,_|4,_|5,_|6,_|7,_|8,_|9,_|10,_|11,_|12,_|13,_|14,_|15,_|16,_|17,_|18,_|19,_|20,_|21,_|22,_|23,_|24,_|25,_|26,_|27,_|28,_|29,_|30,_|31,_|32,_|33,_|34,_|35,_=>κ
 |n+36,h=>absurd h ω
def eK(l:List Nat)(k:Nat):List Nat:=List.replicate (l.length-k) 0++(l.take k).reverse
theorem tK(l:List Nat):eK l 0=List.replicate l.length 0:=by simp[eK]
theorem x9(l:List Nat):eK l l.length=l.reverse:=by simp[eK]
theorem pm(l:List Nat){k:Nat}(h:k<=l.length):(eK l k).length=l.length:=by simp[eK];omega
theorem t8(l:List Nat){k:Nat}(h:k<l.length):(eK l k).set (l.length-1-k) (wd l k)=eK l (k+1):=by
 obtain⟨m,a⟩: ∃m,l.length=k+1+m:=⟨l.length-(k+1),ω⟩;unfold eK;rw[iz h,List.reverse_append,List.reverse_cons,List.reverse_nil,List.nil_append];rw[(ω:l.length-k=m+1),(ω:l.length-1-k=m),(ω:l.length-(k+1)=m)];rw[List.replicate_succ',List.append_assoc,List.set_append_right _ _ (by simp)];simp
set_option linter.unusedSectionVars false
variable [Old]
def RNum(X:World)(z:Nat)(a:Option Addr)(n c:Nat):Prop:=n=(rep z).length/\CapB Old.top a n c/\Lay .u32 X a (rep z)
theorem RNum.below{X d:World}{z:Nat}{a:Option Addr}{n c:Nat}(h:RNum X z a n c)(f:Below X X d):RNum d z a n c:=⟨h.1,h.2.1,h.2.2.below f⟩
theorem Ev(w:World)(v1 v2:Value)(x y:Int)(h1:ApiV w v1 x)(h2:ApiV w v2 y)(lx:(rep x.natAbs).length<=1048576)(ly:(rep y.natAbs).length<=1048576)(ho:Old.top<=w.heap.size):Calls prog 132 #[v1,v2] w fun e w'=> ∃u,e= .returned u/\ApiV w' u (Nat.gcd x.natAbs y.natAbs:Nat)/\Below w w w':=by
 obtain⟨a1,c1,rfl,hc1,hl1⟩:=h1;obtain⟨a2,c2,rfl,hc2,hl2⟩:=h2;obtain⟨m1,hm1⟩: ∃m,m=(rep x.natAbs).length:=⟨_,rfl⟩;obtain⟨m2,hm2⟩: ∃m,m=(rep y.natAbs).length:=⟨_,rfl⟩;obtain⟨s1,hs1⟩: ∃s,s=decide (x<0):=⟨_,rfl⟩;obtain⟨s2,hs2⟩: ∃s,s=decide (y<0):=⟨_,rfl⟩;rw[<-hs1,<-hm1,<-hs2,<-hm2];rw[<-hm1]at lx hc1;rw[<-hm2]at ly hc2;obtain⟨r0,r1,r2,hW,hsz⟩:=fI w 24 (.bool s1) (.slice a1 m1 c1) (.bool s2) (.slice a2 m2 c2) (.bool false) (.slice none 0 0);obtain⟨V,hV⟩: ∃W,W=((w.alloc (.cells #[.bool s1,.slice a1 m1 c1] 24)).alloc (.cells #[.bool s2,.slice a2 m2 c2] 24)).alloc (.cells #[.bool false,.slice none 0 0] 24):=⟨_,rfl⟩;rw[<-hV]at r0 r1 r2 hW hsz;have HV:=hid hV;clear hV;have q1:=r0.ae 1;have q3:=r1.ae 1;simp only[yB,yC]at q1 q3;have H1:Hid (RNum V.drew x.natAbs a1 m1 c1):=hid ⟨hm1,hc1,(hl1.below hW).drewN 1⟩;have H2:Hid (RNum V.drew y.natAbs a2 m2 c2):=hid ⟨hm2,hc2,(hl2.below hW).drewN 1⟩;obtain⟨G,hG⟩:=ξ (Nat.gcd x.natAbs y.natAbs);rw[<-hG];have HG:=hid hG;clear hm1 hm2 hs1 hs2 hl1 hl2 hc1 hc2 hG hsz;have HO:=hid ho;clear ho;go_enter func132,ntmps132;go_wp2;rw[<-HV.out];go_region;go_wp2;go_loopw[5,6] (fun xv yv wr=> ∃(p q:Nat) (ax ay:Option Addr) (nx cx ny cy:Nat),xv= .slice ax nx cx/\yv= .slice ay ny cy/\Hid (RNum wr p ax nx cx)/\Hid (RNum wr q ay ny cy)/\nx<=1048576/\ny<=1048576/\Hid (Nat.gcd p q=G)/\Row wr (N2 w) 24 [.bool false,.slice none 0 0]/\Below w w wr) (fun _ yv wr=>pJ wr yv);case atStart=>exact⟨x.natAbs,y.natAbs,a1,a2,m1,c1,m2,c2,rfl,rfl,hid H1.out,hid H2.out,lx,ly,hid HG.out.symm,r2.drew,hW.drew⟩
 case round=>
  obtain⟨p,q,ax,ay,nx,cx,ny,cy,rfl,rfl,Hp,Hq,lp,lq,Hg,hR,hB⟩:=hrel;clear r0 r1 r2 q1 q3 hW H1 H2 HG lx ly;have Hm:=hid (fw (c:=cy) Hq.out.2.2 Hq.out.1);by_cases q0:0<ny
  ·have d1:decide ((0:Int)<(ny:Int))=true:=(by rw[decide_eq_true_eq];omega);have d1':decide (0<ny)=true:=by rw[decide_eq_true_eq];exact q0
   have hq0:0<q:=tW Hq.out.1 q0;have Hg2:=hid (show Nat.gcd q (p%q)=G from by rw[Nat.gcd_comm,<-Nat.gcd_rec,Nat.gcd_comm];exact Hg.out);have Hrl:=hid (Nat.mod_lt p hq0);clear q0;go_wp2_with fail;refine(qD wr ax ay p q nx ny cx cy Hp.out.2.2 Hq.out.2.2 Hp.out.1 Hq.out.1 ω ω hq0 (Nat.le_trans HO.out hB.size)).mono ?_;rintro e w5 ⟨a3,s3,d3,a4,s4,d4,rfl,hn3,hn4,hc3,hc4,hl3,hl4,hb5⟩;have Hq5:=hid (Hq.out.below hb5);have Hr5:Hid (RNum w5 (p%q) a4 s4 d4):=hid ⟨hn4,hc4,hl4⟩;have ls4:s4<=1048576:=by rw[hn4];exact Nat.le_trans (aS (Nat.le_of_lt Hrl.out)) (by rw[<-Hq.out.1];exact lq)
   have hB5:=τ hB hb5;have hR5:=hR.below hb5 hR.lt;have Hm2:=hid (fw (c:=d4) Hr5.out.2.2 Hr5.out.1);clear hn3 hn4 hc3 hc4 hl3 hl4 hb5;go_wp2;go_roundw;case rel=>exact⟨q,p%q,ay,a4,ny,cy,s4,d4,rfl,rfl,hid Hq5.out,hid Hr5.out,lq,ls4,hid Hg2.out,hR5,hB5⟩
   case measure=>rw[Hm2.out,Hm.out];exact Hrl.out
  ·have d1:decide ((0:Int)<(ny:Int))=false:=(by rw[decide_eq_false_iff_not];omega);have d1':decide (0<ny)=false:=by rw[decide_eq_false_iff_not];exact q0
   have hy0:q=0:=nQ (by rw[<-Hq.out.1];omega);have Hpg:Hid (p=G):=hid (by have h:=Hg.out;rwa [hy0,Nat.gcd_zero_right]at h);have Hmd:=hid (dQ wr false ax (rep p) nx cx (G:Nat) Hp.out.2.2 (aB _) Hp.out.1 ω Hp.out.2.1 (by rw[aE,Int.natAbs_natCast,Hpg.out]) ⟨fun h=>(by cases h),fun _=>Int.natCast_nonneg _⟩);obtain⟨z,hz⟩: ∃z:Int,z=(G:Nat):=⟨_,rfl⟩;rw[<-hz]at Hmd;have HZ:=hid hz;clear q0 hy0 hz;go_wp2_with fail;refine Hmd.out.mono ?_;rintro e w4 ⟨u,rfl,hu,hb⟩;obtain⟨a,c,rfl,k0,k1,k2,k3,e0,e1,hf⟩:=fe hR hB ω hu hb;go_wp2;refine bodyPost_ret (v:=Ω (decide (z<0)) a (rep z.natAbs).length c) (by simp[results,results132,go_sem,e0,e1]) rfl ?_;rw[<-HZ.out];exact⟨_,rfl,hf.out⟩
end Go.Proofs.YtfefijlnbhbplaaGreatDoor
namespace Go.Proofs.YtfefijlnbhbplaaGreatDoor
open Go Lib Go.RowKit Limb Go.Proofs.Tryz
set_option linter.unusedSectionVars false
variable [Old]
theorem wJ{w:World}{B:Nat}{e t:TypeId}{v:Value}{n:Nat}{xs l:List Value}{g i:Nat}(h:w.ownsRow B e 1 v n xs)(j:Row w g t l)(d:e≠t)(u:Value):(w.setCell ⟨g,i,none⟩ u).ownsRow B e 1 v n xs:=by
 obtain⟨h1,c⟩:=h;refine⟨h1,?_⟩;rcases c with c|⟨g',cap,cur,hv,hg,hh,hx⟩
 ·exact .inl c
 ·refine .inr ⟨g',cap,cur,hv,hg,?_,hx⟩
  have b:g'≠g:=fun e=>by
   subst e;unfold Row at j;rw[j]at hh;simp only[Option.some.injEq,Obj.cells.injEq]at hh;exact d hh.2.1.symm
  have k:Row w g' e cur.toList:=(by unfold Row;simpa using hh);have f:=k.other (a:=⟨g,i,none⟩) (by exact b) u;unfold Row at f;simpa using f
theorem yL(w:World)(v:Value)(z:Int)(b:Nat)(hv:ApiV w v z)(hl:(rep z.natAbs).length<=1024)(h2:2<=b)(h36:b<=36):Calls prog 133 #[v,I b] w fun e w'=>(∃s,e= .returned (.string s)/\s.data.toList=oO b z)/\Below w w w':=by
 rw[pV h2 h36];obtain⟨a00,cap,rfl,⟨hc,-⟩,hlay⟩:=hv;obtain⟨n0,hn0⟩: ∃n,n=(rep z.natAbs).length:=⟨_,rfl⟩;obtain⟨ng,hng⟩: ∃s,s=decide (z<0):=⟨_,rfl⟩;rw[<-hn0,<-hng];rw[<-hn0]at hl hc;obtain⟨W,hWe,r4,hbW,hzW⟩:=B7 w 24 (.bool ng) (.slice a00 n0 cap);have HWe:=hid hWe;clear hWe;have hWs:w.heap.size+1<=W.heap.size:=ω
 obtain⟨c0,c1⟩:=r4.two;by_cases hz:z=0
 ·have e0:n0=0:=(by rw[hn0,hz];rfl);have HD:=hid (show pq b z=[48] by unfold pq;rw[if_pos hz]);clear hn0 hng hz hlay hc hl hzW;subst e0;go_enter func133,ntmps133;go_wp2;rw[<-HWe.out];go_ret;exact⟨⟨_,rfl,by rw[HD.out];rfl⟩,hbW⟩
 ·obtain⟨N,hN⟩:=ξ z.natAbs;rw[<-hN]at hn0 hlay;have hnp:0<n0:=by have:=rep_length_zero (n:=N);omega
  have en:((n0:Int)==0)=false:=nE;obtain⟨L,hL⟩:=ξ ((dL b N).length)
  have hLL:L<=32768:=by
   rw[hL];refine Nat.le_trans (gB h2 N (32*n0) ?_) ω;have:=cK N;rw[<-hn0,dj]at this;exact this
  have HD:=hid (show pq b z=(if ng=true then[45]else[])++((dL b N).map iD).reverse by
   unfold pq;rw[if_neg hz,hng,List.map_reverse,hN];by_cases h:z<0
   ·rw[if_pos h,if_pos (decide_eq_true h)]
   ·rw[if_neg h,if_neg (by rw[decide_eq_false h];decide)])
  have HL:=hid hL;have Hn0:=hid hn0;have hlW:=hlay.below hbW;clear hL hn0 hng hz hlay hzW hN;go_enter func133,ntmps133;go_wp2;rw[<-HWe.out];go_loopw[5,6] (fun dv mv wr=> ∃(a:Option Addr) (n c y mm:Nat) (l:List Nat),mv= .slice a n c/\n<=c/\Hid (n=(rep y).length)/\n<=1024/\Lay .u32 wr a (rep y)/\wr.ownsRow (N1 w) 5 1 dv mm (aC .u8 l)/\Hid (mm=l.length)/\Hid (PartU b N l y)/\Row wr w 24 [.bool ng,.slice a00 n0 cap]/\Below w w wr/\w.heap.size+1<=wr.heap.size) (fun dv _ _=>L-B4 dv);case atStart=>exact⟨a00,n0,cap,N,0,[],rfl,hc,Hn0,hl,hlW,World.ownsRow_nil _ _ _ _,hid rfl,hid (PartU.start _ _),r4,hbW,hWs⟩
  case round=>
   clear hlW r4 hbW hWs c0 c1 hc hl hnp en Hn0;obtain⟨a,n,c,y,mm,l,rfl,hc,Hn,hl,hlay,hown,Hm,HP,r4,hB,hws⟩:=hrel;by_cases hy:y=0
   ·have n0':n=0:=(by rw[Hn.out,hy];rfl);have d1:decide (0<n)=false:=dF;have d1':decide ((0:Int)<(n:Int))=false:=dF;have HE:=hid (show l=(dL b N).map iD by have h:=HP.out;rw[hy]at h;exact h.done);have mL:mm<=32768:=by rw[Hm.out,HE.out,List.length_map,<-HL.out];exact hLL
    obtain⟨c0,c1⟩:=r4.two;clear HP hy n0' hlay;go_upto_if 61 with fail
    go_cut [5] (fun dv wx=> ∃(m2:Nat) (l2:List Nat),wx.ownsRow (N1 w) 5 1 dv m2 (aC .u8 l2)/\Hid (l2=(dL b N).map iD++(if ng=true then[45]else[]))/\m2<=32769/\Below w w wx)
    case first=>
     have hsz:=hB.size;cases ng with
     |true=>
      go_wp2_with(at_builtin;refine bG rfl _ _ 50 rfl .u8 (N1 w) 5 (.int .u8 0) 1 underlying50 iT rfl _ mm l rfl (hown.alloc _) wr.heap.size 1 rfl 45 _ (by simp) rfl ω ω (by rw[World.size_alloc];omega) ?_;intro v' w3 hown3 hb3 hszw hgr;replace hszw:=hid hszw;clear hgr);have hB4:=(hB.alloc hB.size (.cells #[.int .u8 45] 5)).trans (hb3.mono (Nat.le_succ _));clear hown hB;go_wp2_with fail;go_meet;exact⟨mm+1,l++[45],hown3,hid (by rw[HE.out];simp),ω,hB4⟩
     |false=>
      go_wp2_with fail;go_meet;exact⟨mm,l,hown,hid (by rw[HE.out];simp),ω,hB⟩
    case rest=>
    clear hown hB hws c0 c1 r4 HE Hm;obtain⟨m2,l2,hown,HE,hm2,hB⟩:=hcut;obtain⟨ad,capd,hvd,hcd,hml,hlay,-⟩:=dG hown;subst hvd;obtain⟨X,hX⟩:=ξ wc;rw[<-hX]at hlay hB hown ⊢;obtain⟨b2,off2,hix,hcx,_⟩:=hlay.use 50 5 underlying50 fJ capd;rw[<-hml]at hix hcx;have HX:=hid hix;clear hix;have HCX:=hid hcx;clear hcx;have Hml:=hid hml;clear hX hlay hown hml;go_wp2_with(at_make;refine aI rfl _ _ _ rfl 5 (.int .u8 0) 1 underlying50 iT rfl _ _ _ _ m2 m2 rfl rfl rfl rfl ι ω ω ?_;intro w1 g hg1 hg2 hrow hbel);have hB1:=τ hB hbel;have hgw:w.heap.size<=g:=Nat.le_trans hB.size hg1;go_loopw[70] (fun i wx=> ∃k:Nat,k<=m2/\i= .int .i64 k/\Row wx g 5 (aC .u8 (eK l2 k))/\Below X.heap.size X wx/\Below w w wx) (fun i _=>m2-(intOf i).toNat);case atStart=>exact⟨0,Nat.zero_le _,rfl,by rw[tK,aG,<-Hml.out];exact hrow,hbel,hB1⟩
    case round=>
     clear hrow hbel hB1;obtain⟨k,hk,rfl,hr,hbX,hB2⟩:=hrel;have hl:=hid (show(eK l2 k).length=m2 by rw[pm l2 (by rw[<-Hml.out];exact hk),<-Hml.out]);by_cases hlt:k<m2
     ·have ix:=HX.out wr .i64 k ω ω;rw[Int.toNat_natCast]at ix;have cx:=HCX.out wr hbX k hlt;obtain⟨j,hj⟩:=ξ (m2-1-k);have ej:(m2:Int)-1-(k:Int)=(j:Int):=ω
      have ej1:(0:Int)<=(m2:Int)-1:=ω;have hjm:j<m2:=ω
      have ig:=aX (P:=prog) underlying50 fJ g m2 m2 .i64 (j:Int) j rfl ω;have hcell:=hr.cell (i:=j) (by rw[hl.out];exact hjm);have hfk:=hr.free j;have hr2:=hr.store j ((wd l2 k:Nat):Int) (wd l2 k) rfl;have Hst:=hid (show(eK l2 k).set j (wd l2 k)=eK l2 (k+1) by rw[hj,Hml.out];exact t8 l2 (by rw[<-Hml.out];exact hlt));rw[Hst.out]at hr2;have hbX2:=aw hbX hg1 (i:=j) (.int .u8 ((wd l2 k:Nat):Int));have hB3:=aw hB2 hgw (i:=j) (.int .u8 ((wd l2 k:Nat):Int));clear hj hr hbX hB2;go_wp2;go_roundw;case rel=>exact⟨k+1,hlt,by go_num,hr2,hbX2,hB3⟩
      case measure=>exact μ
     ·obtain rfl:k=m2:=ω
      rw[Hml.out,x9]at hr;have hcv:=ul (P:=prog) (rest:=[]) (by rw[List.append_nil];exact hr) 50 underlying50 underlying5 k k (by rw[List.length_reverse];exact Hml.out) 9 underlying9;clear hr hbX;go_wp2;go_ret;refine⟨⟨_,rfl,?_⟩,hB2⟩;rw[HD.out]
      have e:(if ng=true then[45]else[])++((dL b N).map iD).reverse=l2.reverse:=by
       rw[HE.out,List.reverse_append];cases ng<;>rfl
      rw[e,<-List.map_reverse];exact nP _
   ·have np:0<n:=(by have h1:=rep_length_zero (n:=y);have h3:=Hn.out;omega);have d1:decide (0<n)=true:=decide_eq_true np;have d1':decide ((0:Int)<(n:Int))=true:=dT;have hmL:=hid (show mm<L by rw[Hm.out,HL.out];exact HP.out.len_lt h2 ω);have mL:=hmL.out;obtain⟨b1,off1,hix,hcx,_⟩:=hlay.use 22 25 underlying22 aK c;rw[<-Hn.out]at hix hcx;have HX:=hid hix;clear hix;have HCX:=hid hcx;clear hcx;obtain⟨ad,capd,hvd,-,-,-,-⟩:=dG hown;subst hvd;have hcy:y/b<y:=Nat.div_lt_self ω ω;clear np;go_wp2_with(at_make;refine aI rfl _ _ _ rfl 25 (Ψ 0) 4 underlying22 bz rfl _ _ _ _ n n rfl rfl rfl rfl ι ω ω ?_;intro w1 g hg1 hg2 hrow hbel);have hown1:=oR hown hbel;have r41:=r4.below hbel r4.lt;have hB1:=τ hB hbel;have hws1:w.heap.size+1<=w1.heap.size:=r41.lt;have hgw:w.heap.size+1<=g:=ω
    clear hown r4 hws;go_loopw[7,9] (fun rv i wx=> ∃(k rr:Nat) (qs:List Nat),k<=n/\i= .int .i64 ((k:Int)-1)/\rv= .int .u64 rr/\rr<b/\Hid (qs.length=n)/\Hid (Lim qs)/\Row wx g 25 (aC .u32 qs)/\Hid (val ((rep y).drop k)=b*val (qs.drop k)+rr)/\Below wr.heap.size wr wx/\wx.ownsRow (N1 w) 5 1 (.slice ad mm capd) mm (aC .u8 l)/\Row wx w 24 [.bool ng,.slice a00 n0 cap]/\Below w w wx/\w.heap.size+1<=wx.heap.size) (fun _ i _=>(intOf i+1).toNat);case atStart=>exact⟨n,0,List.replicate n 0,Nat.le_refl _,rfl,rfl,ω,hid (by simp),hid (Lim.replicate _ δ),by rw[aG];exact hrow,hid (by rw[List.drop_of_length_le (by rw[<-Hn.out];exact Nat.le_refl _),List.drop_of_length_le (by simp)];rfl),hbel,hown1,r41,hB1,hws1⟩
    case round=>
     clear hrow hbel hown1 r41 hB1 hws1;obtain⟨k,r,qs,hk,rfl,rfl,hr,Hql,Hqlim,hrw,Hv,hbl,hown,r4,hB2,hws2⟩:=hrel;by_cases h0:k=0
     ·subst h0;have hle2:=aQ Hqlim.out;have h3:=Hv.out;simp only[List.drop_zero,aE]at h3;have hq:Hid (val qs=y/b):=hid (by rw[h3,Nat.mul_add_div ω,Nat.div_eq_of_lt hr,Nat.add_zero]);have hm:Hid (r=y%b):=hid (by rw[h3,Nat.mul_add_mod,Nat.mod_eq_of_lt hr]);have HCt:=hid (ir wr (some ⟨g,0,none⟩) qs n n hrw.lay Hqlim.out Hql.out.symm ω ι);have sg:=fun W=>Bg W r ω
      have Hly:=hid (hrw.lay.norm Hqlim.out);have HP2:=hid (HP.out.step h2 (show 0<y by omega));rw[<-hm.out,<-hq.out]at HP2;rw[Hql.out]at hle2;have hsz:=hB2.size;have r4l:=r4.lt;clear h3 Hv hm Hly;go_wp2_with fail;refine HCt.out.mono ?_;rintro e w5 ⟨rfl,rfl⟩;go_wp2_with(at_builtin;refine bG rfl _ _ 50 rfl .u8 (N1 w) 5 (.int .u8 0) 1 underlying50 iT rfl _ mm l rfl (hown.alloc _) wr.heap.size 1 rfl (iD r) _ (by simp) rfl ω ω (by rw[World.size_alloc];omega) ?_;intro v' w3 hown3 hb3 hszw hgr;replace hszw:=hid hszw);have r43:=hgr w 24 _ δ (r4.alloc (.cells #[.int .u8 ((iD r:Nat):Int)] 5));have hrw3:=hgr g 25 _ δ (hrw.alloc (.cells #[.int .u8 ((iD r:Nat):Int)] 5));have Hly:=hid (show Lay .u32 w3 (some ⟨g,0,none⟩) (rep (y/b))from by rw[<-hq.out];exact hrw3.lay.norm Hqlim.out);have hB4:=(hB2.alloc hB2.size (.cells #[.int .u8 ((iD r:Nat):Int)] 5)).trans (hb3.mono (Nat.le_succ _));have hws4:w.heap.size+1<=w3.heap.size:=r43.lt;have Hs3:=hid (nB hown3);have HQn:=hid (show(rep (val qs)).length=(rep (y/b)).length by rw[hq.out]);clear hgr hown r4 hrw hrw3 hB2 hb3 hws2 sg;go_wp2;go_roundw;case rel=>exact⟨some ⟨g,0,none⟩,(rep (val qs)).length,n,y/b,mm+1,l++[iD r],rfl,hle2,hid HQn.out,ω,Hly.out,hown3,hid (by rw[List.length_append,Hm.out];rfl),hid (by rw[<-hq.out];exact HP2.out),r43,hB4,hws4⟩
      case measure=>rw[Hs3.out];simp only[B4];omega
     ·obtain⟨j,rfl⟩: ∃j,k=j+1:=⟨k-1,ω⟩;have hj:((j+1:Nat):Int)-1=(j:Int):=ω
      rw[hj];clear hj h0;have ix:=HX.out wr .i64 j ω ω;rw[Int.toNat_natCast]at ix;have cx:=HCX.out wr hbl j ω;have ig:=aX (P:=prog) underlying22 aK g n n .i64 (j:Int) j rfl ω;have hcell:=hrw.cell (i:=j) (by rw[Hql.out];omega);have hfk:=hrw.free j;have h1:=(aB y).wd j;have hst:=hid (oJ (d:=b) ω (by rw[<-Hn.out];omega) (by rw[Hql.out,Hn.out]) Hv.out);obtain⟨x,hx⟩:=ξ (wd (rep y) j);rw[<-hx]at cx h1 hst;obtain⟨t0,ht0⟩:=ξ (r*4294967296);rw[<-ht0]at hst;have eM:IntKind.u64.wrap ((r:Int)*4294967296)=(t0:Int):=by rw[IntKind.wrap_u64];omega
      have eM2:(r:Int)*4294967296=(t0:Int):=ω;obtain⟨t,ht⟩:=ξ (t0+x);rw[<-ht]at hst;have eT:IntKind.u64.wrap ((t0:Int)+(x:Int))=(t:Int):=by rw[IntKind.wrap_u64];omega
      have eT2:(t0:Int)+(x:Int)=(t:Int):=ω;have htlt:t/b<4294967296:=by rw[Nat.div_lt_iff_lt_mul ω];have:=Nat.mul_le_mul_right 4294967296 (show r+1<=b from hr);omega
      have htm:t%b<b:=Nat.mod_lt _ ω;obtain⟨q,hq⟩:=ξ (t/b);obtain⟨m,hm⟩:=ξ (t%b);have eq1:(t:Int)/(b:Int)=(q:Int):=by rw[hq,Int.natCast_ediv]
      have em1:(t:Int)%(b:Int)=(m:Int):=(by rw[hm,Int.natCast_emod]);rw[<-hq]at hst htlt;rw[<-hm]at hst htm;have hbz:b≠0:=ω
      have eqm:(q:Int)%4294967296=(q:Int):=ω;have hrw2:=hrw.store j (q:Int) q rfl;have hbl2:=aw hbl hg1 (i:=j) (Ψ (q:Int));have hB3:=aw hB2 (show w.heap.size<=g by omega) (i:=j) (Ψ (q:Int));have r43:=r4.other (a:=⟨g,j,none⟩) (by simp;omega) (Ψ (q:Int));have hown2:=wJ hown hrw δ (i:=j) (Ψ (q:Int));have hws3:w.heap.size+1<=(wr.setCell ⟨g,j,none⟩ (Ψ (q:Int))).heap.size:=r43.lt;have hlim2:=hid (Hqlim.out.set (i:=j) htlt);have hql2:=hid (show(qs.set j q).length=n by rw[List.length_set];exact Hql.out);have tl:t<18446744073709551616:=ω
      clear ht0 ht hq hm hx hown r4 hB2 hbl hrw hws2;go_wp2;go_roundw;case rel=>exact⟨j,m,qs.set j q,ω,by go_num,by rw[em1],htm,hid hql2.out,hid hlim2.out,hrw2,hid hst.out,hbl2,hown2,r43,hB3,hws3⟩
      case measure=>first |(simp[intOf];done)|(simp[intOf];omega)
end Go.Proofs.YtfefijlnbhbplaaGreatDoor
namespace Go.Proofs.YtfefijlnbhbplaaGreatDoor
open Go Lib Go.RowKit Limb Go.Proofs.Tryz
local instance awakeOld:Old:=⟨0⟩
theorem Fr{s:ByteArray}{l:List UInt8}(h:s.data.toList=l):s=⟨l.toArray⟩:=by cases s;subst h;simp
theorem A3(w:World):Calls prog 6 #[] w fun e w'=>e= .returned (.bool true)/\Below w w w':=by
 have E:=hid (fun(X:World) (v:Int) (h1: -9223372036854775808<=v) (h2:v<=9223372036854775807)=>(oy X v h1 h2 (Nat.zero_le _)).mono fun e V he=>show(∃b a n c,e= .returned (Ω b a n c)/\Hid (b=decide (v<0)/\n=(rep v.natAbs).length/\n<=c/\Lay .u32 V a (rep v.natAbs)))/\Below X X V from by
  obtain⟨u,rfl,hu,hb⟩:=he;obtain⟨b,a,n,c,rfl,hh⟩:=hu.open;exact⟨⟨b,a,n,c,rfl,hh⟩,hb⟩)
 go_enter func6,ntmps6;go_wp2_with fail;refine(E.out w 2 δ δ).mono ?_;rintro e w1 ⟨⟨b1,a1,n1,c1,rfl,H1⟩,hb1⟩
 have hP:=(my w1 b1 a1 (rep ((2:Int).natAbs)) n1 c1 100 2 H1.out.2.2.2 (aB _) H1.out.2.1 (by rw[H1.out.1];exact iq δ) (by rw[H1.out.1,iM]) δ).mono fun e V he=>show Answer true w1 V e ((2:Int)^100)from by
  rcases he with⟨k,-⟩|⟨-,k|⟨k,-⟩⟩
  ·exact absurd k δ
  ·exact k
  ·exact absurd k δ
 have HP:=hid hP;clear hP;go_wp2_with fail;refine HP.out.mono ?_;rintro e R f;obtain⟨b2,a2,n2,c2,rfl,H2,hb2⟩:=f.ok δ (Nat.zero_le _);have j:=hid H2.out.parts;clear f;have a0:Below w w R:=hb1.trans (hb2.mono hb1.size);have N:Below R R (R.alloc (.cells #[.bool b2,.slice a2 n2 c2] 24)):=(Below.refl _ _).alloc ι _;have a3:=τ a0 N;have F:=j6 (R.alloc (.cells #[.bool b2,.slice a2 n2 c2] 24)) b2 a2 (rep ((2:Int)^100).natAbs) n2 c2 10 (j.out.2.2.2.below N) (aB _) j.out.2.1 (by rw[j.out.1];exact iq δ) δ δ;rw[j.out.1,iM,wC,<-j.out.1]at F;have a4:=hid F;clear F;go_wp2_with fail;refine a4.out.mono ?_;rintro e w4 ⟨⟨s,rfl,hs⟩,hb4⟩;have a9:=Fr hs;subst a9;clear hs;have aa:=τ a3 hb4;go_wp2_with fail;refine(E.out w4 (-7) δ δ).mono ?_;rintro e w5 ⟨⟨b5,a5,n5,c5,rfl,H5⟩,hb5⟩;have ab:=τ aa hb5;go_wp2_with fail;refine(E.out w5 2 δ δ).mono ?_;rintro e w6 ⟨⟨b6,a6,n6,c6,rfl,H6⟩,hb6⟩;have ac:=τ ab hb6;have hD:=km (.inr ⟨rfl,rfl⟩) w6 b5 b6 a5 a6 (rep (-7:Int).natAbs) (rep (2:Int).natAbs) n5 n6 c5 c6 (H5.out.2.2.2.below hb6) H6.out.2.2.2 (aB _) (aB _) H5.out.2.1 H6.out.2.1 (by rw[H5.out.2.1];decide) (by rw[H6.out.2.1];decide);rw[H5.out.1,H6.out.1,iM,iM,iq δ,iq δ,<-H5.out.1,<-H6.out.1]at hD;have HD:=hid hD;clear hD;go_wp2_with fail;refine HD.out.mono ?_;rintro e y f;obtain⟨b7,L,n7,M,b8,H,n8,I,rfl,H7,hb7⟩:=DivAnswer.ok f δ (Nat.zero_le _);have z:=hid H7.out.1.parts;have B:=hid H7.out.2.parts;rw[show fb true (-7) 2= -4 from by decide]at z;rw[show fE true (-7) 2=1 from by decide]at B;clear H7 f;obtain rfl:b7=true:=z.out.1;obtain rfl:b8=false:=B.out.1;obtain rfl:n7=1:=z.out.2.1;obtain rfl:n8=1:=B.out.2.1;have hB7:=τ ac hb7
 have T:Row ((y.alloc (.cells #[.bool true,.slice L 1 M] 24)).alloc (.cells #[.bool false,.slice H 1 I] 24)) (N1 y) 24 [.bool false,.slice H 1 I]:=by
  have h:=heap_alloc_new (y.alloc (.cells #[.bool true,.slice L 1 M] 24)) (.cells #[.bool false,.slice H 1 I] 24);rw[World.size_alloc]at h;exact h
 have q:Below y y ((y.alloc (.cells #[.bool true,.slice L 1 M] 24)).alloc (.cells #[.bool false,.slice H 1 I] 24)):=((Below.refl _ _).alloc ι _).alloc (by rw[World.size_alloc];omega) _;have x:((y.alloc (.cells #[.bool true,.slice L 1 M] 24)).alloc (.cells #[.bool false,.slice H 1 I] 24)).heap.size=y.heap.size+1+1:=by rw[World.size_alloc,World.size_alloc]
 obtain⟨Y,hY⟩:=ξ ((y.alloc (.cells #[.bool true,.slice L 1 M] 24)).alloc (.cells #[.bool false,.slice H 1 I] 24));rw[<-hY]at T q x;have hB8:=τ hB7 q;have l4:=kO Y 25 .u32 4 4 rfl;rw[x]at l4;have d:Below Y.heap.size Y (Y.alloc (.cells #[Ψ 4] 25)):=(Below.refl _ _).alloc ι _;have hS:=ub _ true L (some ⟨N2 y,0,none⟩) [4] 1 M 1 ((z.out.2.2.2.below q).below d) l4 rfl δ;have C:=T.below d T.lt;have O:=τ hB8 d;obtain⟨Z,U⟩:=ξ (Y.alloc (.cells #[Ψ 4] 25));have G:=(B.out.2.2.2.below q).below d;rw[<-U]at hS C O G;have HS:=hid hS;clear hS;rw[hY]at U;have HZ:=hid U;clear U hY;clear T q x l4 d;go_wp2_with fail;rw[<-HZ.out];refine HS.out.mono ?_;rintro e S ⟨rfl,hb9⟩;have y8:=C.below hb9 C.lt;obtain⟨k0,k1⟩:=y8.two;have P:=τ O hb9;have l1:=kO S 25 .u32 1 1 rfl;have D:Below S S (S.alloc (.cells #[Ψ 1] 25)):=(Below.refl _ _).alloc ι _;have HS2:=hid (ub _ false H (some ⟨S,0,none⟩) [1] 1 I 1 ((G.below hb9).below D) l1 rfl δ);have Q:=τ P D;clear C y8 G l1;go_wp2_with fail;refine HS2.out.mono ?_;rintro e w9 ⟨rfl,hb11⟩;go_wp2_with fail;go_ret;exact⟨rfl,τ Q hb11⟩
end Go.Proofs.YtfefijlnbhbplaaGreatDoor
namespace Go.Proofs.YtfefijlnbhbplaaGreatDoor
open Go Go.ChangeShapes Go.WideShapes Go.ChangeAt Go.RowKit Limb Go.Proofs.Tryz
theorem rI{W:World}{b:Bool}{a:Addr}{c cap:Nat}{zs:List Int}(z:c<=cap)(v:cap<=maxLen)(A:zs.length=cap)(y: ∀i,i<zs.length->W.cell? (a.add i)=O (Ψ (zs.getD i 0)))(r: ∀n∈zs,(Lit.int .u32 n).wf=true): ∃l,Came W b (some a) c l:=by
 refine⟨(zs.take c).map Int.toNat,?_,?_,by simp;omega,by unfold maxLen at v;omega⟩
 ·by_cases h0:0<c
  ·obtain⟨j,k,rfl,d⟩:=ints_at y ω;refine⟨j,k,fun _=>⟨rfl,World.block_lt_of_cell? W _ (d 0 ω)⟩,fun i q=>?_⟩;have s:i<c:=by simp at q;omega
   have g:i<zs.length:=ω;rw[d i g];have e:zs.getD i 0=zs[i]:=by rw[List.getD_eq_getElem?_getD,List.getElem?_eq_getElem g];rfl
   have o:=bounds_u32 (r zs[i] (List.getElem_mem g));rw[e,wd_lt q];simp only[List.getElem_map,List.getElem_take];rw[Int.toNat_of_nonneg o.1]
  ·have:c=0:=ω;subst this;exact Lay.nil _ _ _
 ·intro x u;obtain⟨n,t,rfl⟩:=List.mem_map.1 u;have o:=bounds_u32 (r n (List.mem_of_mem_take t));omega
section
variable {H:Type} {enc:TypeId×Value->H}
theorem tp{W:World}{base:Nat}{v:Value}{d:DataW H}{p:List MemPlace}(hv:Value.okWide Tryz.prog W .any base 24 v)(h:DataW.Trod enc Tryz.prog W 0 (fun _=>true) true 24 v d p): ∃b a n c l,v= .agg #[.bool b,.slice a n c]/\Came W b a n l/\n<=c:=by
 obtain⟨v0,v1,y0,y1,n,rfl,_,_,h0,h1⟩:=Joins.open_agg2 Tryz.underlying24 (by kernel_rfl) (by kernel_rfl) hv h;have h0:DataW.trod enc Tryz.prog W 0 (fun _=>true) true n 4 [v0]=some y0:=h0;have h1:DataW.trod enc Tryz.prog W 0 (fun _=>true) true n 22 [v1]=some y1:=h1;obtain⟨b,e0,_⟩:=DataW.trod_bool Tryz.underlying4 h0;have e0:v0= .bool b:=by simpa using e0
 subst e0;rcases open_ints Tryz.underlying22 Tryz.underlying25 (by kernel_rfl) h1 with⟨e1,_⟩|⟨a,len,cap,zs,e1,_,hl,hm,hz,_,hc,hw⟩
 ·have e1:v1= .slice none 0 0:=(by simpa using e1);subst e1;exact⟨b,none,0,0,[],rfl,⟨Lay.nil _ _ _,Lim.nil,rfl,by decide⟩,Nat.le_refl _⟩
 ·have e1:v1= .slice (some a) len cap:=(by simpa using e1);subst e1;simp only[if_true]at hz;obtain⟨l,hcame⟩:=rI (b:=b) hl hm hz hc hw;exact⟨b,some a,len,cap,l,rfl,hcame,hl⟩
end
theorem ox{H:Type}{enc:TypeId×Value->H}{P:Program}{w:World}{d:Nat}{E:Nat->Bool}{f:Bool}{fuel:Nat}{t e:TypeId}{n:Nat}{m:List Value}{zs:List Bool}{p:List MemPlace}(ht:P.underlying t=some (.array n e))(F:P.underlying e=some .bool)(q:P.cellsOf e=1)(s:P.cellsOf t=n)(h:DataW.trod enc P w d E f fuel t m=some (.agg (zs.map fun z=> .lit (.bool z)),p)):m=zs.map fun z=>Value.bool z:=by
 cases fuel with
 |zero=>simp[DataW.trod]at h
 |succ fuel=>
  simp only[DataW.trod,ht,q,s,Nat.mul_one]at h;split at h
  ·rename_i I;obtain⟨xs,u,B⟩:=Option.map_eq_some_iff.1 h
   have c:xs.map (·.1)=zs.map fun z=>(DataW.lit (.bool z):DataW H):=by
    have:=congrArg Prod.fst B;simpa using this
   have v:xs.length=n:=by simpa using Lib.mapM_length u
   have x:zs.length=n:=by
    have:=congrArg List.length c;simp at this;omega
   apply List.ext_getElem?;intro i;by_cases A:i<n
   ·obtain⟨b,C,hf⟩:=Lib.mapM_at u i i (by simp[A]);obtain⟨z,D,rfl⟩:=DataW.trod_bool F hf
    have h1:m[i]? =some (.bool z):=by
     have:=congrArg (·[0]?) D;simpa[List.getElem?_take,List.getElem?_drop]using this
    have j:(xs.map (·.1))[i]? =some (DataW.lit (.bool z):DataW H):=(by simp[C]);rw[c]at j;simp only[List.getElem?_map,Option.map_eq_some_iff,DataW.lit.injEq,Lit.bool.injEq]at j;obtain⟨G,k,rfl⟩:=j;simp[h1,k]
   ·rw[List.getElem?_eq_none ω,List.getElem?_eq_none (by simp;omega)]
  ·cases h
theorem g_spares:Tryz.prog.globalNamed "effigy/oop.spares" =some 0:=by kernel_rfl
theorem t_spares:(Tryz.prog.globals[0]?).map (·.type)=some 280:=by kernel_rfl
theorem Fj:Tryz.prog.globalNamed "unicode/utf8.acceptRanges" =some 4:=by kernel_rfl
theorem Am{W:World}(hX:laidMetH Tryz.prog Rows.largeDataRow.laid W):Spares W:=by
 rw[MakeChecks.laidMetH_plain _ _ _ (by kernel_rfl)]at hX;obtain⟨ps,hv,-,-⟩:=hX;have hv:DataW.LaidVars Tryz.prog W [("unicode/utf8.acceptRanges",Rows.laid_unicode_utf8_acceptRanges),("effigy/oop.spares",Rows.laid_effigy_oop_spares),("unicode.CaseRanges",Rows.laid_unicode_CaseRanges),("unicode/utf8.first",Rows.laid_unicode_utf8_first)] ps:=hv;obtain⟨g0,t0,cs0,f0,p0,q0,a0,b0,v0,d0,⟨g1,t1,cs1,f1,p1,q1,a1,b1,v1,d1,⟨g2,t2,cs2,f2,p2,q2,a2,b2,v2,d2,⟨g3,t3,cs3,f3,p3,q3,a3,b3,v3,d3,-⟩,-⟩,-⟩,-⟩:=hv;obtain rfl:=Option.some.inj (g_spares.symm.trans a1);obtain rfl:=Option.some.inj (t_spares.symm.trans b1);have hcs:=ox (zs:=[false,false,true,false,false]) Tryz.underlying280 Tryz.underlying4 (by kernel_rfl) (by kernel_rfl) d1
 have h4:4<W.heap.size:=by
  have hg:=Fj;have hvv:W.var? Tryz.prog "unicode/utf8.acceptRanges" =some cs0:=v0;unfold World.var? at hvv;rw[hg,Option.bind_some]at hvv
  cases e:W.heap[4]? with
  |none=>rw[e]at hvv;cases hvv
  |some x=>exact(Array.getElem?_eq_some_iff.1 e).1
 refine⟨h4,fun i hi=>?_⟩;rw[World.var?_cell g_spares v1 i,<-Array.getElem?_toList,hcs];have:i=0∨i=1∨i=2∨i=3∨i=4:=by omega
 rcases this with rfl|rfl|rfl|rfl|rfl<;>rfl
end Go.Proofs.YtfefijlnbhbplaaGreatDoor

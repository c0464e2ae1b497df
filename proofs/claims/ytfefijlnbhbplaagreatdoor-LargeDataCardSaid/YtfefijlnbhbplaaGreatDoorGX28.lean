/- Walks and laws that LargeData asks for. -/
import Derived.Test.YtfefijlnbhbplaaGreatDoorGX26
set_option linter.unusedVariables false
set_option linter.unusedSimpArgs false
set_option maxRecDepth 1000000
set_option maxHeartbeats 12800000
namespace Go.Proofs.YtfefijlnbhbplaaGreatDoor
open Go Lib Go.RowKit Limb Tryz
theorem Ff{w1 X:World}{l:List (Nat×Int)}{p q:Nat}{v z:Int}(h:At w1 X l)(b:(p,v)∈l)(c:(q,z)∈l)(hs:(rep z.natAbs).length<=68719476736):Calls prog 156 #[E p,E q] X fun e a=>e= .returned (E p)/\At w1 a (upd l p (-z)):=by
 refine(xM X p q v z (h.ints _ b).1 (h.ints _ c).1 hs).mono ?_;rintro e a ⟨rfl,h1,h2⟩;exact⟨rfl,h.set b h2 h1⟩
theorem xi{c:Bool}{l:List Nat}(g:Lim l)(h:bn c l=true):(c=true->0<val l)/\l.length<=1024/\(val l:Int)=(signed c (val l)).natAbs/\signed c (val l)=if c then -(val l:Int)else(val l:Int):=by
 obtain⟨h1,d,e⟩:=bQ g h;refine⟨fun f=>?_,e,by rw[k9],by unfold signed;rfl⟩;subst f;rcases Nat.eq_zero_or_pos (val l)with h0|h0
 ·rw[h0]at d;simp[signed]at d
 ·exact h0
def Joins(op:Int)(k:Nat)(g:FuncId):Prop:=(op=1/\k=1/\g=245)∨(op=2/\k=2/\g=246)∨(op=3/\k=3/\g=247)
theorem Joins.enters{op:Int}{k:Nat}{g:FuncId}(h:Joins op k g):jB prog g=true/\(∀(X:World) (x y:Nat),x<4294967296->y<4294967296->Calls prog g #[Ψ (x:Nat),Ψ (y:Nat)] X fun e c=>e= .returned (Ψ (bop k x y:Nat))/\c=X):=by
 rcases h with⟨_,rfl,rfl⟩|⟨_,rfl,rfl⟩|⟨_,rfl,rfl⟩
 ·exact⟨κ,fun X x y a b=>AP X x y a b⟩
 ·exact⟨κ,fun X x y a b=>Em X x y a b⟩
 ·exact⟨κ,fun X x y a b=>Bm X x y a b⟩
def Own(V:World)(n:Nat)(s:List Nat)(v:Value)(X:World):Prop:= ∃g cap a,v= .slice (some ⟨g,0,none⟩) n cap/\n<=cap/\V.heap.size<=g/\Row X g 25 (aC .u32 s++a)
theorem Fk{V X b:World}{n:Nat}{s:List Nat}{v:Value}(j:0<n)(hs:V.heap.size<=X.heap.size)(h:b.ownsRow X 25 1 v n (aC .u32 s)):Own V n s v b:=by
 obtain⟨a,cap,rfl,h1,k,l,c⟩:=dG h;obtain⟨g,d,rfl,e,f,m,i⟩:=c j;refine⟨g,cap,d.drop n,rfl,h1,Nat.le_trans hs e,?_⟩;rw[<-i,List.take_append_drop];exact f
theorem oe{w:World}{g:Nat}{e:TypeId}{s:List Nat}{b:List Value}(h:Row w g e (aC .u32 s++b)){i:Nat}(a:i<s.length):w.cell? ⟨g,i,none⟩=O (Ψ (wd s i:Nat)):=by
 rw[h.ae,List.getElem?_append_left (by rw[aD];exact a),aJ a]
theorem xK{w:World}{g:Nat}{e:TypeId}{s:List Nat}{b:List Value}(h:Row w g e (aC .u32 s++b)):Lay .u32 w (some ⟨g,0,none⟩) s:=
 ⟨g,0,fun _=>⟨rfl,h.lt⟩,fun i a=>by rw[Nat.zero_add];exact oe h a⟩
theorem Ar{w:World}{g:Nat}{e:TypeId}{s:List Nat}{a:List Value}(h:Row w g e (aC .u32 s++a)){i d:Nat}(b:i<s.length):Row (w.setCell ⟨g,i,none⟩ (Ψ (d:Nat))) g e (aC .u32 (s.set i d)++a):=by
 have:=h.af i (Ψ (d:Nat))
 rwa [List.set_append_left _ _ (by rw[aD];exact b),<-i6]at this
theorem BX(w:World)(op:Int)(n1 n2:Bool)(a1 a2:Option Addr)(l1 l2:List Nat)(L M c1 c2:Nat)(hy1:Lay .u32 w a1 l1)(hy2:Lay .u32 w a2 l2)(hl1:Lim l1)(hl2:Lim l2)(hm1:L=l1.length)(hm2:M=l2.length)(hb1:L<=9223372036854775807)(hb2:M<=9223372036854775807)(hok:(bn n1 l1&&bn n2 l2)=true)(k:Nat)(g:FuncId)(hj:Joins op k g)(x y:Int)(hx:x=signed n1 (val l1))(hy:y=signed n2 (val l2))(n:Nat)(hn:n=max L M+1):Calls prog 189 #[I op,Ω n1 a1 L c1,Ω n2 a2 M c2] w fun e w'=>Answer true w w' e (kK k n x y):=by
 obtain⟨r0,r1,r2,hW,hsz⟩:=fI w 24 (.bool n1) (.slice a1 L c1) (.bool n2) (.slice a2 M c2) (.bool false) (.slice none 0 0);obtain⟨W,hWe⟩:=ξ (((w.alloc (.cells #[.bool n1,.slice a1 L c1] 24)).alloc (.cells #[.bool n2,.slice a2 M c2] 24)).alloc (.cells #[.bool false,.slice none 0 0] 24));rw[<-hWe]at r0 r1 r2 hW hsz;have HWe:=hid hWe;clear hWe;obtain⟨hok1,hok2⟩:=Bool.and_eq_true_iff.1 hok;obtain⟨hp1,hc1,_,hs1⟩:=xi hl1 hok1;obtain⟨hp2,hc2,_,hs2⟩:=xi hl2 hok2;have h1:1<=op:=by rcases hj with⟨rfl,_,_⟩|⟨rfl,_,_⟩|⟨rfl,_,_⟩<;>decide
 have h3:op<=3:=by rcases hj with⟨rfl,_,_⟩|⟨rfl,_,_⟩|⟨rfl,_,_⟩<;>decide
 have hmay:=fun h1 h2 h3=>dY (W.alloc (.cells #[.bool n1,.slice a1 L c1,.bool n2,.slice a2 M c2] 24)) (w.heap.size+1+1+1) n1 n2 a1 a2 l1 l2 L M c1 c2 h1 h2 h3 hl1 hl2 hm1 hm2 hb1 hb2
 have O:=hmay (by rw[<-hsz];exact cQ _ _ _) ((hy1.below hW).below ((Below.refl _ _).alloc ι _)) ((hy2.below hW).below ((Below.refl _ _).alloc ι _));rw[hok]at O;have HM:=hid O;clear hmay O;obtain⟨q0,q1⟩:=r0.two;obtain⟨q2,q3⟩:=r1.two;have d0:decide (op<1)=false:=dF;have d1:decide (3<op)=false:=dF
 have Z: ∀(ts:Array TypeId) (t:TypeId) (X:World),(Builtin.max_ ts t #[I (L:Nat),I (M:Nat)]).run prog X= .ok (I ((max L M:Nat):Int)) X:=by
  intro ts t X;rw[run_max_int2];by_cases h:L<M
  ·rw[if_pos ω,Nat.max_eq_right ω]
  ·rw[if_neg ω,Nat.max_eq_left ω]
 obtain⟨N,hN⟩:=ξ (max L M);rw[<-hN]at Z hn;have hn1:L<=n:=ω
 have hn2:M<=n:=ω
 have hnb:n<=1073741824:=ω
 have hn1025:n<=1025:=ω
 have hn0:0<n:=ω
 have hNn:N<n:=ω
 have eN:(N:Int)+1=(n:Int):=ω
 have eN1:(n:Int)-1=(N:Int):=ω
 have eN2:n-1=N:=ω
 have HMax:=hid Z;have HX:=hid (hx.trans hs1);have HYY:=hid (hy.trans hs2);have HL1:=hid hl1;have HL2:=hid hl2;have HM1:=hid hm1;have HM2:=hid hm2;have HP1:=hid hp1;have HP2:=hid hp2;have HJ:=hid hj.enters;have HJJ:=hid hj;have Q:=hy1.below hW;have R:=hy2.below hW;clear hn hN Z hx hy hs1 hs2 hl1 hl2 hm1 hm2 hp1 hp2 hj hok hok1 hok2 hy1 hy2 h1 h3 hb1 hb2 hc1 hc2;go_enter func189,ntmps189;go_wp2_with fail;rw[<-HWe.out];refine HM.out.mono ?_;rintro e V ⟨rfl,hbw⟩;have D:=bE hbw;have hB1:Below w w V:=τ hW D;have hsV:w.heap.size+1+1<V.heap.size:=by have:=D.size;omega
 replace r0:=r0.below D r0.lt;replace r1:=r1.below D r1.lt;have U:=r2.below D r2.lt;replace Q:=Q.below D;replace R:=R.below D;clear r2 hbw D HM q0 q1 q2 q3 hW hsz;obtain⟨q0,q1⟩:=r0.two;obtain⟨q2,q3⟩:=r1.two;have HR0:=hid (fun X (h:Below V V X)=>show X.cell? ⟨w,0,none⟩=some (.bool n1)/\X.cell? ⟨w,1,none⟩=some (.slice a1 L c1)from⟨(r0.below h r0.lt).ae 0,(r0.below h r0.lt).ae 1⟩);have HR1:=hid (fun X (h:Below V V X)=>show X.cell? ⟨N1 w,0,none⟩=some (.bool n2)/\X.cell? ⟨N1 w,1,none⟩=some (.slice a2 M c2)from⟨(r1.below h r1.lt).ae 0,(r1.below h r1.lt).ae 1⟩);have HY1:=hid (fun X (h:Below V V X)=>Q.below h);have HY2:=hid (fun X (h:Below V V X)=>R.below h);have HRR:=hid (fun X (h:Below V V X)=>U.below h U.lt);have HS:=hid (fun(v:Value) (X X':World) (h:X'.ownsRow X.heap.size 25 1 v n (aC .u32 (eO k (two n x) (two n y)))) (hs:V.heap.size<=X.heap.size)=>Fk hn0 hs h);clear r0 r1 U Q R;have hix1: ∀X:World,(Instr.index 282 (.agg #[.nilFunc,.func (.func 245) #[] #[],.func (.func 246) #[] #[],.func (.func 247) #[] #[]]) (I 1)).run prog X= .ok (.func (.func 245) #[] #[]) X:=fun X=>κ
 have hix2: ∀X:World,(Instr.index 282 (.agg #[.nilFunc,.func (.func 245) #[] #[],.func (.func 246) #[] #[],.func (.func 247) #[] #[]]) (I 2)).run prog X= .ok (.func (.func 246) #[] #[]) X:=fun X=>κ
 have hix3: ∀X:World,(Instr.index 282 (.agg #[.nilFunc,.func (.func 245) #[] #[],.func (.func 246) #[] #[],.func (.func 247) #[] #[]]) (I 3)).run prog X= .ok (.func (.func 247) #[] #[]) X:=fun X=>κ
 go_upto_region 3 with fail
 go_cut [8] (fun s8 wx=>s8= .func (.func g) #[] #[]/\wx=V)
 case first=>
  rcases HJJ.out with⟨rfl,rfl,rfl⟩|⟨rfl,rfl,rfl⟩|⟨rfl,rfl,rfl⟩
  ·go_wp2_with fail;go_meet;exact⟨rfl,rfl⟩
  ·go_wp2_with fail;go_meet;exact⟨rfl,rfl⟩
  ·go_wp2_with fail;go_meet;exact⟨rfl,rfl⟩
 case rest=>
 obtain⟨rfl,hV⟩:=hcut;have hV:=hV.symm;subst hV;clear hix1 hix2 hix3;have hmx:=HMax.out;go_upto_region 5 with fail
 clear hmx;go_cut [10] (fun s10 wx=> ∃v,s10=v/\Own V n (eO k (two n x) (two n y)) v wx/\Below V V wx)
 case first=>
  clear q0 q1 q2 q3;have hX:Below V V V.drew:=(Below.refl _ _).drew;refine wp_region_held (S:=fun X=>Below V V X) κ ?_;refine tk 0 (Ω n1 a1 L c1) ?_ (y:=fun X hX=>by obtain⟨i0,i1⟩:=HR0.out X hX;go_simp);refine tk 1 (I (n:Nat)) ?_;refine tk 4 (Ω n2 a2 M c2) ?_ (y:=fun X hX=>by obtain⟨i0,i1⟩:=HR1.out X hX;go_simp);refine tk 5 (I (n:Nat)) ?_;refine tk 8 (.func (.func g) #[] #[]) ?_;refine wo 2 ?_;unfold wpOp;go_simp;refine .inl ((i7 _ n1 a1 l1 L c1 n (HY1.out _ hX) HL1.out HM1.out hn1 HP1.out x HX.out).mono ?_);rintro e X1 ⟨u41,rfl,hcl,hb⟩;replace hX:=τ hX hb;clear hb;obtain⟨Bn1,Ba1,C1⟩:=hcl;refine⟨hX,?_⟩;refine wo 3 ?_;unfold wpOp;go_simp;refine .inl ((mN _ _ n x Bn1 Ba1 n1 a1 l1 c1 hnb C1).mono ?_);rintro e X2 ⟨at1,ct1,rfl,hct1,T1,hb⟩;replace hX:=τ hX hb;clear hb;clear C1;refine⟨hX,?_⟩;refine wo 6 ?_;unfold wpOp;go_simp;refine .inl ((i7 _ n2 a2 l2 M c2 n (HY2.out _ hX) HL2.out HM2.out hn2 HP2.out y HYY.out).mono ?_);rintro e X3 ⟨u45,rfl,hcl,hb⟩;replace T1:=T1.below hb;replace hX:=τ hX hb;clear hb;obtain⟨Bn2,Ba2,C2⟩:=hcl;refine⟨hX,?_⟩;refine wo 7 ?_;unfold wpOp;go_simp;refine .inl ((mN _ _ n y Bn2 Ba2 n2 a2 l2 c2 hnb C2).mono ?_);rintro e X4 ⟨at2,ct2,rfl,hct2,T2,hb⟩;replace T1:=T1.below hb;replace hX:=τ hX hb;clear hb;clear C2;refine⟨hX,?_⟩;refine wo 9 ?_;unfold wpOp;go_simp;refine .inl ((rM _ k g HJ.out.1 HJ.out.2 at1 at2 (two n x) (two n y) n ct1 ct2 T1 T2 (fh _ _) (fh _ _) (c7 _ _).symm (c7 _ _).symm ω).mono ?_);rintro e X5 ⟨vj,rfl,hown,hb⟩;replace T1:=T1.below hb;replace T2:=T2.below hb;have hsX:=hX.size;replace hX:=τ hX hb;clear hb;clear T1 T2;refine⟨hX,?_⟩;refine tk 10 (vj) ?_;refine wpAnyH_done κ ?_ _;go_wp2_with fail;go_meet;exact⟨_,rfl,HS.out vj _ _ hown hsX,hX⟩
 case rest=>
 obtain⟨_,rfl,⟨gl,cap,cs,rfl,hcap,hgl,G⟩,hX⟩:=hcut;have hRw:=HRR.out _ hX;have hBw:=τ hB1 hX;have hgl2:w.heap.size<=gl:=Nat.le_trans hB1.size hgl;have hne:w.heap.size+1+1≠gl:=ω
 clear HR0 HR1 HY1 HY2 HRR HS HX HYY HL1 HL2 HM1 HM2 HP1 HP2 HJ HJJ HMax hX hgl q0 q1 q2 q3;obtain⟨S,hS⟩:=ξ (eO k (two n x) (two n y));rw[<-hS]at G;have E:Hid (S.length=n):=hid (by rw[hS,iu (by rw[c7,c7]),c7]);have hSm:Hid (Lim S):=hid (by rw[hS];exact pW (fh _ _) (fh _ _));obtain⟨z,hz⟩:=ξ (iO S);have HZ:Hid (kK k n x y=z):=hid (by rw[hz,hS];rfl)
 have lz:(rep z.natAbs).length<=68719476736:=by
  rw[hz];exact Nat.le_trans (qm hSm.out) (by rw[E.out];omega)
 clear hS;have B:=oe G (i:=N) (by rw[E.out];exact hNn);have ig:=aX (P:=prog) underlying22 aK gl n cap .i64 (N:Int) N rfl hNn;obtain⟨d,hd⟩:=ξ (wd S N);have hdl:d<4294967296:=by rw[hd];exact hSm.out.wd N
 rw[<-hd]at B;by_cases T:d<2147483648
 ·have eq0:(d:Int)/2147483648=0:=ω;have hu:=qR (s:=S) (by rw[E.out,eN2,<-hd];exact T);have hsg:signed false (val S)=z:=by rw[hz,hu];rfl
  clear hd hdl T hu hz;go_wp2_with fail;refine(db (At.refl wc) false (some ⟨gl,0,none⟩) S n cap (xK G) hSm.out E.out.symm ω).mono ?_;rintro e w4 ⟨p,rfl,h4⟩;rw[hsg]at h4;have H:=hBw;have Y:=hRw;clear B ig G hBw hRw;go_wp2_with fail;refine(cd h4 (.head _) lz).mono ?_;rintro e w9 ⟨⟨b',a',n',c',k',rfl,hnext⟩,h9⟩;have HN:=hid hnext;clear hnext;have HLE:=hid H.size;have hB9:=H.trans (h9.below.mono H.size);have U:=Y.below h9.below Y.lt;obtain⟨k0,k1,k2,k3⟩:=U.four;have e0:(w9.setCell ⟨N2 w,0,none⟩ (.bool b')).cell? ⟨N2 w,0,none⟩=some (.bool b'):=(U.af 0 _).ae 0;have e1:((w9.setCell ⟨N2 w,0,none⟩ (.bool b')).setCell ⟨N2 w,1,none⟩ (.slice a' n' c')).cell? ⟨N2 w,1,none⟩=some (.slice a' n' c'):=((U.af 0 _).af 1 _).ae 1;have HF:=hid (aw (aw hB9 (g:=w.heap.size+1+1) (i:=0) ω (.bool b')) (g:=w.heap.size+1+1) (i:=1) ω (.slice a' n' c'));go_wp2;(try simp only[Exit.inBlock,Exit.then]);refine bodyPost_ret (v:= .tuple #[Ω b' a' n' c',I k']) (by simp[results,results189,go_sem,e0,e1]) rfl ?_;rw[HZ.out];exact HN.out _ _ HF.out (fun l hl=>hl.pair U _ _) HLE.out
 ·have eq1:(d:Int)/2147483648=1:=ω;obtain⟨hu,hua,_⟩:=qx (s:=S) hSm.out (by rw[E.out,eN2,<-hd];exact T);rw[<-hz]at hu hua;have HU:=hid hu;have HUA:=hid hua;clear hd hdl T hu hua hz;go_wp2_with fail;go_loopw[59] (fun i wr=> ∃j:Nat,j<=n/\i= .int .i64 j/\Row wr gl 25 (aC .u32 (gD j S)++cs)/\Row wr (N2 w) 24 [.bool false,.slice none 0 0]/\Below w w wr) (fun i _=>n-(intOf i).toNat);case atStart=>exact⟨0,ω,rfl,by rw[k8];exact G,hRw,hBw⟩
  case round=>
   obtain⟨j,hj,rfl,hr,Y,H⟩:=hrel;clear B ig G hBw hRw;by_cases hlt:j<n
   ·have B:=oe hr (i:=j) (by rw[cV,E.out];exact hlt);rw[iW _ _ (by rw[E.out];exact hlt),if_neg (Nat.lt_irrefl _)]at B;have hset:=hid (mi (l:=S) (j:=j) (by rw[E.out];exact hlt));have hfk:=hr.free j;have ig:=aX (P:=prog) underlying22 aK gl n cap .i64 (j:Int) j rfl hlt;obtain⟨x',hx⟩:=ξ (wd S j);have hxl:x'<4294967296:=by rw[hx];exact hSm.out.wd j
    rw[<-hx]at B hset;have e3:=nt hxl;obtain⟨y',hy⟩:=ξ (4294967295-x');rw[<-hy]at e3 hset;have hlen:j<(gD j S).length:=by rw[cV,E.out];exact hlt
    have Hlen:=hid hlen;clear hx hxl hy hlen;go_wp2;go_roundw;case rel=>exact⟨j+1,ω,by go_num,by rw[<-hset.out];exact e3 ▸ Ar hr Hlen.out,Y.other (by exact hne) _,aw H hgl2 _⟩
    case measure=>exact μ
   ·obtain rfl:j=n:=ω
    rw[lU (by rw[E.out];exact Nat.le_refl _)]at hr;obtain⟨v,hv⟩:=ξ ((val (inv S):Nat):Int);have hsg:signed false (val (inv S))=v:=hv.symm;have hvz:Hid (-(v+1)=z):=hid (by rw[HU.out,hv];omega);have lv:(rep v.natAbs).length<=68719476736:=by rw[hv,Int.natAbs_natCast];exact Nat.le_trans (aQ (nh _)) (by rw[cY,E.out];omega)
    have lv1:(rep (v+1).natAbs).length<=68719476736:=by
     have:(v+1).natAbs=z.natAbs:=(by have:=hvz.out;omega);rw[this];exact lz
    have hIl:Hid (j=(inv S).length):=hid (by rw[cY,E.out]);clear hv;go_wp2_with fail;refine(db (At.refl wr) false (some ⟨gl,0,none⟩) (inv S) j cap (xK hr) (nh _) hIl.out ω).mono ?_;rintro e w4 ⟨p,rfl,h4⟩;rw[hsg]at h4;clear hr;go_wp2_with fail;refine(jp h4 1 δ δ).mono ?_;rintro e w5 ⟨q,rfl,h5⟩;go_wp2_with fail;refine(xf h5 (.tail _ (.head _)) (.tail _ (.head _)) (.head _) lv δ).mono ?_;rintro e w6 ⟨rfl,h6⟩;have m6:=eI (v+1) (show(p,v)∈[(q,(1:Int)),(p,v)]from .tail _ (.head _));go_wp2_with fail;refine(Ff h6 m6 m6 lv1).mono ?_;rintro e w7 ⟨rfl,h7⟩;have m7:=eI (-(v+1)) m6;rw[hvz.out]at m7 h7;go_wp2_with fail;refine(cd h7 m7 lz).mono ?_;rintro e w9 ⟨⟨b',a',n',c',k',rfl,hnext⟩,h9⟩;have HN:=hid hnext;clear hnext;have HLE:=hid H.size;have hB9:=H.trans (h9.below.mono H.size);have U:=Y.below h9.below Y.lt;obtain⟨k0,k1,k2,k3⟩:=U.four;have e0:(w9.setCell ⟨N2 w,0,none⟩ (.bool b')).cell? ⟨N2 w,0,none⟩=some (.bool b'):=(U.af 0 _).ae 0;have e1:((w9.setCell ⟨N2 w,0,none⟩ (.bool b')).setCell ⟨N2 w,1,none⟩ (.slice a' n' c')).cell? ⟨N2 w,1,none⟩=some (.slice a' n' c'):=((U.af 0 _).af 1 _).ae 1;have HF:=hid (aw (aw hB9 (g:=w.heap.size+1+1) (i:=0) ω (.bool b')) (g:=w.heap.size+1+1) (i:=1) ω (.slice a' n' c'));go_wp2;(try simp only[Exit.inBlock,Exit.then]);refine bodyPost_ret (v:= .tuple #[Ω b' a' n' c',I k']) (by simp[results,results189,go_sem,e0,e1]) rfl ?_;rw[HZ.out];exact HN.out _ _ HF.out (fun l hl=>hl.pair U _ _) HLE.out
end Go.Proofs.YtfefijlnbhbplaaGreatDoor

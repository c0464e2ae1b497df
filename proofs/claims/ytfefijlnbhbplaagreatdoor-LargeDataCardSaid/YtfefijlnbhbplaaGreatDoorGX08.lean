/- Walks and laws that LargeData asks for. -/
import Derived.Test.YtfefijlnbhbplaaGreatDoorGX07
set_option linter.unusedVariables false
set_option linter.unusedSimpArgs false
set_option maxRecDepth 1000000
set_option maxHeartbeats 6400000
namespace Go.Proofs.YtfefijlnbhbplaaGreatDoor
open Go Lib Go.RowKit Limb Tryz
def B4:Value->Nat
 | .slice _ n _=>n
 |_=>0
theorem En(W:World): ∀d:Nat,d<36->(Instr.index 9 (.string {data:= #[48,49,50,51,52,53,54,55,56,57,97,98,99,100,101,102,103,104,105,106,107,108,109,110,111,112,113,114,115,116,117,118,119,120,121,122]}) (Ψ (d:Int))).run prog W= .ok (.int .u8 ((sgn d:Nat):Int)) W
 |0,_|1,_|2,_|3,_|4,_|5,_|6,_|7,_|8,_|9,_|10,_|11,_|12,_|13,_|14,_|15,_|16,_|17,_|18,_|19,_|20,_|21,_|22,_|23,_|24,_|25,_|26,_|27,_|28,_|29,_|30,_|31,_|32,_|33,_|34,_|35,_=>κ
 |n+36,h=>absurd h ω
theorem kO(w:World)(t:TypeId)(K:IntKind)(v:Int)(d:Nat)(a:v=d):Lay K (w.alloc (.cells #[.int K v] t)) (some ⟨w,0,none⟩) [d]:=by
 subst a;have h:Row (w.alloc (.cells #[.int K (d:Int)] t)) w t (aC K [d]):=by unfold Row;exact heap_alloc_new _ _
 exact h.lay
theorem zS{b k u:Nat}(a:2<=b)(c:u=b^k):0<u/\k<u:=by
 subst c;have:2^k<=b^k:=Nat.pow_le_pow_left a k;have d:k<2^k:=Nat.lt_two_pow_self;omega
theorem wN(w:World)(a:Option Addr)(y n ca d:Nat)(p:Lay .u32 w a (rep y))(k:n=(rep y).length)(u:n<=1099511627776)(b:0<d)(v:d<4294967296):Calls prog 229 #[.slice a n ca,Ψ d] w fun e w'=> ∃(g:Nat) (f:List Value) (j m q r:Nat),e=Rt #[M g m j,Ψ r]/\Hid (m=(rep q).length)/\Hid (q=y/d)/\Hid (r=y%d)/\r<d/\m<=n/\Lay .u32 w' (some ⟨g,0,none⟩) (rep q)/\Row w' g 25 f/\Below w w w':=by
 refine(jN w a (rep y) n ca d p (aB _) k u b v).mono ?_;rintro e w' ⟨a',j,rfl,_,_,h3,h4,g,f,rfl,h5⟩;rw[aE]at*
 exact⟨g,f,j,_,y/d,y%d,rfl,hid rfl,hid rfl,hid rfl,Nat.mod_lt _ b,by rw[k];exact aS (Nat.div_le_self _ _),h3,h5,h4⟩
theorem oR{w w':World}{B:Nat}{e:TypeId}{v:Value}{n:Nat}{xs:List Value}(h:w.ownsRow B e 1 v n xs)(b:Below w w w'):w'.ownsRow B e 1 v n xs:=by
 obtain⟨h1,a⟩:=h;refine⟨h1,?_⟩;rcases a with a|⟨g,cap,cur,hv,hg,hh,hr⟩
 ·exact .inl a
 ·exact .inr ⟨g,cap,cur,hv,hg,by rw[b.block g (Array.getElem?_eq_some_iff.1 hh).1];exact hh,hr⟩
theorem vG{w:World}{B:Nat}{e t:TypeId}{v:Value}{n:Nat}{xs i:List Value}{g:Nat}(h:w.ownsRow B e 1 v n xs)(d:Row w g t i)(c:e≠t):some g≠v.ownBlock:=by
 intro a;obtain⟨_,f⟩:=h;rcases f with⟨b,_⟩|⟨g',cap,cur,b,_,hh,_⟩
 ·rw[b]at a;cases a
 ·rw[b]at a;simp only[Value.ownBlock,Option.some.injEq]at a;subst a;unfold Row at d;rw[d]at hh;simp only[Option.some.injEq,Obj.cells.injEq]at hh;exact c hh.2.1.symm
theorem nB{w:World}{B:Nat}{e:TypeId}{v:Value}{n:Nat}{xs:List Value}(h:w.ownsRow B e 1 v n xs):B4 v=n:=by
 obtain⟨_,⟨a,b⟩|⟨g,cap,c,a,_⟩⟩:=h
 ·rw[a,b];rfl
 ·rw[a];rfl
theorem Lay.kept{K:IntKind}{w w':World}{g:Nat}{l:List Nat}(h:Lay K w (some ⟨g,0,none⟩) l)(hs:w.heap.size<=w'.heap.size)(j:w'.heap[g]? =w.heap[g]?):Lay K w' (some ⟨g,0,none⟩) l:=by
 obtain⟨b,a,h1,e⟩:=h;refine⟨b,a,fun d=>⟨(h1 d).1,Nat.lt_of_lt_of_le (h1 d).2 hs⟩,fun i f=>?_⟩;have c:=(h1 ω).1;simp only[Option.some.injEq,Addr.mk.injEq,and_true]at c;obtain⟨rfl,rfl⟩:=c;rw[<-e i f];exact World.cell?_of_block j
theorem Row.al{w:World}{g:Nat}{e:TypeId}{k:IntKind}{zs:List Nat}{rest:List Value}(h:Row w g e (aC k zs++rest)){i:Nat}(a:i<zs.length):w.cell? ⟨g,i,none⟩=some (.int k (wd zs i:Nat)):=by
 rw[h.ae,List.getElem?_append_left (by rw[aD];exact a),aJ a]
theorem Row.ba{w:World}{g:Nat}{e:TypeId}{k:IntKind}{zs:List Nat}{rest:List Value}(h:Row w g e (aC k zs++rest)){i:Nat}(c:i<zs.length)(v:Int)(d:Nat)(b:v=d):Row (w.setCell ⟨g,i,none⟩ (.int k v)) g e (aC k (zs.set i d)++rest):=by
 have a:=h.af i (.int k v);rw[List.set_append_left _ _ (by rw[aD];exact c),b,<-i6]at a;rw[b];exact a
theorem ul{P:Program}{w:World}{g:Nat}{e:TypeId}{l:List Nat}{rest:List Value}(h:Row w g e (aC .u8 l++rest))(a:TypeId)(hs:P.underlying a=some (.slice e))(d:P.underlying e=some (.int .u8))(m cap:Nat)(f:m=l.length): ∀b,P.underlying b=some .string->(convert a b (M g m cap)).run P w= .ok (.string (strOfNums (l.map fun n:Nat=>(n:Int)))) w:=by
 refine run_convert_bytes_arg w a e hs d g 0 m cap _ (by simp[f]) (fun i j=>?_);rw[Nat.zero_add,h.al ω,wd_lt ω];simp[List.getD_eq_getElem?_getD,(ω:i<l.length)]
theorem nP(l:List Nat):(strOfNums (l.map fun n:Nat=>(n:Int))).data.toList=l.map UInt8.ofNat:=by
 rw[strOfNums_data,List.map_map];rfl
theorem bG{P:Program}{w:World}{ops:Array Oper}{rest:List Oper}{o:Oper}{a:Act}{Q:Exit->Act->World->Prop}(hgd:o.guard=none)(s x:Operand)(t:TypeId)(ho:o.op= .call {callee:= .builtin .append,args:= #[s,x],argTypes:= #[t,t]})(K:IntKind)(B:Nat)(e:TypeId)(z:Value)(bytes:Nat)(ht:P.underlying t=some (.slice e))(h2:(P.info? e).map (fun i=>(i.zero,i.size,i.bytes))=some (some z,1,bytes))(hz:z.cells.size=1)(v:Value)(n:Nat)(l:List Nat)(hs:a.eval s=v)(hown:w.ownsRow B e 1 v n (aC K l))(b:Nat)(c:Nat)(hx:a.eval x= .slice (some ⟨b,0,none⟩) 1 c)(d:Nat)(D:Int)(hc:w.cell? ⟨b,0,none⟩=some (.int K D))(hD:D=(d:Nat))(h63:n+1<=9223372036854775807)(hbytes:(n+1)*bytes<=140737488355328)(hB:B<=w.heap.size)(h: ∀v' w',w'.ownsRow B e 1 v' (n+1) (aC K (l++[d]))->Below B w w'->w.heap.size<=w'.heap.size->(∀(g:Nat) (t:TypeId) (cs:List Value),e≠t->Row w g t cs->Row w' g t cs)->wpList P ops Q rest (a.put o.dst v') w'):wpList P ops Q (o :: rest) a w:=by
 obtain⟨i,hi,hz0,hsz,hbt⟩:=info_parts h2;subst hD;refine wpList_append_own w hgd s x t ho B e i z 1 bytes ht hi hz0 hsz hbt hz δ v n _ hs hown ⟨b,0,none⟩ 1 c [.int K (d:Int)] hx rfl ?_ ?_ h63 hbytes hB ?_
 ·intro j u hj
  match j,hj with
  |0,hj=>simp at hj;subst hj;exact hc
  |j+1,hj=>simp at hj
 ·intro u hu;rw[List.mem_singleton]at hu;subst hu;rfl
 ·intro v' w' h1 h2 _;refine h v' w' ?_ (dh hown h2 hB) h2.size (fun g t cs hne hr=>?_)
  ·rw[bw];exact h1
  ·have:=h2.block g hr.lt (vG hown hr hne);unfold Row at*;rw[this];exact hr
theorem zE{b N q r m:Nat}{l:List Nat}(a:2<=b)(f:b<=36)(h:Part b N l (q*b^(m+1)+r))(g:r<b^(m+1))(h0:0<q∨0<r):Part b N (l++[sgn (r%b)]) (q*b^m+r/b)/\r/b<b^m/\r%b<36:=by
 obtain⟨d,e⟩:=vr (q:=q) (r:=r) (m:=m) a;have c:=h.step a ((uC a).2 h0);rw[d,e]at c;exact⟨c,zO a g,by have:=Nat.mod_lt r (show 0<b by omega);omega⟩
theorem B6(w:World)(a:Option Addr)(n c N b:Nat)(ha:Lay .u32 w a (rep N))(hn:n=(rep N).length)(hN:N≠0)(h2:2<=b)(h36:b<=36)(lx:n<=68719476736):Calls prog 172 #[.slice a n c,I b] w fun e w'=>(∃s,e= .returned (.string s)/\s.data.toList=(txt b N).map UInt8.ofNat)/\Below w w w':=by
 have p1:0<n:=by have:=rep_length_zero (n:=N);omega
 have q1:((n:Int)==0)=false:=nE
 obtain⟨L,hL⟩:=ξ ((dL b N).length)
 have hLL:L<=2199023255552:=by
  rw[hL];refine Nat.le_trans (gB h2 N (32*n) ?_) ω;have:=cK N;rw[<-hn,dj]at this;exact this
 have HL:=hid hL;clear hL;have Hn:=hid hn;clear hn;have HN:=hid hN;clear hN;obtain⟨M,hM⟩: ∃M:Nat,4294967296<=M:=⟨_,Nat.le_refl _⟩;go_enter func172,ntmps172;go_wp2;go_loop[5,6] (fun u m=> ∃k uu:Nat,1<=k/\Hid (uu=b^k)/\uu<4294967296/\u= .int .u32 uu/\m= .int .i64 k) (fun u _=>M-(intOf u).toNat);case atStart=>exact⟨1,b,ω,hid (by rw[Nat.pow_one]),ω,rfl,rfl⟩
 case round=>
  obtain⟨k,u,hk,Hu,hu,rfl,rfl⟩:=hrel;obtain⟨u0,ku⟩:=zS h2 Hu.out;obtain⟨t,ht⟩:=ξ (u*b);have et:(u:Int)*(b:Int)=(t:Int):=by rw[ht,Int.natCast_mul]
  have t1:u<t:=(by rw[ht];have:=Nat.mul_le_mul_left u h2;omega);have t2:t<=154618822656:=by rw[ht];exact Nat.le_trans (Nat.mul_le_mul (Nat.le_of_lt hu) h36) δ
  have HT:Hid (t=b^(k+1)):=hid (by rw[ht,Hu.out,Nat.pow_succ]);clear ht;by_cases hlt:t<4294967296
  ·have d1:decide ((t:Int)<4294967296)=true:=(by rw[decide_eq_true_eq];omega);go_wp2;go_round;case rel=>exact⟨k+1,t,ω,HT,hlt,by go_num,by go_num⟩
   case measure=>exact μ
  ·have kl:k<=4294967296:=ω;have d1:decide ((t:Int)<4294967296)=false:=by rw[decide_eq_false_iff_not];omega
   clear hlt HT ku;go_wp2;go_loopw[0,7] (fun x v wr=> ∃(a:Option Addr) (n c y m:Nat) (l:List Nat),x= .slice a n c/\Hid (n=(rep y).length)/\n<=68719476736/\Lay .u32 wr a (rep y)/\wr.ownsRow w 5 1 v m (aC .u8 l)/\Hid (B4 v=m)/\Hid (m=l.length)/\Hid (Part b N l y)/\Below w w wr) (fun _ v _=>L-B4 v);case atStart=>exact⟨a,n,c,N,0,[],rfl,Hn,lx,ha,World.ownsRow_nil _ _ _ _,hid rfl,hid rfl,hid (Part.start _ _),Below.refl _ _⟩
   case round=>
    clear ha Hn p1 q1 lx;obtain⟨a,n,c,y,m,l,rfl,Hn,lx,ha,hown,Hs,Hm,HP,hbl⟩:=hrel;by_cases hy:y=0
    ·have n0:n=0:=(by rw[Hn.out,hy];rfl);have d1:decide (0<n)=false:=by rw[decide_eq_false_iff_not];omega
     have HPe:Hid (Part b N l 0):=hid (by rw[<-hy];exact HP.out);have ml:m=L:=by rw[Hm.out,HL.out,HPe.out.done];simp
     have m0:0<m:=by
      rw[ml,HL.out,eJ h2 (by have:=HN.out;omega)];simp
     obtain⟨av,capv,hv,hcv,hmv,hlv,hrow⟩:=dG hown;obtain⟨g,csv,rfl,hgv,hrv,hcl,htk⟩:=hrow m0;clear hlv hrow Hs HP hown HL Hm;have hmv':=hid hmv;clear hmv;have hrv':Row wr g 5 (aC .u8 (iQ l 0)++csv.drop m):=by rw[z7,<-htk,List.take_append_drop];exact hrv
     obtain⟨rest,hrest⟩:=ξ (csv.drop m);rw[<-hrest]at hrv';clear hrest htk hcl hrv hy;subst hv;have Ml:=hid (show m<=2199023255552 by omega);clear ml;have hml:=Ml.out;clear n0;go_wp2;go_loopw[11,12] (fun i j wr=> ∃ii jj:Nat,i= .int .i64 ii/\j= .int .i64 jj/\Hid (ii+jj+1=m)/\Row wr g 5 (aC .u8 (iQ l ii)++rest)/\Below w w wr) (fun _ j _=>(intOf j).toNat);case atStart=>exact⟨0,m-1,rfl,by go_num,hid ω,hrv',hbl⟩
     case round=>
      clear hrv' hbl;obtain⟨i,j,rfl,rfl,Hij,hr,hbl⟩:=hrel;have hl:Hid ((iQ l i).length=m):=hid (by rw[cA];exact hmv'.out.symm);by_cases hlt:i<j
      ·have ci:=hr.al (i:=i) (by have:=hl.out;have:=Hij.out;omega);have cj:=hr.al (i:=j) (by have:=hl.out;have:=Hij.out;omega);have fi:=hr.free i;have fj:=hr.free j;have ixi:=aX (P:=prog) underlying50 fJ g m capv .i64 (i:Int) i rfl (by have:=Hij.out;omega);have ixj:=aX (P:=prog) underlying50 fJ g m capv .i64 (j:Int) j rfl (by have:=Hij.out;omega);have nij:i≠j:=ω
       have nji:j≠i:=ω;have hrs:=(hr.ba (i:=i) (by have:=hl.out;have:=Hij.out;omega) _ _ (rfl:((wd (iQ l i) j:Nat):Int)=_)).ba (i:=j) (by rw[List.length_set];have:=hl.out;have:=Hij.out;omega) _ _ (rfl:((wd (iQ l i) i:Nat):Int)=_);rw[zX l i j hlt (by have:=Hij.out;have:=hmv'.out;omega)]at hrs;have jm:j<=m:=by have:=Hij.out;omega
       have d1:decide (i<j)=true:=(by rw[decide_eq_true_eq];exact hlt);go_wp2;go_region;go_wp2;go_roundw;case rel=>exact⟨i+1,j-1,by go_num,by go_num,hid (by have:=Hij.out;omega),hrs.drew,(aw (aw hbl hgv _) hgv _).drew⟩
       case measure=>exact μ
      ·have d1:decide (i<j)=false:=(by rw[decide_eq_false_iff_not];exact hlt);have hrev:iQ l i=l.reverse:=A4 l i (by have:=Hij.out;have:=hmv'.out;omega);rw[hrev]at hr;have hcv:=ul (P:=prog) hr 50 underlying50 underlying5 m capv (by rw[List.length_reverse];exact hmv'.out) 9 underlying9;clear hrev hr hl;go_wp2;go_ret;refine⟨⟨_,rfl,?_⟩,hbl⟩;rw[<-HPe.out.txt HN.out];rw[<-List.map_reverse];exact nP _
    ·have p1:0<n:=(by have:=rep_length_zero (n:=y);have:=Hn.out;omega);have d1:decide (0<n)=true:=by simp;exact p1
     go_wp2_with fail;refine(wN _ a y n c u ha Hn.out ω u0 hu).mono ?_;rintro e w1 ⟨gq,cs,cq,nq,q,r0,rfl,Hnq,Hq,Hr0,r_lt,lq,haq,hrq,hb1⟩;have hown1:=oR hown hb1;have hbl1:=hbl.trans (hb1.mono hbl.size);have ey:Hid (y=q*b^k+r0):=hid (by rw[Hq.out,Hr0.out,<-Hu.out,Nat.mul_comm];exact(Nat.div_add_mod y u).symm);have HP1:Hid (Part b N l (q*b^(k-0)+r0)):=hid (by rw[Nat.sub_zero,<-ey.out];exact HP.out);have Hr1:Hid (r0<b^(k-0)):=hid (by rw[Nat.sub_zero,<-Hu.out];exact r_lt);have Hq0:Hid (q=0->r0=0->False):=hid (fun e1 e2=>hy (by rw[ey.out,e1,e2,Nat.zero_mul]));clear ey Hq Hr0;go_wp2;go_loopw[7,9,10] (fun v r i wr=> ∃(j m2 rr:Nat) (l:List Nat) (cs:List Value),j<=k/\i= .int .i64 j/\r= .int .u32 rr/\wr.ownsRow w 5 1 v m2 (aC .u8 l)/\Hid (m2=l.length)/\Hid (Part b N l (q*b^(k-j)+rr))/\Hid (rr<b^(k-j))/\m+j<=m2/\Hid (j=0->rr=r0)/\rr<4294967296/\Lay .u32 wr (some ⟨gq,0,none⟩) (rep q)/\Row wr gq 25 cs/\Below w w wr) (fun _ _ i _=>k-(intOf i).toNat);case atStart=>exact⟨0,m,r0,l,cs,ω,rfl,rfl,hown1,Hm,HP1,Hr1,ω,hid (fun _=>rfl),ω,haq,hrq,hbl1⟩
     case round=>
      clear HP1 Hr1 haq hrq hbl1 hown1 r_lt ha;obtain⟨j,m2,rr,l2,cs2,hj,rfl,rfl,hown2,Hm2,HP2,Hr2,hmj,H0,hrr,haq,hrq,hbl2⟩:=hrel;by_cases hgo:j<k/\(0<nq∨0<rr)
      ·obtain⟨hjk,hqr⟩:=hgo;have q_r:0<q∨0<rr:=by rcases hqr with h|h;exact .inl (by have:=rep_length_zero (n:=q);have:=Hnq.out;omega);exact .inr h
       have hst:=zE (m:=k-j-1) h2 h36 (by rw[show k-j-1+1=k-j from by omega];exact HP2.out) (by rw[show k-j-1+1=k-j from by omega];exact Hr2.out) q_r;rw[show k-j-1=k-(j+1)from by omega]at hst;obtain⟨st1,st2,st3⟩:=hst;have hml:=hid (show m2<L by rw[Hm2.out,HL.out];exact Part.len_lt HP2.out h2 ((uC h2).2 q_r));have St1:=hid st1;clear st1;have St2:=hid st2;clear st2;have ml:=hml.out;clear q_r hml;obtain⟨d,hd⟩:=ξ (rr%b);have ed:(rr:Int)%(b:Int)=(d:Int):=by rw[hd,Int.natCast_emod]
       obtain⟨r2,hr2⟩:=ξ (rr/b);have er:(rr:Int)/(b:Int)=(r2:Int):=by rw[hr2,Int.natCast_ediv]
       have r2l:r2<=rr:=(by rw[hr2];exact Nat.div_le_self _ _);rw[<-hd]at St1 st3;rw[<-hr2]at St1 St2;clear hd hr2;have sg:=fun W=>En W d st3
       have d1:decide (j<k)=true:=(by rw[decide_eq_true_eq];exact hjk);have hsz:=hbl2.size;by_cases hnq:0<nq
       ·have d2:decide (0<nq)=true:=(by rw[decide_eq_true_eq];exact hnq);clear hqr;go_wp2_with(at_builtin;refine bG rfl _ _ 50 rfl .u8 w 5 (.int .u8 0) 1 underlying50 iT rfl _ m2 l2 rfl (hown2.alloc _) wr.heap.size 1 rfl (sgn d) _ (by simp) rfl ω ω (by rw[World.size_alloc];omega) ?_;intro v' w3 hown3 hb3 hszw hgr;replace hszw:=hid hszw);have hrqA:Row (wr.alloc (.cells #[.int .u8 ((sgn d:Nat):Int)] 5)) gq 25 cs2:=hrq.alloc _;have hrq3:=hgr gq 25 cs2 δ hrqA;have haq3:=(haq.below ((Below.refl _ wr).alloc ι (.cells #[.int .u8 ((sgn d:Nat):Int)] 5))).kept (w':=w3) hszw.out (Eq.trans hrq3 hrqA.symm);have hbl3:=(hbl2.alloc hbl2.size _).trans hb3;clear hgr hrqA;go_wp2;go_roundw;case rel=>exact⟨j+1,m2+1,r2,l2++[sgn d],cs2,ω,by go_num,rfl,hown3,hid (by rw[List.length_append,Hm2.out];rfl),St1,St2,ω,hid (fun h=>ω),ω,haq3,hrq3,hbl3⟩
        case measure=>exact μ
       ·have d2:decide (0<nq)=false:=(by rw[decide_eq_false_iff_not];exact hnq);have d3:decide (0<rr)=true:=by rw[decide_eq_true_eq];omega
        clear hqr;go_wp2_with(at_builtin;refine bG rfl _ _ 50 rfl .u8 w 5 (.int .u8 0) 1 underlying50 iT rfl _ m2 l2 rfl (hown2.alloc _) wr.heap.size 1 rfl (sgn d) _ (by simp) rfl ω ω (by rw[World.size_alloc];omega) ?_;intro v' w3 hown3 hb3 hszw hgr;replace hszw:=hid hszw);have hrqA:Row (wr.alloc (.cells #[.int .u8 ((sgn d:Nat):Int)] 5)) gq 25 cs2:=hrq.alloc _;have hrq3:=hgr gq 25 cs2 δ hrqA;have haq3:=(haq.below ((Below.refl _ wr).alloc ι (.cells #[.int .u8 ((sgn d:Nat):Int)] 5))).kept (w':=w3) hszw.out (Eq.trans hrq3 hrqA.symm);have hbl3:=(hbl2.alloc hbl2.size _).trans hb3;clear hgr hrqA;go_wp2;go_roundw;case rel=>exact⟨j+1,m2+1,r2,l2++[sgn d],cs2,ω,by go_num,rfl,hown3,hid (by rw[List.length_append,Hm2.out];rfl),St1,St2,ω,hid (fun h=>ω),ω,haq3,hrq3,hbl3⟩
        case measure=>exact μ
      ·have hex:Hid (Part b N l2 q/\m<m2):=by
        by_cases hjk:j<k
        ·have hz:nq=0/\rr=0:=ω;have hq0:q=0:=by have:=rep_length_zero (n:=q);have:=Hnq.out;omega
         refine⟨?_,?_⟩
         ·have:=HP2.out;rw[hq0,hz.2,Nat.zero_mul,Nat.add_zero]at this;rw[hq0];exact this
         ·rcases Nat.eq_zero_or_pos j with hj0|hj0
          ·exact(Hq0.out hq0 (by rw[<-H0.out hj0];exact hz.2)).elim
          ·omega
        ·have hjk':j=k:=ω;have h1:=Hr2.out;have h3:=HP2.out;rw[hjk',Nat.sub_self,Nat.pow_zero]at h1 h3;rw[show rr=0 from ω,Nat.mul_one,Nat.add_zero]at h3;exact⟨h3,ω⟩
       have hs1:=hid (nB hown);have hs2:=hid (nB hown2);have hlm:=hid (show m2<=L by rw[Hm2.out,HL.out];exact Part.len hex.out.1);clear HP2 Hr2 H0 Hq0;by_cases hjk:j<k
       ·have d1:decide (j<k)=true:=(by rw[decide_eq_true_eq];exact hjk);have d2:decide (0<nq)=false:=by rw[decide_eq_false_iff_not];omega
        have d3:decide (0<rr)=false:=(by rw[decide_eq_false_iff_not];omega);clear hgo hjk;go_wp2;go_roundw;case rel=>exact⟨some ⟨gq,0,none⟩,nq,cq,q,m2,l2,rfl,Hnq,ω,haq,hown2,hid hs2.out,Hm2,hid hex.out.1,hbl2⟩
        case measure=>have:=hs1.out;have:=hs2.out;have:=hlm.out;have:=hex.out.2;omega
       ·have d1:decide (j<k)=false:=(by rw[decide_eq_false_iff_not];exact hjk);clear hgo hjk;go_wp2;go_roundw;case rel=>exact⟨some ⟨gq,0,none⟩,nq,cq,q,m2,l2,rfl,Hnq,ω,haq,hown2,hid hs2.out,Hm2,hid hex.out.1,hbl2⟩
        case measure=>have:=hs1.out;have:=hs2.out;have:=hlm.out;have:=hex.out.2;omega
theorem zn{xs ys zs:List Nat}{k c:Nat}(d:zs.length=k)(h:val zs+c*W k=val (xs.take k)+val (ys.take k)):val (zs++[(c+wd xs k+wd ys k)%4294967296])+(c+wd xs k+wd ys k)/4294967296*W (k+1)=val (xs.take (k+1))+val (ys.take (k+1)):=by
 rw[gY,d,aN xs,aN ys,bP];have a:=Nat.div_add_mod (c+wd xs k+wd ys k) 4294967296;generalize(c+wd xs k+wd ys k)/4294967296=q at*
 generalize(c+wd xs k+wd ys k)%4294967296=r at*
 have b:=congrArg (fun t=>W k*t) a;simp only[Nat.mul_add]at b;have e:W k*(4294967296*q)=q*(4294967296*W k):=by rw[Nat.mul_comm,Nat.mul_right_comm,Nat.mul_comm (4294967296*_)]
 have f:W k*c=c*W k:=Nat.mul_comm _ _;omega
def Fresh(w:World)(a:Option Addr):Prop:= ∀b c,a=some ⟨b,c,none⟩->w.heap.size<=b
def Da(w w':World)(e:Ending)(N m:Nat):Prop:=
 ∃a n cap zs,e= .returned (.slice a n cap)/\n=zs.length/\n<=cap/\n<=m/\Lim zs/\val zs=N/\Lay .u32 w' a zs/\Below w w w'/\Fresh w a
def BC(w w':World)(e:Ending)(N m k:Nat):Prop:=
 ∃a n cap zs,e= .returned (.slice a n cap)/\n=zs.length/\n<=cap/\n<=m/\Lim zs/\val zs=N/\Lay .u32 w' a zs/\Below w w w'/\Fresh w a/\k<=n
theorem oG(w:World)(a b:Option Addr)(xs ys:List Nat)(n m ca cb M:Nat)(ha:Lay .u32 w a xs)(hb:Lay .u32 w b ys)(hx:Lim xs)(hy:Lim ys)(hn:n=xs.length)(hm:m=ys.length)(ln:n<=M)(lm:m<=M)(lM:M<=1099511627776):Calls prog 202 #[.slice a n ca,.slice b m cb] w fun e w'=>BC w w' e (val xs+val ys) (M+1) n:=by
 obtain⟨b1,off1,hix,hcx,_⟩:=ha.use 22 25 underlying22 aK ca;obtain⟨b2,off2,hiy,hcy,_⟩:=hb.use 22 25 underlying22 aK cb;rw[<-hn]at hix hcx;rw[<-hm]at hiy hcy;have Hn:=hid hn;clear hn;have Hm:=hid hm;clear hm;have HX:=hid hix;clear hix;have HCX:=hid hcx;clear hcx;have HY:=hid hiy;clear hiy;have HCY:=hid hcy;clear hcy;go_enter func202,ntmps202;go_wp2;go_loopw[5,6,7] (fun v c i wr=> ∃(k cc:Nat) (zs:List Nat),k<=M+1/\(k=M+1->cc=0)/\i= .int .i64 k/\c= .int .u64 cc/\cc<=1/\Hid (zs.length=k)/\Lim zs/\wr.ownsRow w 25 1 v k (aC .u32 zs)/\Hid (val zs+cc*W k=val (xs.take k)+val (ys.take k))/\Below w w wr) (fun _ _ i _=>M+1-(intOf i).toNat);case atStart=>exact⟨0,0,[],ω,fun _=>rfl,rfl,rfl,ω,hid rfl,Lim.nil,World.ownsRow_nil _ _ _ _,hid (by simp[val]),Below.refl _ _⟩
 case round=>
  obtain⟨k,c,zs,hk,hkM,rfl,rfl,hc1,Hz,hzlim,hown,Hv,hbl⟩:=hrel;have h1:=hx.wd k;have h2:=hy.wd k;have hkM':k=M+1->c=0:=hkM;clear hkM;have HkM:=hid hkM';clear hkM';by_cases hgo:k<n∨k<m∨0<c
  ·have kM:k<=M:=by
    have:=HkM.out;omega
   obtain⟨t,ht⟩:=ξ (c+wd xs k+wd ys k);have t1:t<8589934592:=ω
   obtain⟨d,hd⟩:=ξ (t%4294967296);obtain⟨c2,hc2⟩:=ξ (t/4294967296);have ed:(t:Int)%4294967296=(d:Int):=ω
   have ec:(t:Int)/4294967296=(c2:Int):=ω;have dl:d<4294967296:=ω
   have c21:c2<=1:=ω;have hst:=hid (zn Hz.out Hv.out);rw[<-ht,<-hd,<-hc2]at hst
   have hlast:Hid (k+1=M+1->c2=0):=hid (fun e=>by
    have z1:=eR (l:=xs) (i:=k) (by rw[<-Hn.out];omega);have z2:=eR (l:=ys) (i:=k) (by rw[<-Hm.out];omega);omega)
   clear hd hc2;have hsz:=hbl.size;by_cases hkn:k<n
   ·by_cases hkm:k<m
    ·have ix:=HX.out wr .i64 k ω ω;rw[Int.toNat_natCast]at ix;have cx:=HCX.out wr hbl k ω;have d1:decide (k<n)=true:=by rw[decide_eq_true_eq];omega
     have iy:=HY.out wr .i64 k ω ω;rw[Int.toNat_natCast]at iy;have cy:=HCY.out wr hbl k ω;have d2:decide (k<m)=true:=by rw[decide_eq_true_eq];omega
     have eT:(c:Int)+(wd xs k:Nat)+(wd ys k:Nat)=(t:Int):=ω;clear ht hgo;go_wp2_with(at_builtin;refine bG rfl _ _ 22 rfl .u32 w 25 (Ψ 0) 4 underlying22 bz rfl _ k zs rfl (hown.alloc _) wr.heap.size 1 rfl d _ (by simp) rfl ω ω (by rw[World.size_alloc];omega) ?_;intro v' w3 hown3 hb3 hszw hgr;clear hgr hszw);go_roundw;case rel=>exact⟨k+1,c2,zs++[d],ω,hlast.out,by go_num,rfl,c21,hid (by rw[List.length_append,Hz.out];rfl),hzlim.append (Lim.cons dl Lim.nil),hown3,hst,(hbl.alloc hbl.size _).trans hb3⟩
     case measure=>exact μ
    ·have ix:=HX.out wr .i64 k ω ω;rw[Int.toNat_natCast]at ix;have cx:=HCX.out wr hbl k ω;have d1:decide (k<n)=true:=by rw[decide_eq_true_eq];omega
     have d2:decide (k<m)=false:=(by rw[decide_eq_false_iff_not];omega);have z2:=eR (l:=ys) (i:=k) (by rw[<-Hm.out];omega);have eT:(c:Int)+(wd xs k:Nat)=(t:Int):=ω
     clear z2;clear ht hgo;go_wp2_with(at_builtin;refine bG rfl _ _ 22 rfl .u32 w 25 (Ψ 0) 4 underlying22 bz rfl _ k zs rfl (hown.alloc _) wr.heap.size 1 rfl d _ (by simp) rfl ω ω (by rw[World.size_alloc];omega) ?_;intro v' w3 hown3 hb3 hszw hgr;clear hgr hszw);go_roundw;case rel=>exact⟨k+1,c2,zs++[d],ω,hlast.out,by go_num,rfl,c21,hid (by rw[List.length_append,Hz.out];rfl),hzlim.append (Lim.cons dl Lim.nil),hown3,hst,(hbl.alloc hbl.size _).trans hb3⟩
     case measure=>exact μ
   ·by_cases hkm:k<m
    ·have d1:decide (k<n)=false:=(by rw[decide_eq_false_iff_not];omega);have z1:=eR (l:=xs) (i:=k) (by rw[<-Hn.out];omega);have iy:=HY.out wr .i64 k ω ω;rw[Int.toNat_natCast]at iy;have cy:=HCY.out wr hbl k ω;have d2:decide (k<m)=true:=by rw[decide_eq_true_eq];omega
     have eT:(c:Int)+(wd ys k:Nat)=(t:Int):=ω;clear z1;clear ht hgo;go_wp2_with(at_builtin;refine bG rfl _ _ 22 rfl .u32 w 25 (Ψ 0) 4 underlying22 bz rfl _ k zs rfl (hown.alloc _) wr.heap.size 1 rfl d _ (by simp) rfl ω ω (by rw[World.size_alloc];omega) ?_;intro v' w3 hown3 hb3 hszw hgr;clear hgr hszw);go_roundw;case rel=>exact⟨k+1,c2,zs++[d],ω,hlast.out,by go_num,rfl,c21,hid (by rw[List.length_append,Hz.out];rfl),hzlim.append (Lim.cons dl Lim.nil),hown3,hst,(hbl.alloc hbl.size _).trans hb3⟩
     case measure=>exact μ
    ·have d1:decide (k<n)=false:=(by rw[decide_eq_false_iff_not];omega);have z1:=eR (l:=xs) (i:=k) (by rw[<-Hn.out];omega);have d2:decide (k<m)=false:=by rw[decide_eq_false_iff_not];omega
     have z2:=eR (l:=ys) (i:=k) (by rw[<-Hm.out];omega);have d3:decide (0<c)=true:=by rw[decide_eq_true_eq];omega
     have et:t=c:=ω;rw[et]at ed ec;clear z1 z2 et;clear ht hgo;go_wp2_with(at_builtin;refine bG rfl _ _ 22 rfl .u32 w 25 (Ψ 0) 4 underlying22 bz rfl _ k zs rfl (hown.alloc _) wr.heap.size 1 rfl d _ (by simp) rfl ω ω (by rw[World.size_alloc];omega) ?_;intro v' w3 hown3 hb3 hszw hgr;clear hgr hszw);go_roundw;case rel=>exact⟨k+1,c2,zs++[d],ω,hlast.out,by go_num,rfl,c21,hid (by rw[List.length_append,Hz.out];rfl),hzlim.append (Lim.cons dl Lim.nil),hown3,hst,(hbl.alloc hbl.size _).trans hb3⟩
     case measure=>exact μ
  ·have z:c=0:=ω;have d1:decide (k<n)=false:=by rw[decide_eq_false_iff_not];omega
   have d2:decide (k<m)=false:=by rw[decide_eq_false_iff_not];omega
   have hval:Hid (val zs=val xs+val ys):=by
    have h:=Hv.out;rw[z,Nat.zero_mul,Nat.add_zero,List.take_of_length_le (by rw[<-Hn.out];omega),List.take_of_length_le (by rw[<-Hm.out];omega)]at h;exact h
   have hfr:=hown.lt;have Hkn:Hid (n<=k):=hid ω;obtain⟨av,capv,hav,hcv,hmv,hlv,_⟩:=dG hown;subst z;have Hmv:=hid hmv;clear hmv;clear hgo h1 h2;subst hav;have HFr:Hid (Fresh w av):=hid (fun b off e=>(hfr b (by rw[e];rfl)).1);clear hfr;go_wp2;go_ret;exact⟨av,_,capv,zs,rfl,Hmv.out,hcv,hk,hzlim,hval.out,hlv,hbl,HFr.out,Hkn.out⟩
theorem ol(w:World)(a b:Option Addr)(xs ys:List Nat)(n m ca cb M:Nat)(d:Lay .u32 w a xs)(f:Lay .u32 w b ys)(g:Lim xs)(j:Lim ys)(k:n=xs.length)(p:m=ys.length)(q:n<=M)(r:m<=M)(t:M<=1099511627776):Calls prog 202 #[.slice a n ca,.slice b m cb] w fun e w'=>Da w w' e (val xs+val ys) (M+1):=by
 refine(oG w a b xs ys n m ca cb M d f g j k p q r t).mono ?_;rintro e w' ⟨a,n,cap,zs,h1,h2,h3,h4,h5,h6,h7,h8,h9,_⟩;exact⟨a,n,cap,zs,h1,h2,h3,h4,h5,h6,h7,h8,h9⟩
end Go.Proofs.YtfefijlnbhbplaaGreatDoor

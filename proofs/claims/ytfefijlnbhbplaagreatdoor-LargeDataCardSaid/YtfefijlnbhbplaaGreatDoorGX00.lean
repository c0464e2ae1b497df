/- Walks and laws that LargeData asks for. -/
import Derived.Lib.Hide
import Derived.Handy
import Derived.Laws.AppendOwnNone
import Derived.BigQuiet
import Derived.WalkSpells
import Derived.WalkLawsBesides
set_option linter.unusedVariables false
set_option linter.unusedSimpArgs false
namespace Go.Proofs.YtfefijlnbhbplaaGreatDoor
open Go Go.RowKit
theorem zA{α:Type}{l:List α}{i:Nat}{a:α}:l.toArray.setIfInBounds i a=(l.set i a).toArray:=List.setIfInBounds_toArray _ _ _
theorem zB{α:Type}{x y:α}{l:List α}:(x :: l).set 0 y=y :: l:=rfl
theorem zC{α:Type}{x y:α}{l:List α}{n:Nat}:(x :: l).set (n+1) y=x :: l.set n y:=rfl
theorem yB{α:Type}{x:α}{l:List α}:(x :: l)[0]? =some x:=rfl
theorem yC{α:Type}{x:α}{l:List α}{n:Nat}:(x :: l)[n+1]? =l[n]? :=rfl
theorem ω{P:Prop}(h:P:=by omega):P:=h
theorem δ{P:Prop}(h:P:=by decide):P:=h
theorem κ{P:Prop}(h:P:=by kernel_rfl):P:=h
theorem μ{P:Prop}(h:P:=by simp[intOf];omega):P:=h
theorem dT{p:Prop}[Decidable p](h:p:=by omega):decide p=true:=decide_eq_true h
theorem dF{p:Prop}[Decidable p](h: ¬p:=by omega):decide p=false:=decide_eq_false h
theorem nE{α:Type _}[BEq α][LawfulBEq α]{a b:α}(h:a≠b:=by omega):(a==b)=false:=beq_eq_false_iff_ne.2 h
theorem φ{P:Prop}(h:P:=by exact rfl):P:=h
theorem ι{n:Nat}:n<=n:=Nat.le_refl n
theorem ξ{α:Sort _}(x:α): ∃y,y=x:=⟨_,rfl⟩
theorem τ{w w1 w2:World}(h:Below w.heap.size w w1)(g:Below w1.heap.size w1 w2):Below w.heap.size w w2:=h.trans (g.mono h.size)
theorem σ{P:Prop}(h:P:=by first |exact .head _|exact .tail _ (.head _)|exact .tail _ (.tail _ (.head _))|exact .tail _ (.tail _ (.tail _ (.head _)))|exact .tail _ (.tail _ (.tail _ (.tail _ (.head _))))):P:=h
structure VT where
structure OT where
structure ET where
structure NT where
def E(n:Nat):VT:=⟨⟩
def Θ(n i:Nat):VT:=⟨⟩
def I(n:Int):VT:=⟨⟩
def Ψ(n:Int):VT:=⟨⟩
def M(n k c:Nat):VT:=⟨⟩
def Ω(b:Bool)(a:Option Addr)(n c:Nat):VT:=⟨⟩
def O(v:Value):OT:=⟨⟩
def Rt(l:Array Value):ET:=⟨⟩
def N1(w:World):NT:=⟨⟩
def N2(w:World):NT:=⟨⟩
instance (n:Nat):CoeDep VT (E n) Value:=⟨.pointer (some ⟨n,0,none⟩)⟩
instance (n i:Nat):CoeDep VT (Θ n i) Value:=⟨.pointer (some ⟨n,i,none⟩)⟩
instance (n:Int):CoeDep VT (I n) Value:=⟨.int .i64 n⟩
instance (n:Int):CoeDep VT (Ψ n) Value:=⟨.int .u32 n⟩
instance (n k c:Nat):CoeDep VT (M n k c) Value:=⟨.slice (some ⟨n,0,none⟩) k c⟩
instance (b:Bool) (a:Option Addr) (n c:Nat):CoeDep VT (Ω b a n c) Value:=⟨.agg #[.bool b,.slice a n c]⟩
instance (v:Value):CoeDep OT (O v) (Option Value):=⟨some v⟩
instance (l:Array Value):CoeDep ET (Rt l) Ending:=⟨.returned (.tuple l)⟩
instance (n:Int):CoeDep VT (I n) Ending:=⟨.returned (.int .i64 n)⟩
instance (n:Int):CoeDep VT (Ψ n) Ending:=⟨.returned (.int .u32 n)⟩
instance (n:Nat):CoeDep VT (E n) Ending:=⟨.returned (.pointer (some ⟨n,0,none⟩))⟩
instance (w:World):CoeDep NT (N1 w) Nat:=⟨w.heap.size+1⟩
instance (w:World):CoeDep NT (N2 w) Nat:=⟨w.heap.size+1+1⟩
instance:Coe World Nat:=⟨fun w=>w.heap.size⟩
end Go.Proofs.YtfefijlnbhbplaaGreatDoor
namespace Go.Proofs.YtfefijlnbhbplaaGreatDoor.Limb
def val:List Nat->Nat
 |[]=>0
 |d :: t=>d+4294967296*val t
def W(k:Nat):Nat:=4294967296^k
theorem eS:W 0=1:=rfl
theorem bP(k:Nat):W (k+1)=4294967296*W k:=by unfold W;rw[Nat.pow_succ];omega
theorem FB:W 1=4294967296:=δ
theorem gH(k:Nat):0<W k:=by unfold W;exact Nat.pow_pos δ
theorem oA(a b:Nat):W (a+b)=W a*W b:=by unfold W;rw[Nat.pow_add]
theorem dj(k:Nat):W k=2^(32*k):=by
 unfold W;rw[Nat.pow_mul]
theorem mt{a b:Nat}(h:a<=b):W a<=W b:=by
 unfold W;exact Nat.pow_le_pow_right δ h
def wd(l:List Nat)(i:Nat):Nat:=l.getD i 0
theorem wd_lt{l:List Nat}{i:Nat}(h:i<l.length):wd l i=l[i]:=by
 unfold wd;rw[List.getD_eq_getElem?_getD,List.getElem?_eq_getElem h];rfl
theorem eR{l:List Nat}{i:Nat}(h:l.length<=i):wd l i=0:=by
 unfold wd;rw[List.getD_eq_getElem?_getD,List.getElem?_eq_none h];rfl
theorem wd_take{l:List Nat}{i k:Nat}(h:i<k):wd (l.take k) i=wd l i:=by
 unfold wd;simp only[List.getD_eq_getElem?_getD];rw[List.getElem?_take_of_lt h]
theorem wd_drop(l:List Nat)(i k:Nat):wd (l.drop k) i=wd l (k+i):=by
 unfold wd;simp[List.getD_eq_getElem?_getD]
theorem cm{l:List Nat}{i d:Nat}(h:i<l.length)(j:Nat):wd (l.set i d) j=if j=i then d else wd l j:=by
 unfold wd;simp only[List.getD_eq_getElem?_getD,List.getElem?_set];by_cases a:j=i
 ·subst a;simp[h]
 ·rw[if_neg ω,if_neg a]
theorem eC{a b:List Nat}{i:Nat}(h:i<a.length):wd (a++b) i=wd a i:=by
 unfold wd;simp only[List.getD_eq_getElem?_getD];rw[List.getElem?_append_left h]
theorem eP{a b:List Nat}{i:Nat}(h:a.length<=i):wd (a++b) i=wd b (i-a.length):=by
 unfold wd;simp only[List.getD_eq_getElem?_getD];rw[List.getElem?_append_right h]
theorem cF(n i:Nat):wd (List.replicate n 0) i=0:=by
 unfold wd;simp[List.getD_eq_getElem?_getD,List.getElem?_replicate];split<;>rfl
theorem iz{l:List Nat}{k:Nat}(h:k<l.length):l.take (k+1)=l.take k++[wd l k]:=by
 rw[List.take_succ_eq_append_getElem h,wd_lt h]
theorem dX{a b:List Nat}(h:a.length=b.length)(d: ∀i,i<a.length->wd a i=wd b i):a=b:=by
 apply List.ext_getElem h;intro i h1 c;have:=d i h1;rwa [wd_lt h1,wd_lt c]at this
def Lim(l:List Nat):Prop:= ∀x∈l,x<4294967296
theorem Lim.nil:Lim []:=by intro x h;cases h
theorem Lim.cons{d:Nat}{t:List Nat}(h:d<4294967296)(ht:Lim t):Lim (d :: t):=by
 intro x a;cases a with
 |head=>exact h
 |tail _ a=>exact ht x a
theorem Lim.head{d:Nat}{t:List Nat}(h:Lim (d :: t)):d<4294967296:=h d (by simp)
theorem Lim.tail{d:Nat}{t:List Nat}(h:Lim (d :: t)):Lim t:=fun x a=>h x (by simp[a])
theorem Lim.append{a b:List Nat}(d:Lim a)(e:Lim b):Lim (a++b):=by
 intro x c;rcases List.mem_append.1 c with h|h
 ·exact d x h
 ·exact e x h
theorem Lim.left{a b:List Nat}(h:Lim (a++b)):Lim a:=fun x c=>h x (by simp[c])
theorem Lim.take{l:List Nat}(h:Lim l)(k:Nat):Lim (l.take k):=fun x a=>h x (List.mem_of_mem_take a)
theorem Lim.drop{l:List Nat}(h:Lim l)(k:Nat):Lim (l.drop k):=fun x a=>h x (List.mem_of_mem_drop a)
theorem Lim.set{l:List Nat}(h:Lim l){i d:Nat}(b:d<4294967296):Lim (l.set i d):=by
 intro x a;rcases List.mem_or_eq_of_mem_set a with h'|h'
 ·exact h x h'
 ·rw[h'];exact b
theorem Lim.wd{l:List Nat}(h:Lim l)(i:Nat):wd l i<4294967296:=by
 unfold Limb.wd;rw[List.getD_eq_getElem?_getD]
 cases hx:l[i]? with
 |none=>simp
 |some x=>simp only[Option.getD_some];exact h x (List.mem_of_getElem? hx)
theorem Lim.replicate(n:Nat){d:Nat}(h:d<4294967296):Lim (List.replicate n d):=by
 intro x a;rw[(List.mem_replicate.1 a).2];exact h
theorem eW(a b:List Nat):val (a++b)=val a+W a.length*val b:=by
 induction a with
 |nil=>simp[val,eS]
 |cons d t ih=>
  simp only[List.cons_append,val,ih,List.length_cons,bP];rw[Nat.mul_add,Nat.mul_assoc];omega
theorem cC{l:List Nat}(h:Lim l):val l<W l.length:=by
 induction l with
 |nil=>simp[val,eS]
 |cons d t ih=>
  have h1:=ih h.tail;have a:=h.head;simp only[val,List.length_cons,bP];omega
theorem cH(n:Nat):val (List.replicate n 0)=0:=by
 induction n with
 |zero=>rfl
 |succ n ih=>simp[List.replicate_succ,val,ih]
theorem gY(l:List Nat)(d:Nat):val (l++[d])=val l+W l.length*d:=by
 rw[eW];simp[val]
theorem bJ(l:List Nat)(k:Nat)(a:k<=l.length):val l=val (l.take k)+W k*val (l.drop k):=by
 have h:=eW (l.take k) (l.drop k);rw[List.take_append_drop,List.length_take,Nat.min_eq_left a]at h;exact h
theorem fZ{l:List Nat}(h:Lim l)(k:Nat):val (l.take k)=val l%W k:=by
 by_cases a:k<=l.length
 ·rw[bJ l k a,Nat.add_mul_mod_self_left,Nat.mod_eq_of_lt];have:=cC (h.take k);rwa [List.length_take,Nat.min_eq_left a]at this
 ·rw[List.take_of_length_le ω,Nat.mod_eq_of_lt];exact Nat.lt_of_lt_of_le (cC h) (mt ω)
theorem ll{l:List Nat}(h:Lim l)(k:Nat):val (l.drop k)=val l/W k:=by
 by_cases a:k<=l.length
 ·rw[bJ l k a,Nat.add_mul_div_left _ _ (gH k),Nat.div_eq_of_lt,Nat.zero_add];have:=cC (h.take k);rwa [List.length_take,Nat.min_eq_left a]at this
 ·rw[List.drop_of_length_le ω,Nat.div_eq_of_lt];· rfl
  exact Nat.lt_of_lt_of_le (cC h) (mt ω)
theorem dP{l:List Nat}(h:Lim l)(i:Nat):wd l i=val l/W i%4294967296:=by
 unfold wd
 induction l generalizing i with
 |nil=>simp[val]
 |cons d t ih=>
  have a:=h.head;cases i with
  |zero=>simp[val,eS];omega
  |succ i=>
   rw[List.getD_cons_succ,ih h.tail,val,bP,<-Nat.div_div_eq_div_mul];congr 2;omega
def pj:Nat->Nat->List Nat
 |0,_=>[]
 |f+1,n=>if n=0 then[]else n%4294967296 :: pj f (n/4294967296)
def rep(n:Nat):List Nat:=pj n n
theorem tB(f g n:Nat)(hf:n<=f)(a:n<=g):pj f n=pj g n:=by
 induction f generalizing g n with
 |zero=>
  have:n=0:=ω;subst this;cases g<;>simp[pj]
 |succ f ih=>
  by_cases h0:n=0
  ·subst h0;cases g<;>simp[pj]
  ·cases g with
   |zero=>omega
   |succ g=>
    simp only[pj,if_neg h0];rw[ih g (n/4294967296) ω ω]
theorem eE:rep 0=[]:=rfl
theorem jw{n:Nat}(h:n≠0):rep n=n%4294967296 :: rep (n/4294967296):=by
 unfold rep;cases n with
 |zero=>exact absurd rfl h
 |succ n=>
  rw[show pj (n+1) (n+1)=(n+1)%4294967296 :: pj n ((n+1)/4294967296)from by simp[pj]];rw[tB n _ _ ω ι]
theorem ni{p:Nat->Prop}(h0:p 0)(h1: ∀n,n≠0->p (n/4294967296)->p n)(n:Nat):p n:=by
 induction n using Nat.strongRecOn with
 |ind n ih=>
  by_cases h:n=0
  ·rw[h];exact h0
  ·exact h1 n h (ih _ ω)
theorem aE(n:Nat):val (rep n)=n:=by
 induction n using ni with
 |h0=>rfl
 |h1 n h ih=>rw[jw h,val,ih];omega
theorem aB(n:Nat):Lim (rep n):=by
 induction n using ni with
 |h0=>exact Lim.nil
 |h1 n h ih=>rw[jw h];exact Lim.cons (Nat.mod_lt _ δ) ih
def fN(l:List Nat):Prop:=l.getLast? ≠some 0
theorem bh(n:Nat):fN (rep n):=by
 induction n using ni with
 |h0=>simp[fN,eE]
 |h1 n h ih=>
  rw[jw h];unfold fN at*
  rw[List.getLast?_cons]
  cases hl:(rep (n/4294967296)).getLast? with
  |none=>
   have:rep (n/4294967296)=[]:=(by simpa using hl);have b:=aE (n/4294967296);rw[this]at b;simp[val]at b;simp;omega
  |some x=>rw[hl]at ih;simpa using ih
theorem fM{l:List Nat}(h:Lim l)(g:fN l):rep (val l)=l:=by
 induction l with
 |nil=>rfl
 |cons d t ih=>
  have k:=h.head
  have b:val (d :: t)≠0:=by
   intro e;simp only[val]at e;have c:d=0:=ω
   have f:val t=0:=ω;cases t with
   |nil=>subst c;simp[fN]at g
   |cons d' t'=>
    have a:=ih h.tail (by simpa[fN,List.getLast?_cons]using g);rw[f,eE]at a;simp at a
  rw[jw b];have i:val (d :: t)%4294967296=d:=by simp only[val];omega
  have j:val (d :: t)/4294967296=val t:=(by simp only[val];omega);rw[i,j];cases t with
  |nil=>rfl
  |cons d' t'=>rw[ih h.tail (by simpa[fN,List.getLast?_cons]using g)]
theorem rep_length_le{n k:Nat}:(rep n).length<=k↔n<W k:=by
 induction n using ni generalizing k with
 |h0=>simp[eE,gH]
 |h1 n h ih=>
  rw[jw h,List.length_cons];cases k with
  |zero=>simp[eS];omega
  |succ k=>
   rw[Nat.add_le_add_iff_right,ih,bP];omega
theorem rep_length_lt{n k:Nat}:k<(rep n).length↔W k<=n:=by
 have:= @rep_length_le n k;omega
theorem xc{n:Nat}(h:n≠0):W ((rep n).length-1)<=n:=by
 have:(rep n).length≠0:=by rw[jw h];simp
 exact rep_length_lt.1 ω
theorem cK(n:Nat):n<W (rep n).length:=rep_length_le.1 ι
theorem aS{m n:Nat}(h:m<=n):(rep m).length<=(rep n).length:=
 rep_length_le.2 (Nat.lt_of_le_of_lt h (cK n))
theorem sE(n i:Nat):wd (rep n) i=n/W i%4294967296:=by
 rw[dP (aB n),aE]
theorem DA{m n:Nat}(h:rep m=rep n):m=n:=by
 have:=congrArg val h;rwa [aE,aE]at this
theorem xA{n:Nat}:rep n=[]↔n=0:=by
 constructor
 ·intro h;exact DA h
 ·intro h;rw[h];rfl
theorem rep_length_zero{n:Nat}:(rep n).length=0↔n=0:=by
 rw[List.length_eq_zero_iff,xA]
theorem rep_prefix{l:List Nat}(h:Lim l):rep (val l)=l.take (rep (val l)).length:=by
 have a:(rep (val l)).length<=l.length:=rep_length_le.2 (cC h)
 have b:val (l.drop (rep (val l)).length)=0:=by
  rw[ll h];exact Nat.div_eq_of_lt (cK _)
 have c:val (l.take (rep (val l)).length)=val l:=by
  have:=bJ l _ a;rw[b]at this;omega
 apply dX
 ·rw[List.length_take,Nat.min_eq_left a]
 ·intro i h1;rw[sE,wd_take h1,dP h]
theorem dm{l:List Nat}{k:Nat}(h:k<l.length):val (l.take (k+1))=val (l.take k)+W k*wd l k:=by
 rw[iz h,gY,List.length_take,Nat.min_eq_left ω]
theorem px(l:List Nat)(k d:Nat):(l.set k d).take k=l.take k:=by
 rw[List.take_set,List.set_eq_of_length_le (by simp;omega)]
theorem dZ(l:List Nat){j k:Nat}(d:Nat)(h:j<=k):(l.set k d).take j=l.take j:=by
 rw[List.take_set,List.set_eq_of_length_le (by simp;omega)]
theorem bK{l:List Nat}{k:Nat}(d:Nat)(h:k<l.length):val ((l.set k d).take (k+1))=val (l.take k)+W k*d:=by
 rw[dm (by rw[List.length_set];exact h),px,cm h,if_pos rfl]
theorem ta{l:List Nat}{k:Nat}(d:Nat)(h:l.length=k+1):val (l.set k d)=val (l.take k)+W k*d:=by
 rw[<-bK d ω,List.take_of_length_le (by rw[List.length_set];omega)]
theorem aN(l:List Nat)(k:Nat):val (l.take (k+1))=val (l.take k)+W k*wd l k:=by
 by_cases a:k<l.length
 ·exact dm a
 ·rw[List.take_of_length_le ω,List.take_of_length_le ω,eR ω];simp
theorem aQ{l:List Nat}(h:Lim l):(rep (val l)).length<=l.length:=rep_length_le.2 (cC h)
end Go.Proofs.YtfefijlnbhbplaaGreatDoor.Limb
namespace Go.Proofs.YtfefijlnbhbplaaGreatDoor
open Go Go.RowKit
def Lay(K:IntKind)(w:World)(a:Option Addr)(l:List Nat):Prop:=
 ∃b c,(0<l.length->a=some ⟨b,c,none⟩/\b<w.heap.size)/\∀i,i<l.length->w.cell? ⟨b,c+i,none⟩=some (.int K (Limb.wd l i:Nat))
theorem Lay.nil(K:IntKind)(w:World)(a:Option Addr):Lay K w a []:=⟨0,0,fun h=>absurd h (by simp),fun i h=>absurd h (by simp)⟩
theorem Lay.below{K:IntKind}{w w':World}{a:Option Addr}{l:List Nat}(h:Lay K w a l)(f:Below w w w'):Lay K w' a l:=by
 obtain⟨b,c,h1,j⟩:=h;refine⟨b,c,fun d=>⟨(h1 d).1,by have:=f.size;have:=(h1 d).2;omega⟩,fun i k=>?_⟩;rw[f.cell (by exact(h1 ω).2)];exact j i k
theorem Lay.take{K:IntKind}{w:World}{a:Option Addr}{l:List Nat}(h:Lay K w a l)(k:Nat):Lay K w a (l.take k):=by
 obtain⟨b,c,h1,d⟩:=h;refine⟨b,c,fun f=>h1 (by rw[List.length_take]at f;omega),fun i j=>?_⟩;rw[List.length_take]at j;rw[d i ω];rw[Limb.wd_take ω]
section
variable {P:Program} {K:IntKind} {w:World} {a:Option Addr} {l:List Nat}
theorem Lay.use(h:Lay K w a l)(t e:TypeId)(ht:P.underlying t=some (.slice e))(hs: ∀W,(sizeOf e).run P W= .ok 1 W)(cap:Nat): ∃b d,(∀(W:World) (k:IntKind) (i:Int),0<=i->i<(l.length:Int)->(Instr.indexAt t (.slice a l.length cap) (.int k i)).run P W= .ok (Θ b (d+i.toNat)) W)/\(∀w',Below w w w'->∀i,i<l.length->w'.cell? ⟨b,d+i,none⟩=some (.int K (Limb.wd l i:Nat)))/\(0<l.length->b<w.heap.size):=by
 obtain⟨b,d,h1,m⟩:=h;refine⟨b,d,fun W k i f j=>?_,fun w' o i p=>by rw[o.cell (by exact(h1 ω).2)];exact m i p,fun h=>(h1 h).2⟩;rw[(h1 ω).1];simp[Instr.indexAt,run_underlying ht,asIntOf,f,j,hs,Result.andThen,Addr.add]
end
theorem jO(b:Nat):((b*4294967296:Nat):Int)=(b:Int)*4294967296:=by rw[Int.natCast_mul];rfl
theorem nW(a b:Nat)(c:a<4294967296)(d:b<4294967296):bits .or .u64 (a:Int) ((b:Int)*4294967296)=(a:Int)+(b:Int)*4294967296:=by
 rw[<-jO,u64_or_nat _ _ ω ω,Nat.or_comm,nat_join 32 _ _ ω ω,Int.natCast_add,Int.add_comm]
theorem oz(a b:Nat)(c:a<4294967296)(d:b<4294967296):bits .or .u64 ((b:Int)*4294967296) (a:Int)=(b:Int)*4294967296+(a:Int):=by
 rw[<-jO,u64_or_nat _ _ ω ω,nat_join 32 _ _ ω ω,Int.natCast_add]
def Row(w:World)(g:Nat)(e:TypeId)(cs:List Value):Prop:=w.heap[g]? =some (.cells cs.toArray e (0,0))
def aC(k:IntKind)(zs:List Nat):List Value:=zs.map fun n=>Value.int k (n:Nat)
theorem aD(k:IntKind)(zs:List Nat):(aC k zs).length=zs.length:=by simp[aC]
theorem aG(k:IntKind)(n:Nat):aC k (List.replicate n 0)=List.replicate n (Value.int k 0):=by simp[aC]
theorem aJ{k:IntKind}{zs:List Nat}{i:Nat}(h:i<zs.length):(aC k zs)[i]? =some (.int k (Limb.wd zs i:Nat)):=by
 rw[Limb.wd_lt h];simp[aC,h]
theorem i6(k:IntKind)(zs:List Nat)(i d:Nat):aC k (zs.set i d)=(aC k zs).set i (.int k d):=by
 simp[aC,List.map_set]
theorem qo(k:IntKind)(zs:List Nat)(n:Nat):(aC k zs).take n=aC k (zs.take n):=by simp[aC,List.map_take]
theorem bw(k:IntKind)(a b:List Nat):aC k (a++b)=aC k a++aC k b:=by simp[aC]
section
variable {w:World} {g:Nat} {e:TypeId} {cs:List Value}
theorem Row.ae(h:Row w g e cs)(i:Nat):w.cell? ⟨g,i,none⟩=cs[i]? :=by
 unfold Row at h;simp[World.cell?,h]
theorem Row.free(h:Row w g e cs)(i:Nat):w.frozen? ⟨g,i,none⟩=false:=by
 unfold Row at h;simp[World.frozen?,h]
theorem Row.lt(h:Row w g e cs):g<w.heap.size:=by
 unfold Row at h;exact(Array.getElem?_eq_some_iff.1 h).1
theorem Row.cell{k:IntKind}{zs:List Nat}(h:Row w g e (aC k zs)){i:Nat}(b:i<zs.length):w.cell? ⟨g,i,none⟩=some (.int k (Limb.wd zs i:Nat)):=by
 rw[h.ae,aJ b]
theorem Row.below{w':World}{B:Nat}(h:Row w g e cs)(b:Below B w w')(c:g<B):Row w' g e cs:=by
 unfold Row at*;rw[b.block g c];exact h
theorem Row.af(h:Row w g e cs)(i:Nat)(v:Value):Row (w.setCell ⟨g,i,none⟩ v) g e (cs.set i v):=by
 unfold Row at*
 simp only[World.setCell,Array.getElem?_modify,if_true,h,Option.map_some];simp
theorem Row.store{k:IntKind}{zs:List Nat}(h:Row w g e (aC k zs))(i:Nat)(v:Int)(d:Nat)(b:v=d):Row (w.setCell ⟨g,i,none⟩ (.int k v)) g e (aC k (zs.set i d)):=by
 rw[i6,b];exact h.af i _
theorem Row.other(h:Row w g e cs){a:Addr}(b:g≠a.block)(v:Value):Row (w.setCell a v) g e cs:=by
 unfold Row at*;rw[Below.heap_setCell _ _ _ _ b];exact h
theorem Row.alloc(h:Row w g e cs)(o:Obj):Row (w.alloc o) g e cs:=by
 have:=h.lt;unfold Row at*;rw[Below.heap_alloc _ _ _ this];exact h
theorem Row.drew(h:Row w g e cs):Row w.drew g e cs:=h
theorem Row.lay{K:IntKind}{zs:List Nat}(h:Row w g e (aC K zs)):Lay K w (some ⟨g,0,none⟩) zs:=
 ⟨g,0,fun _=>⟨rfl,h.lt⟩,fun i b=>by rw[Nat.zero_add];exact h.cell b⟩
end
theorem Lay.norm{K:IntKind}{w:World}{a:Option Addr}{l:List Nat}(h:Lay K w a l)(b:Limb.Lim l):Lay K w a (Limb.rep (Limb.val l)):=by
 rw[Limb.rep_prefix b];exact h.take _
theorem aw{B:Nat}{a w:World}(h:Below B a w){g i:Nat}(b:B<=g)(u:Value):Below B a (w.setCell ⟨g,i,none⟩ u):=h.setCell (by exact b) u
theorem aI{P:Program}{w:World}{f:Array Oper}{rest:List Oper}{o:Oper}{a:Act}{Q:Exit->Act->World->Prop}(D:o.guard=none)(l c:Operand)(t:TypeId)(u:o.op=Op.makeSlice t l c)(e:TypeId)(z:Value)(bytes:Nat)(h1:P.underlying t=some (.slice e))(E:(P.info? e).map (fun i=>(i.zero,i.size,i.bytes))=some (some z,1,bytes))(F:z.cells= #[z])(v x:IntKind)(L C:Int)(n m:Nat)(G:a.eval l= .int v L)(H:a.eval c= .int x C)(I:L=n)(N:C=m)(O:n<=m)(S:bytes*m<=281474976710656)(T:m<=9223372036854775807)(R: ∀w1 g,w.heap.size<=g->w1.heap.size=g+1->Row w1 g e (List.replicate m z)->Below w w w1->wpList P f Q rest (a.put o.dst (M g n m)) w1):wpList P f Q (o :: rest) a w:=by
 refine wpList_plain D fun K q=>?_
 obtain⟨i,B,k,hs,d⟩:=info_parts E;subst I N
 have j:(i.bytes:Int)*(m:Int)<=281474976710656:=by
  rw[d];have h:((bytes*m:Nat):Int)<=281474976710656:=ω
  rwa [Int.natCast_mul]at h
 have b:=run_make (P:=P) w t e i z h1 B k v x n m ω ω j ω;unfold Oper.wp;simp[execOp,u,G,H,b,Result.andThen];refine q _ _ (R _ w ι (World.size_alloc _ _) ?_ ((Below.refl _ _).alloc ι _));unfold Row;rw[heap_alloc_new,hs,Nat.mul_one,F]
 have:(madeCells #[z] m)=(List.replicate m z).toArray:=by
  rw[<-toList_madeCells_one]
 rw[this]
theorem Lay.drop{K:IntKind}{w:World}{b c:Nat}{l:List Nat}(h:Lay K w (some ⟨b,c,none⟩) l)(k:Nat):Lay K w (some ⟨b,c+k,none⟩) (l.drop k):=by
 obtain⟨o,m,h1,n⟩:=h;by_cases f:0<l.length
 ·have j:=(h1 f).1;simp only[Option.some.injEq,Addr.mk.injEq,and_true]at j;obtain⟨rfl,rfl⟩:=j;refine⟨b,c+k,fun _=>⟨rfl,(h1 f).2⟩,fun i d=>?_⟩;rw[List.length_drop]at d;rw[Nat.add_assoc,n (k+i) ω,Limb.wd_drop]
 ·exact⟨b,c+k,fun h=>absurd h (by rw[List.length_drop];omega),fun i d=>absurd d (by rw[List.length_drop];omega)⟩
theorem Lay.drewN{K:IntKind}{w:World}{a:Option Addr}{l:List Nat}(h:Lay K w a l)(n:Nat):Lay K (w.drewN n) a l:=h
theorem Row.drewN{w:World}{g:Nat}{e:TypeId}{cs:List Value}(h:Row w g e cs)(n:Nat):Row (w.drewN n) g e cs:=h
theorem dG{K:IntKind}{w:World}{B:Nat}{e:TypeId}{v:Value}{n:Nat}{zs:List Nat}(h:w.ownsRow B e 1 v n (aC K zs)): ∃a cap,v= .slice a n cap/\n<=cap/\n=zs.length/\Lay K w a zs/\(0<n->∃g cs,a=some ⟨g,0,none⟩/\B<=g/\Row w g e cs/\cs.length=cap/\cs.take n=aC K zs):=by
 obtain⟨h1,f⟩:=h;rw[aD,Nat.mul_one]at h1;rcases f with⟨c,j⟩|⟨g,cap,cur,c,hg,hh,hc1,hc2,hc3,hc4⟩
 ·subst j;have:zs=[]:=List.eq_nil_of_length_eq_zero h1;subst this;exact⟨none,0,c,Nat.le_refl _,rfl,Lay.nil _ _ _,fun h=>absurd h ω⟩
 ·rw[Nat.mul_one]at hc3 hc4;have b:Row w g e cur.toList:=by unfold Row;simpa using hh
  refine⟨some ⟨g,0,none⟩,cap,c,hc1,h1.symm,?_,fun _=>⟨g,cur.toList,rfl,hg,b,by simpa using hc3,hc4⟩⟩;refine⟨g,0,fun _=>⟨rfl,b.lt⟩,fun i m=>?_⟩;rw[Nat.zero_add,b.ae];have d:=aJ (k:=K) m;rw[<-hc4,List.getElem?_take_of_lt ω]at d;exact d
theorem dh{B:Nat}{w w1:World}{e:TypeId}{v:Value}{n:Nat}{xs:List Value}(b:w.ownsRow B e 1 v n xs)(d:w.grownBy w1 v.ownBlock)(f:B<=w.heap.size):Below B w w1:=
 (Below.refl _ _).grown d f fun k c=>(b.lt k c).1
theorem ld{P:Program}{w:World}{ops:Array Oper}{rest:List Oper}{o:Oper}{a:Act}{Q:Exit->Act->World->Prop}(hgd:o.guard=none)(s x:Operand)(t:TypeId)(ho:o.op= .call {callee:= .builtin .append,args:= #[s,x],argTypes:= #[t,t]})(K:IntKind)(B:Nat)(e:TypeId)(z:Value)(bytes:Nat)(ht:P.underlying t=some (.slice e))(h2:(P.info? e).map (fun i=>(i.zero,i.size,i.bytes))=some (some z,1,bytes))(hz:z.cells.size=1)(v:Value)(n:Nat)(xs:List Value)(hs:a.eval s=v)(hown:w.ownsRow B e 1 v n xs)(ad:Option Addr)(m c:Nat)(hx:a.eval x= .slice ad m c)(l:List Nat)(hlay:Lay K w ad l)(hm:m=l.length)(h63:n+m<=9223372036854775807)(hbytes:(n+m)*bytes<=140737488355328)(hB:B<=w.heap.size)(h: ∀v' w',w'.ownsRow B e 1 v' (n+m) (xs++aC K l)->Below B w w'->wpList P ops Q rest (a.put o.dst v') w'):wpList P ops Q (o :: rest) a w:=by
 obtain⟨i,hi,hz0,hsz,hbt⟩:=info_parts h2;by_cases hl:0<l.length
 ·obtain⟨b,off,h1,hc⟩:=hlay;rw[(h1 hl).1]at hx;refine wpList_append_own w hgd s x t ho B e i z 1 bytes ht hi hz0 hsz hbt hz δ v n xs hs hown ⟨b,off,none⟩ m c (aC K l) hx (by rw[aD,hm,Nat.mul_one]) ?_ ?_ h63 hbytes hB ?_
  ·intro j u hj;have hjl:j<l.length:=by have:=(List.getElem?_eq_some_iff.1 hj).1;rwa [aD]at this
   rw[aJ hjl]at hj;rw[Addr.add_lit,hc j hjl];exact hj
  ·intro u hu;unfold aC at hu;obtain⟨_,_,rfl⟩:=List.mem_map.1 hu;rfl
  ·intro v' w' h1 h2 _;exact h v' w' h1 (dh hown h2 hB)
 ·have hl0:l=[]:=List.eq_nil_of_length_eq_zero ω;subst hl0;have hm0:m=0:=hm;subst hm0;cases ad with
  |some ad=>
   refine wpList_append_own w hgd s x t ho B e i z 1 bytes ht hi hz0 hsz hbt hz δ v n xs hs hown ad 0 c [] hx rfl (fun j u hj=>by simp at hj) (fun u hu=>by cases hu) h63 hbytes hB ?_;intro v' w' h1 h2 _;exact h v' w' h1 (dh hown h2 hB)
  |none=>
   refine wpList_plain hgd fun K' hK=>?_
   have hrun:(Builtin.append_ #[t,t] o.type #[v,.slice none 0 c]).run P w= .ok v w:=by
    rcases hown.2 with⟨rfl,rfl⟩|⟨g,cap,cur,rfl,hbg,hg,hnc,hcm,hcs,htake⟩
    ·simp[Builtin.append_,run_underlying ht,sizeOf,typeInfo,hi,Builtin.lenOf,Builtin.firstCells,loadCells,loadCellsFrom]
    ·simp[Builtin.append_,run_underlying ht,sizeOf,typeInfo,hi,Builtin.lenOf,Builtin.firstCells,loadCells,loadCellsFrom,hnc,storeCells]
   unfold Oper.wp;simp[execOp,ho,resolve,invoke,builtin,hs,hx,hrun,Result.andThen];refine hK _ _ (h v w ?_ (Below.refl _ _));simpa[aC]using hown
end Go.Proofs.YtfefijlnbhbplaaGreatDoor

/- Short names of lemmas on lists that the walks ask for at every step. Plain arithmetic of numbers written in words of 32 bits, the lowest ahead. DERIVED: THE SHELF's CONTRACTS AT THIS DUMP, IN PLAIN WORDS (tools/lay-plain.mjs out of 'TryzShelf.lean', which tools/lay-shelf.mjs wrote): THE SAME DECLARATIONS UNDER THE SAME NAMES: 'import', 'namespace', 'open', 'def', 'theorem' AND NOTHING ELSE: no command of the shelf's: FOR A HAND-IN. Each laying: the table of numbers ('.._ren') and one theorem, a field a fact of the dump's own or the kernel's comparison; each contract: ONE APPLICATION. A law for a region that draws its order, whose last operations wait for all the others: what the head's loads read (S) need hold only while an operation of the head has not come up. -/
import Derived.RowKit
import Derived.Shelf.Strings.Builder1
import Derived.Shelf.Strings.Builder2
import Derived.Shelf.Strings.OnBuilder
import Derived.Shelf.Strings.Trim
import Derived.Shelf.Small.Utf8
import Derived.Shelf.Small.Bits
import Derived.Shelf.Small.Strs
import Derived.Shelf.Strings.BuilderF
import Derived.Shelf.Strings.BuilderK
import Derived.Shelf.Strings.BuilderRune
import Derived.Shelf.Strings.Builder2Cap
import Derived.Shelf.Strings.Search1
import Derived.Shelf.Strings.Prefix
import Derived.Shelf.Unicode.Latin
import Derived.Shelf.Strings.Runes
import Derived.Shelf.Strings.AsciiSet
import Derived.Shelf.Unicode.DecodeSlow
import Derived.Shelf.Unicode.DecodeAny
import Derived.Shelf.Unicode.CaseLookup
import Derived.Shelf.Unicode.CaseConvert
import Derived.Shelf.Unicode.CaseTo
import Derived.Shelf.Unicode.CaseLaid
import Derived.Shelf.Strings.MapAny
import Derived.Shelf.Strings.CaseAny
import Derived.Shelf.Strings.BuilderCap
import Derived.Test.YtbffpkmfhkphdaaGreatDoorProg
import Derived.OrdersHeld
import Derived.StillTail
set_option linter.unusedVariables false
set_option linter.unusedSimpArgs false
namespace Go.Proofs.YtbffpkmfhkphdaaGreatDoor
theorem zA{α:Type}{l:List α}{i:Nat}{a:α}:l.toArray.setIfInBounds i a=(l.set i a).toArray:=List.setIfInBounds_toArray _ _ _
theorem zB{α:Type}{x y:α}{l:List α}:(x :: l).set 0 y=y :: l:=rfl
theorem zC{α:Type}{x y:α}{l:List α}{n:Nat}:(x :: l).set (n+1) y=x :: l.set n y:=rfl
theorem yB{α:Type}{x:α}{l:List α}:(x :: l)[0]? =some x:=rfl
theorem yC{α:Type}{x:α}{l:List α}{n:Nat}:(x :: l)[n+1]? =l[n]? :=rfl
end Go.Proofs.YtbffpkmfhkphdaaGreatDoor
namespace Go.Proofs.YtbffpkmfhkphdaaGreatDoor.Limb
def val:List Nat→Nat
 |[]=>0
 |d :: t=>d+4294967296*val t
def W(k:Nat):Nat:=4294967296^k
theorem W_zero:W 0=1:=rfl
theorem W_succ(k:Nat):W (k+1)=4294967296*W k:=by unfold W;rw[Nat.pow_succ];omega
theorem W_one:W 1=4294967296:=by decide
theorem W_pos(k:Nat):0<W k:=by unfold W;exact Nat.pow_pos (by decide)
theorem W_add(a b:Nat):W (a+b)=W a*W b:=by unfold W;rw[Nat.pow_add]
theorem W_two(k:Nat):W k=2^(32*k):=by
 unfold W;rw[Nat.pow_mul]
theorem W_mono{a b:Nat}(h:a≤b):W a≤W b:=by
 unfold W;exact Nat.pow_le_pow_right (by decide) h
def wd(l:List Nat)(i:Nat):Nat:=l.getD i 0
theorem wd_lt{l:List Nat}{i:Nat}(h:i<l.length):wd l i=l[i]:=by
 unfold wd;rw[List.getD_eq_getElem?_getD,List.getElem?_eq_getElem h];rfl
theorem wd_ge{l:List Nat}{i:Nat}(h:l.length≤i):wd l i=0:=by
 unfold wd;rw[List.getD_eq_getElem?_getD,List.getElem?_eq_none h];rfl
theorem wd_take{l:List Nat}{i k:Nat}(h:i<k):wd (l.take k) i=wd l i:=by
 unfold wd;simp only[List.getD_eq_getElem?_getD];rw[List.getElem?_take_of_lt h]
theorem wd_drop(l:List Nat)(i k:Nat):wd (l.drop k) i=wd l (k+i):=by
 unfold wd;simp[List.getD_eq_getElem?_getD]
theorem wd_set{l:List Nat}{i d:Nat}(h:i<l.length)(j:Nat):wd (l.set i d) j=if j=i then d else wd l j:=by
 unfold wd;simp only[List.getD_eq_getElem?_getD,List.getElem?_set];by_cases hj:j=i
 ·subst hj;simp[h]
 ·rw[if_neg (by omega),if_neg hj]
theorem wd_append_lt{a b:List Nat}{i:Nat}(h:i<a.length):wd (a++b) i=wd a i:=by
 unfold wd;simp only[List.getD_eq_getElem?_getD];rw[List.getElem?_append_left h]
theorem wd_append_ge{a b:List Nat}{i:Nat}(h:a.length≤i):wd (a++b) i=wd b (i-a.length):=by
 unfold wd;simp only[List.getD_eq_getElem?_getD];rw[List.getElem?_append_right h]
theorem wd_replicate(n i:Nat):wd (List.replicate n 0) i=0:=by
 unfold wd;simp[List.getD_eq_getElem?_getD,List.getElem?_replicate];split<;>rfl
theorem take_wd{l:List Nat}{k:Nat}(h:k<l.length):l.take (k+1)=l.take k++[wd l k]:=by
 rw[List.take_succ_eq_append_getElem h,wd_lt h]
theorem ext_wd{a b:List Nat}(h:a.length=b.length)(hw: ∀i,i<a.length→wd a i=wd b i):a=b:=by
 apply List.ext_getElem h;intro i h1 h2;have:=hw i h1;rwa [wd_lt h1,wd_lt h2]at this
def Lim(l:List Nat):Prop:= ∀x∈l,x<4294967296
theorem Lim.nil:Lim []:=by intro x h;cases h
theorem Lim.cons{d:Nat}{t:List Nat}(h:d<4294967296)(ht:Lim t):Lim (d :: t):=by
 intro x hx;cases hx with
 |head=>exact h
 |tail _ hx=>exact ht x hx
theorem Lim.head{d:Nat}{t:List Nat}(h:Lim (d :: t)):d<4294967296:=h d (by simp)
theorem Lim.tail{d:Nat}{t:List Nat}(h:Lim (d :: t)):Lim t:=fun x hx=>h x (by simp[hx])
theorem Lim.append{a b:List Nat}(ha:Lim a)(hb:Lim b):Lim (a++b):=by
 intro x hx;rcases List.mem_append.1 hx with h|h
 ·exact ha x h
 ·exact hb x h
theorem Lim.take{l:List Nat}(h:Lim l)(k:Nat):Lim (l.take k):=fun x hx=>h x (List.mem_of_mem_take hx)
theorem Lim.drop{l:List Nat}(h:Lim l)(k:Nat):Lim (l.drop k):=fun x hx=>h x (List.mem_of_mem_drop hx)
theorem Lim.set{l:List Nat}(h:Lim l){i d:Nat}(hd:d<4294967296):Lim (l.set i d):=by
 intro x hx;rcases List.mem_or_eq_of_mem_set hx with h'|h'
 ·exact h x h'
 ·rw[h'];exact hd
theorem Lim.wd{l:List Nat}(h:Lim l)(i:Nat):wd l i<4294967296:=by
 unfold Limb.wd;rw[List.getD_eq_getElem?_getD]
 cases hx:l[i]? with
 |none=>simp
 |some x=>simp only[Option.getD_some];exact h x (List.mem_of_getElem? hx)
theorem Lim.replicate(n:Nat){d:Nat}(h:d<4294967296):Lim (List.replicate n d):=by
 intro x hx;rw[(List.mem_replicate.1 hx).2];exact h
theorem val_append(a b:List Nat):val (a++b)=val a+W a.length*val b:=by
 induction a with
 |nil=>simp[val,W_zero]
 |cons d t ih=>
  simp only[List.cons_append,val,ih,List.length_cons,W_succ];rw[Nat.mul_add,Nat.mul_assoc];omega
theorem val_lt{l:List Nat}(h:Lim l):val l<W l.length:=by
 induction l with
 |nil=>simp[val,W_zero]
 |cons d t ih=>
  have h1:=ih h.tail;have h2:=h.head;simp only[val,List.length_cons,W_succ];omega
theorem val_replicate(n:Nat):val (List.replicate n 0)=0:=by
 induction n with
 |zero=>rfl
 |succ n ih=>simp[List.replicate_succ,val,ih]
theorem val_snoc(l:List Nat)(d:Nat):val (l++[d])=val l+W l.length*d:=by
 rw[val_append];simp[val]
theorem val_take_drop(l:List Nat)(k:Nat)(hk:k≤l.length):val l=val (l.take k)+W k*val (l.drop k):=by
 have h:=val_append (l.take k) (l.drop k);rw[List.take_append_drop,List.length_take,Nat.min_eq_left hk]at h;exact h
theorem val_take{l:List Nat}(h:Lim l)(k:Nat):val (l.take k)=val l%W k:=by
 by_cases hk:k≤l.length
 ·rw[val_take_drop l k hk,Nat.add_mul_mod_self_left,Nat.mod_eq_of_lt];have:=val_lt (h.take k);rwa [List.length_take,Nat.min_eq_left hk]at this
 ·rw[List.take_of_length_le (by omega),Nat.mod_eq_of_lt];exact Nat.lt_of_lt_of_le (val_lt h) (W_mono (by omega))
theorem val_drop{l:List Nat}(h:Lim l)(k:Nat):val (l.drop k)=val l/W k:=by
 by_cases hk:k≤l.length
 ·rw[val_take_drop l k hk,Nat.add_mul_div_left _ _ (W_pos k),Nat.div_eq_of_lt,Nat.zero_add];have:=val_lt (h.take k);rwa [List.length_take,Nat.min_eq_left hk]at this
 ·rw[List.drop_of_length_le (by omega),Nat.div_eq_of_lt];·rfl
  exact Nat.lt_of_lt_of_le (val_lt h) (W_mono (by omega))
theorem wd_val{l:List Nat}(h:Lim l)(i:Nat):wd l i=val l/W i%4294967296:=by
 unfold wd
 induction l generalizing i with
 |nil=>simp[val]
 |cons d t ih=>
  have hd:=h.head;cases i with
  |zero=>simp[val,W_zero];omega
  |succ i=>
   rw[List.getD_cons_succ,ih h.tail,val,W_succ,←Nat.div_div_eq_div_mul];congr 2;omega
def repF:Nat→Nat→List Nat
 |0,_=>[]
 |f+1,n=>if n=0 then[]else n%4294967296 :: repF f (n/4294967296)
def rep(n:Nat):List Nat:=repF n n
theorem repF_enough(f g n:Nat)(hf:n≤f)(hg:n≤g):repF f n=repF g n:=by
 induction f generalizing g n with
 |zero=>
  have:n=0:=(by omega);subst this;cases g<;>simp[repF]
 |succ f ih=>
  by_cases h0:n=0
  ·subst h0;cases g<;>simp[repF]
  ·cases g with
   |zero=>omega
   |succ g=>
    simp only[repF,if_neg h0];rw[ih g (n/4294967296) (by omega) (by omega)]
theorem rep_zero:rep 0=[]:=rfl
theorem rep_pos{n:Nat}(h:n≠0):rep n=n%4294967296 :: rep (n/4294967296):=by
 unfold rep;cases n with
 |zero=>exact absurd rfl h
 |succ n=>
  rw[show repF (n+1) (n+1)=(n+1)%4294967296 :: repF n ((n+1)/4294967296)from by simp[repF]];rw[repF_enough n _ _ (by omega) (Nat.le_refl _)]
theorem rep_ind{p:Nat→Prop}(h0:p 0)(h1: ∀n,n≠0→p (n/4294967296)→p n)(n:Nat):p n:=by
 induction n using Nat.strongRecOn with
 |ind n ih=>
  by_cases h:n=0
  ·rw[h];exact h0
  ·exact h1 n h (ih _ (by omega))
theorem val_rep(n:Nat):val (rep n)=n:=by
 induction n using rep_ind with
 |h0=>rfl
 |h1 n h ih=>rw[rep_pos h,val,ih];omega
theorem rep_lim(n:Nat):Lim (rep n):=by
 induction n using rep_ind with
 |h0=>exact Lim.nil
 |h1 n h ih=>rw[rep_pos h];exact Lim.cons (Nat.mod_lt _ (by decide)) ih
def Norm(l:List Nat):Prop:=l.getLast? ≠some 0
theorem rep_norm(n:Nat):Norm (rep n):=by
 induction n using rep_ind with
 |h0=>simp[Norm,rep_zero]
 |h1 n h ih=>
  rw[rep_pos h];unfold Norm at*
  rw[List.getLast?_cons]
  cases hl:(rep (n/4294967296)).getLast? with
  |none=>
   have:rep (n/4294967296)=[]:=(by simpa using hl);have hv:=val_rep (n/4294967296);rw[this]at hv;simp[val]at hv;simp;omega
  |some x=>rw[hl]at ih;simpa using ih
theorem rep_val{l:List Nat}(h:Lim l)(hn:Norm l):rep (val l)=l:=by
 induction l with
 |nil=>rfl
 |cons d t ih=>
  have hd:=h.head
  have hne:val (d :: t)≠0:=by
   intro e;simp only[val]at e;have hd0:d=0:=by omega
   have ht0:val t=0:=(by omega);cases t with
   |nil=>subst hd0;simp[Norm]at hn
   |cons d' t'=>
    have ih':=ih h.tail (by simpa[Norm,List.getLast?_cons]using hn);rw[ht0,rep_zero]at ih';simp at ih'
  rw[rep_pos hne];have e1:val (d :: t)%4294967296=d:=by simp only[val];omega
  have e2:val (d :: t)/4294967296=val t:=(by simp only[val];omega);rw[e1,e2];cases t with
  |nil=>rfl
  |cons d' t'=>rw[ih h.tail (by simpa[Norm,List.getLast?_cons]using hn)]
theorem rep_length_le{n k:Nat}:(rep n).length≤k↔n<W k:=by
 induction n using rep_ind generalizing k with
 |h0=>simp[rep_zero,W_pos]
 |h1 n h ih=>
  rw[rep_pos h,List.length_cons];cases k with
  |zero=>simp[W_zero];omega
  |succ k=>
   rw[Nat.add_le_add_iff_right,ih,W_succ];omega
theorem rep_length_lt{n k:Nat}:k<(rep n).length↔W k≤n:=by
 have:= @rep_length_le n k;omega
theorem rep_len_lo{n:Nat}(h:n≠0):W ((rep n).length-1)≤n:=by
 have:(rep n).length≠0:=by rw[rep_pos h];simp
 exact rep_length_lt.1 (by omega)
theorem rep_len_hi(n:Nat):n<W (rep n).length:=rep_length_le.1 (Nat.le_refl _)
theorem rep_mono{m n:Nat}(h:m≤n):(rep m).length≤(rep n).length:=
 rep_length_le.2 (Nat.lt_of_le_of_lt h (rep_len_hi n))
theorem rep_wd(n i:Nat):wd (rep n) i=n/W i%4294967296:=by
 rw[wd_val (rep_lim n),val_rep]
theorem rep_inj{m n:Nat}(h:rep m=rep n):m=n:=by
 have:=congrArg val h;rwa [val_rep,val_rep]at this
theorem rep_nil{n:Nat}:rep n=[]↔n=0:=by
 constructor
 ·intro h;exact rep_inj h
 ·intro h;rw[h];rfl
theorem rep_length_zero{n:Nat}:(rep n).length=0↔n=0:=by
 rw[List.length_eq_zero_iff,rep_nil]
theorem rep_prefix{l:List Nat}(h:Lim l):rep (val l)=l.take (rep (val l)).length:=by
 have hle:(rep (val l)).length≤l.length:=rep_length_le.2 (val_lt h)
 have hd:val (l.drop (rep (val l)).length)=0:=by
  rw[val_drop h];exact Nat.div_eq_of_lt (rep_len_hi _)
 have hv:val (l.take (rep (val l)).length)=val l:=by
  have:=val_take_drop l _ hle;rw[hd]at this;omega
 apply ext_wd
 ·rw[List.length_take,Nat.min_eq_left hle]
 ·intro i h1;rw[rep_wd,wd_take h1,wd_val h]
theorem val_snoc_wd{l:List Nat}{k:Nat}(h:k<l.length):val (l.take (k+1))=val (l.take k)+W k*wd l k:=by
 rw[take_wd h,val_snoc,List.length_take,Nat.min_eq_left (by omega)]
theorem take_set_self(l:List Nat)(k d:Nat):(l.set k d).take k=l.take k:=by
 rw[List.take_set,List.set_eq_of_length_le (by simp;omega)]
theorem take_set_gt(l:List Nat){j k:Nat}(d:Nat)(h:j≤k):(l.set k d).take j=l.take j:=by
 rw[List.take_set,List.set_eq_of_length_le (by simp;omega)]
theorem val_set_take{l:List Nat}{k:Nat}(d:Nat)(h:k<l.length):val ((l.set k d).take (k+1))=val (l.take k)+W k*d:=by
 rw[val_snoc_wd (by rw[List.length_set];exact h),take_set_self,wd_set h,if_pos rfl]
theorem val_set_end{l:List Nat}{k:Nat}(d:Nat)(h:l.length=k+1):val (l.set k d)=val (l.take k)+W k*d:=by
 rw[←val_set_take d (by omega),List.take_of_length_le (by rw[List.length_set];omega)]
theorem val_take_succ(l:List Nat)(k:Nat):val (l.take (k+1))=val (l.take k)+W k*wd l k:=by
 by_cases hl:k<l.length
 ·exact val_snoc_wd hl
 ·rw[List.take_of_length_le (by omega),List.take_of_length_le (by omega),wd_ge (by omega)];simp
theorem rep_val_le{l:List Nat}(h:Lim l):(rep (val l)).length≤l.length:=rep_length_le.2 (val_lt h)
end Go.Proofs.YtbffpkmfhkphdaaGreatDoor.Limb
namespace Go.Proofs
open Go.Shelf
def Tryz.lays158_ren:Go.Shelf.Ren:=⟨fun |158=>92|165=>168|166=>169|167=>170|169=>171|230=>172|203=>173|240=>247|241=>248|197=>249|118=>250|168=>251|270=>252|262=>253|276=>285|277=>286|260=>287|242=>288|313=>289|278=>305|274=>306|275=>307|n=>n,fun |9=>9|4=>4|3=>3|5=>5|72=>209|0=>0|76=>213|75=>212|107=>218|70=>207|20=>20|37=>72|127=>284|21=>21|105=>285|164=>311|162=>317|203=>315|119=>332|46=>97|139=>335|138=>334|51=>60|160=>336|208=>349|206=>347|80=>216|n=>n,fun |13=>0|3=>3|4=>4|n=>n⟩
theorem Tryz.lays158:Go.Proofs.Lays.n158 Tryz.prog Tryz.lays158_ren:={
 mixed:=by kernel_rfl
 f118:=Tryz.func250.trans (congrArg some (by kernel_rfl))
 f158:=Tryz.func92.trans (congrArg some (by kernel_rfl))
 f165:=Tryz.func168.trans (congrArg some (by kernel_rfl))
 f166:=Tryz.func169.trans (congrArg some (by kernel_rfl))
 f167:=Tryz.func170.trans (congrArg some (by kernel_rfl))
 f168:=Tryz.func251.trans (congrArg some (by kernel_rfl))
 f169:=Tryz.func171.trans (congrArg some (by kernel_rfl))
 f197:=Tryz.func249.trans (congrArg some (by kernel_rfl))
 f203:=Tryz.func173.trans (congrArg some (by kernel_rfl))
 f230:=Tryz.func172.trans (congrArg some (by kernel_rfl))
 f240:=Tryz.func247.trans (congrArg some (by kernel_rfl))
 f241:=Tryz.func248.trans (congrArg some (by kernel_rfl))
 f242:=Tryz.func288.trans (congrArg some (by kernel_rfl))
 f260:=Tryz.func287.trans (congrArg some (by kernel_rfl))
 f262:=Tryz.func253.trans (congrArg some (by kernel_rfl))
 f270:=Tryz.func252.trans (congrArg some (by kernel_rfl))
 f274:=Tryz.func306.trans (congrArg some (by kernel_rfl))
 f275:=Tryz.func307.trans (congrArg some (by kernel_rfl))
 f276:=Tryz.func285.trans (congrArg some (by kernel_rfl))
 f277:=Tryz.func286.trans (congrArg some (by kernel_rfl))
 f278:=Tryz.func305.trans (congrArg some (by kernel_rfl))
 f313:=Tryz.func289.trans (congrArg some (by kernel_rfl))
 t0:=Tryz.underlying0
 a0:=Tryz.isAgg0
 z0:=Tryz.sizeOf0
 v0:=Tryz.zeroValue0
 t3:=Tryz.underlying3
 a3:=Tryz.isAgg3
 z3:=Tryz.sizeOf3
 v3:=Tryz.zeroValue3
 t4:=Tryz.underlying4
 a4:=Tryz.isAgg4
 z4:=Tryz.sizeOf4
 v4:=Tryz.zeroValue4
 t5:=Tryz.underlying5
 a5:=Tryz.isAgg5
 z5:=Tryz.sizeOf5
 v5:=Tryz.zeroValue5
 t9:=Tryz.underlying9
 a9:=Tryz.isAgg9
 z9:=Tryz.sizeOf9
 v9:=Tryz.zeroValue9
 t20:=Tryz.underlying20
 a20:=Tryz.isAgg20
 z20:=Tryz.sizeOf20
 v20:=Tryz.zeroValue20
 t21:=Tryz.underlying21
 a21:=Tryz.isAgg21
 z21:=Tryz.sizeOf21
 v21:=Tryz.zeroValue21
 t37:=Tryz.underlying72
 a37:=Tryz.isAgg72
 z37:=Tryz.sizeOf72
 v37:=Tryz.zeroValue72
 t46:=Tryz.underlying97
 a46:=Tryz.isAgg97
 z46:=Tryz.sizeOf97
 v46:=Tryz.zeroValue97
 t51:=Tryz.underlying60
 a51:=Tryz.isAgg60
 z51:=Tryz.sizeOf60
 v51:=Tryz.zeroValue60
 t70:=Tryz.underlying207
 a70:=Tryz.isAgg207
 z70:=Tryz.sizeOf207
 v70:=Tryz.zeroValue207
 t72:=Tryz.underlying209
 a72:=Tryz.isAgg209
 z72:=Tryz.sizeOf209
 v72:=Tryz.zeroValue209
 t75:=Tryz.underlying212
 a75:=Tryz.isAgg212
 z75:=Tryz.sizeOf212
 v75:=Tryz.zeroValue212
 t76:=Tryz.underlying213
 a76:=Tryz.isAgg213
 z76:=Tryz.sizeOf213
 v76:=Tryz.zeroValue213
 t105:=Tryz.underlying285
 a105:=Tryz.isAgg285
 z105:=Tryz.sizeOf285
 v105:=Tryz.zeroValue285
 t107:=Tryz.underlying218
 a107:=Tryz.isAgg218
 z107:=Tryz.sizeOf218
 v107:=Tryz.zeroValue218
 t119:=Tryz.underlying332
 a119:=Tryz.isAgg332
 z119:=Tryz.sizeOf332
 t127:=Tryz.underlying284
 a127:=Tryz.isAgg284
 z127:=Tryz.sizeOf284
 v127:=Tryz.zeroValue284
 t138:=Tryz.underlying334
 a138:=Tryz.isAgg334
 z138:=Tryz.sizeOf334
 v138:=Tryz.zeroValue334
 t139:=Tryz.underlying335
 a139:=Tryz.isAgg335
 z139:=Tryz.sizeOf335
 v139:=Tryz.zeroValue335
 t160:=Tryz.underlying336
 a160:=Tryz.isAgg336
 z160:=Tryz.sizeOf336
 v160:=Tryz.zeroValue336
 t162:=Tryz.underlying317
 a162:=Tryz.isAgg317
 z162:=Tryz.sizeOf317
 v162:=Tryz.zeroValue317
 t164:=Tryz.underlying311
 a164:=Tryz.isAgg311
 z164:=Tryz.sizeOf311
 v164:=Tryz.zeroValue311
 t203:=Tryz.underlying315
 a203:=Tryz.isAgg315
 z203:=Tryz.sizeOf315
 v203:=Tryz.zeroValue315
 t206:=Tryz.underlying347
 a206:=Tryz.isAgg347
 z206:=Tryz.sizeOf347
 v206:=Tryz.zeroValue347
 t208:=Tryz.underlying349
 a208:=Tryz.isAgg349
 z208:=Tryz.sizeOf349
 v208:=Tryz.zeroValue349
 g3:=by kernel_rfl
 g4:=by kernel_rfl
 g13:=by kernel_rfl}
theorem Tryz.Builder_Extra_158:Builder.Extra Tryz.prog Tryz.lays158_ren:={
 sizeBuilder:=by kernel_rfl
 liesBuilder:=by kernel_rfl
 t5:=Tryz.underlying5
 a5:=Tryz.isAgg5
 z5:=Tryz.sizeOf5
 v5:=Tryz.zeroValue5
 infoByte:=by kernel_rfl
 cellsByte:=by kernel_rfl
 sizeByte:=by kernel_rfl
 neB5:=by decide}
open Go.RowKit in theorem Tryz.strings_ToUpper_ascii (s : ByteArray) (w : World) (hs : s.size ≤ 140737488355328) (hascii : ∀ (j : Nat) (b : UInt8), s.data.toList[j]? = some b → b.toNat < 128) :
  Calls Tryz.prog 92 #[.string s] w fun e w'=>e= .returned (.string ⟨(Lib.toUpperA s.data.toList).toArray⟩)∧Below w.heap.size w w':=Any.strings_ToUpper_ascii Tryz.lays158 Tryz.Builder_Extra_158 s w hs hascii
def Tryz.lays128_ren:Go.Shelf.Ren:=⟨fun |128=>240|n=>n,fun |51=>60|3=>3|4=>4|46=>97|5=>5|9=>9|n=>n,fun |n=>n⟩
theorem Tryz.lays128:Go.Proofs.Lays.n128 Tryz.prog Tryz.lays128_ren:={
 mixed:=by kernel_rfl
 f128:=Tryz.func240.trans (congrArg some (by kernel_rfl))
 t3:=Tryz.underlying3
 a3:=Tryz.isAgg3
 z3:=Tryz.sizeOf3
 v3:=Tryz.zeroValue3
 t4:=Tryz.underlying4
 a4:=Tryz.isAgg4
 z4:=Tryz.sizeOf4
 v4:=Tryz.zeroValue4
 t5:=Tryz.underlying5
 a5:=Tryz.isAgg5
 z5:=Tryz.sizeOf5
 v5:=Tryz.zeroValue5
 t9:=Tryz.underlying9
 a9:=Tryz.isAgg9
 z9:=Tryz.sizeOf9
 v9:=Tryz.zeroValue9
 t46:=Tryz.underlying97
 a46:=Tryz.isAgg97
 z46:=Tryz.sizeOf97
 v46:=Tryz.zeroValue97
 t51:=Tryz.underlying60
 a51:=Tryz.isAgg60
 z51:=Tryz.sizeOf60
 v51:=Tryz.zeroValue60}
theorem Tryz.bits_Len32(x:Int)(w:World)(h0:0≤x)(h1:x≤4294967295):
  Calls Tryz.prog 240 #[.int .u32 x] w fun e w'=>e= .returned (.int .i64 (Lib.bitLen x.toNat))∧w'=w:=Any.bits_Len32 Tryz.lays128 x w h0 h1
def Tryz.lays133_ren:Go.Shelf.Ren:=⟨fun |133=>242|128=>240|n=>n,fun |51=>60|3=>3|4=>4|46=>97|5=>5|9=>9|n=>n,fun |n=>n⟩
theorem Tryz.lays133:Go.Proofs.Lays.n133 Tryz.prog Tryz.lays133_ren:={
 mixed:=by kernel_rfl
 f128:=Tryz.func240.trans (congrArg some (by kernel_rfl))
 f133:=Tryz.func242.trans (congrArg some (by kernel_rfl))
 t3:=Tryz.underlying3
 a3:=Tryz.isAgg3
 z3:=Tryz.sizeOf3
 v3:=Tryz.zeroValue3
 t4:=Tryz.underlying4
 a4:=Tryz.isAgg4
 z4:=Tryz.sizeOf4
 v4:=Tryz.zeroValue4
 t5:=Tryz.underlying5
 a5:=Tryz.isAgg5
 z5:=Tryz.sizeOf5
 v5:=Tryz.zeroValue5
 t9:=Tryz.underlying9
 a9:=Tryz.isAgg9
 z9:=Tryz.sizeOf9
 v9:=Tryz.zeroValue9
 t46:=Tryz.underlying97
 a46:=Tryz.isAgg97
 z46:=Tryz.sizeOf97
 v46:=Tryz.zeroValue97
 t51:=Tryz.underlying60
 a51:=Tryz.isAgg60
 z51:=Tryz.sizeOf60
 v51:=Tryz.zeroValue60}
theorem Tryz.bits_LeadingZeros32(x:Int)(w:World)(h0:0≤x)(h1:x≤4294967295):
  Calls Tryz.prog 242 #[.int .u32 x] w fun e w'=>e= .returned (.int .i64 (32-(Lib.bitLen x.toNat:Int)))∧w'=w:=Any.bits_LeadingZeros32 Tryz.lays133 x w h0 h1
end Go.Proofs
namespace Go.Proofs.YtbffpkmfhkphdaaGreatDoor
open Go
variable {P:Program} {md:Region.Mode} {ops:Array Oper} {Q:Exit→Act→World→Prop} {S:World→Prop}
def wpAnyS(P:Program)(md:Region.Mode)(ops:Array Oper)(Q:Exit→Act→World→Prop)(S:World→Prop)(n:Nat):Nat→Array Bool→Act→World→Prop
 |0,listed,a,w=>wpAny P md ops Q 0 listed a w
 |fuel+1,listed,a,w=>
  ((∀i,i<n→listed.getD i true=true)→wpAny P md ops Q (fuel+1) listed a w)∧
  ((∃i,i<n∧listed.getD i true=false)→Region.ready md ops listed≠[]∧∀i∈Region.ready md ops listed,wpOp P ops Q i (fun a' w'=>S w'∧wpAnyS P md ops Q S n fuel (listed.setIfInBounds i true) a' w') a w)
theorem wpAny_of_S{n:Nat}: ∀(fuel:Nat) (listed:Array Bool) (a:Act) (w:World),wpAnyS P md ops Q S n fuel listed a w→wpAny P md ops Q fuel listed a w
 |0,_,_,_,h=>h
 |fuel+1,listed,a,w,h=>by
  by_cases hx: ∃i,i<n∧listed.getD i true=false
  ·obtain⟨h1,h2⟩:=h.2 hx;exact⟨fun h0=>absurd h0 h1,fun i hi=>wpOp_mono (fun a' w' h'=>wpAny_of_S fuel _ a' w' h'.2) (h2 i hi)⟩
  ·refine h.1 (fun i hi=>?_)
   cases hl:listed.getD i true with
   |true=>rfl
   |false=>exact absurd ⟨i,hi,hl⟩ hx
theorem wpAnyS_first{n i:Nat}{oi:Oper}{v:Value}(hi:ops[i]? =some oi)(hsel: ∀(j:Nat) (o:Oper) cs b,ops[j]? =some o→o.op≠ .select cs b)(hs:Region.sinkB md ops n=true)(hc:Region.chainB md ops n=true)(hn:n<ops.size)(hin:i<n)(hQ: ∀c a w,Q (.panic c) (a.put oi.dst v) w→Q (.panic c) a w): ∀(fuel:Nat) (listed:Array Bool) (a:Act) (w:World),HeadInv md ops n listed→(∀j oj,ops[j]? =some oj→j≠i→listed.getD j true=false→(∀e∈oj.after,Region.binds md e=true→e.on≠i)→oi.apart ops oj=true)→i∈Region.ready md ops listed→YieldsIf P ops S oi v a→S w→wpAnyS P md ops Q S n fuel (listed.setIfInBounds i true) (a.put oi.dst v) w→wpAnyS P md ops Q S n (fuel+1) listed a w:=by
 intro fuel
 induction fuel with
 |zero=>
  intro listed a w inv _ hr hy hS H;have hun:=(mem_ready.1 hr).1;refine⟨fun hall=>(by rw[hall i hin]at hun;cases hun),fun _=>⟨fun h=>(by rw[h]at hr;cases hr),fun j hj=>?_⟩⟩;by_cases hji:j=i
  ·subst hji;exact hy.wpOp hi hS ⟨hS,H⟩
  ·have:=ready_mono hj hji;rw[H.1]at this;cases this
 |succ fuel ih=>
  intro listed a w inv hfree hr hy hS H;have hun:=(mem_ready.1 hr).1;refine⟨fun hall=>(by rw[hall i hin]at hun;cases hun),fun _=>⟨fun h=>(by rw[h]at hr;cases hr),fun j hj=>?_⟩⟩;by_cases hji:j=i
  ·subst hji;exact hy.wpOp hi hS ⟨hS,H⟩
  ·have hjn:j<n:=by
    rcases Nat.lt_or_ge j n with h|h
    ·exact h
    ·exact absurd hj (tail_waits hs hc hn inv _ i rfl hin hun j h)
   obtain⟨hjun,oj,hoj,hall⟩:=mem_ready.1 hj;have hex: ∃k,k<n∧(listed.setIfInBounds i true).getD k true=false:=⟨j,hjn,by rw[getD_set_ne true (Ne.symm hji)];exact hjun⟩;have h1:=(H.2 hex).2 j (ready_mono hj hji)
   have hnot: ∀e∈oj.after,Region.binds md e=true→e.on≠i:=fun e he hb heq=>by
    have h1:=hall e he hb;rw[heq,getD_both hun]at h1;cases h1
   have h2:=wpOp_putIf hoj (hfree j oj hoj hji hjun hnot) (fun cs b=>hsel i oi cs b hi) (fun cs b=>hsel j oj cs b hoj) hQ hy h1
   have hfree': ∀k ok,ops[k]? =some ok→k≠i→(listed.setIfInBounds j true).getD k true=false→
     (∀e∈ok.after,Region.binds md e=true→e.on≠i)→oi.apart ops ok=true:=fun k ok hk hki hun hno=>by
    refine hfree k ok hk hki ?_ hno;by_cases hjk:j=k
    ·subst hjk;exact hjun
    ·rw[getD_set_ne true hjk]at hun;exact hun
   refine wpOp_mono (fun a' w' h3=>⟨h3.2.1,ih (listed.setIfInBounds j true) a' w' (inv.set hj hjn) hfree' (ready_mono hr (Ne.symm hji)) h3.1 h3.2.1 ?_⟩) h2;rw[Array.setIfInBounds_comm _ _ hji];exact h3.2.2
theorem wpAnyS_take{n i:Nat}{oi:Oper}{v:Value}{fuel:Nat}{listed:Array Bool}{a:Act}{w:World}(inv:HeadInv md ops n listed)(hi:ops[i]? =some oi)(hsel:Region.noSelect ops=true)(hs:Region.sinkB md ops n=true)(hc:Region.chainB md ops n=true)(hn:n<ops.size)(hin:i<n)(hf:Region.free md ops listed i=true)(hr:(Region.ready md ops listed).contains i=true)(hQ: ∀c a w,Q (.panic c) (a.put oi.dst v) w→Q (.panic c) a w)(hy:YieldsIf P ops S oi v a)(hS:S w)(h:HeadInv md ops n (listed.setIfInBounds i true)→wpAnyS P md ops Q S n fuel (listed.setIfInBounds i true) (a.put oi.dst v) w):wpAnyS P md ops Q S n (fuel+1) listed a w:=by
 have hr':i∈Region.ready md ops listed:=by simpa using hr
 exact wpAnyS_first hi (Region.noSelect_spec hsel) hs hc hn hin hQ fuel listed a w inv (Region.free_spec hi hf) hr' hy hS (h (inv.set hr' hin))
theorem wpAnyS_take_at{n i:Nat}{oi:Oper}{v:Value}{fuel:Nat}{listed:Array Bool}{a:Act}{w:World}(d:Tmp)(inv:HeadInv md ops n listed)(hi:ops[i]? =some oi)(hd:oi.dst=some d)(hsel:Region.noSelect ops=true)(hs:Region.sinkB md ops n=true)(hc:Region.chainB md ops n=true)(hn:n<ops.size)(hin:i<n)(hf:Region.free md ops listed i=true)(hr:(Region.ready md ops listed).contains i=true)(hQ: ∀c a w,Q (.panic c) (a.put oi.dst v) w→Q (.panic c) a w)(hy:YieldsIf P ops S oi v a)(hS:S w)(h:HeadInv md ops n (listed.setIfInBounds i true)→wpAnyS P md ops Q S n fuel (listed.setIfInBounds i true) (a.put (some d) v) w):wpAnyS P md ops Q S n (fuel+1) listed a w:=
 wpAnyS_take inv hi hsel hs hc hn hin hf hr hQ hy hS (by rw[hd];exact h)
theorem wpAnyS_one{n i:Nat}{fuel:Nat}{listed:Array Bool}{a:Act}{w:World}(inv:HeadInv md ops n listed)(hin:i<n)(hr:Region.ready md ops listed=[i])(h:HeadInv md ops n (listed.setIfInBounds i true)→wpOp P ops Q i (fun a' w'=>S w'∧wpAnyS P md ops Q S n fuel (listed.setIfInBounds i true) a' w') a w):wpAnyS P md ops Q S n (fuel+1) listed a w:=by
 have hm:i∈Region.ready md ops listed:=by rw[hr];simp
 have hun:=(mem_ready.1 hm).1;refine⟨fun hall=>(by rw[hall i hin]at hun;cases hun),fun _=>⟨by rw[hr];simp,fun j hj=>?_⟩⟩;rw[hr,List.mem_singleton]at hj;subst hj;exact h (inv.set hm hin)
theorem wpAnyS_tail{n fuel:Nat}{listed:Array Bool}{a:Act}{w:World}(hall: ∀i,i<n→listed.getD i true=true)(h:wpAny P md ops Q fuel listed a w):wpAnyS P md ops Q S n fuel listed a w:=by
 cases fuel with
 |zero=>exact h
 |succ fuel=>
  refine⟨fun _=>h,fun⟨i,hi,hl⟩=>?_⟩;rw[hall i hi]at hl;cases hl
theorem wp_region_S{n id:Nat}{a:Act}{w:World}(hm:P.follows .mixedOrders=true)(hn:n<ops.size)(h:HeadInv .any ops n (Array.replicate ops.size false)→wpAnyS P .any ops Q S n ops.size (Array.replicate ops.size false) a {w with drawn:=w.drawn+1}):(Code.region id ops true).wp P Q a w:=by
 refine wp_region_any hm (wpAny_of_S _ _ _ _ (h ⟨by simp,fun j oj hj hl=>?_,fun t ht ht'=>?_⟩))
 ·rw[getD_replicate_false]at hl;cases hl
 ·simp[ht']
theorem wpAny_one{i:Nat}{fuel:Nat}{listed:Array Bool}{a:Act}{w:World}(hr:Region.ready md ops listed=[i])(h:wpOp P ops Q i (fun a' w'=>wpAny P md ops Q fuel (listed.setIfInBounds i true) a' w') a w):wpAny P md ops Q (fuel+1) listed a w:=
 ⟨fun h0=>(by rw[hr]at h0;cases h0),fun j hj=>by rw[hr,List.mem_singleton]at hj;subst hj;exact h⟩
end Go.Proofs.YtbffpkmfhkphdaaGreatDoor

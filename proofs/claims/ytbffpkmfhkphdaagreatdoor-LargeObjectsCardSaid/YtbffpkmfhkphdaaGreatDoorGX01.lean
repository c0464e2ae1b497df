/- Plain arithmetic of one step of a long division (Knuth's D3 to D6), by numbers. Plain arithmetic of shifts. What a slice of words is in memory, and laws on it; no function of the program is named here. The digits of a number to a base, and a list turned around by exchanges. A heap of words, plain: objects, their headers, roots; no function of the program is named here. -/
import Derived.Test.YtbffpkmfhkphdaaGreatDoorGX00
import Derived.Handy
import Derived.Lib.Hide
import Derived.Laws.AppendOwnNone
import Derived.BigQuiet
import Derived.Deep.QuietTactic
import Derived.WalkSpells
import Derived.WalkLawsBesides
set_option linter.unusedVariables false
set_option linter.unusedSimpArgs false
namespace Go.Proofs.YtbffpkmfhkphdaaGreatDoor.Limb
theorem guess_ge{U V T v1 R:Nat}(hR:0<R)(hU:U<(T+1)*R)(hV:v1*R≤V)(hv:0<v1):U/V≤T/v1:=by
 have hVp:0<V:=Nat.lt_of_lt_of_le (Nat.mul_pos hv hR) hV;rw[Nat.le_div_iff_mul_le hv];have h1:U/V*V≤U:=Nat.div_mul_le_self _ _
 have h2:U/V*v1*R≤U:=by
  rw[Nat.mul_assoc];exact Nat.le_trans (Nat.mul_le_mul_left _ hV) h1
 have h3:U/V*v1*R<(T+1)*R:=Nat.lt_of_le_of_lt h2 hU;have:=Nat.lt_of_mul_lt_mul_right h3;omega
theorem guess_high{U V q g v1 v2 r T u2 R:Nat}(hU:U<(T*4294967296+u2+1)*R)(hV:(v1*4294967296+v2)*R≤V)(hT:g*v1+r=T)(ht:r*4294967296+u2<g*v2)(hq:q=U/V):q<g:=by
 rcases Nat.lt_or_ge q g with h|h
 ·exact h
 ·exfalso;have h1:g*V≤U:=Nat.le_trans (Nat.mul_le_mul_right V h) (by rw[hq];exact Nat.div_mul_le_self _ _);have h2:g*(v1*4294967296+v2)*R≤U:=by rw[Nat.mul_assoc];exact Nat.le_trans (Nat.mul_le_mul_left _ hV) h1
  have h3:=Nat.lt_of_mul_lt_mul_right (Nat.lt_of_le_of_lt h2 hU);rw[Nat.mul_add,←Nat.mul_assoc]at h3;have:g*v1*4294967296+r*4294967296=T*4294967296:=by rw[←Nat.add_mul,hT]
  omega
theorem guess_near{U V g v1 v2 r T u2 R:Nat}(hU:(T*4294967296+u2)*R≤U)(hVl:(v1*4294967296+v2)*R≤V)(hV:V<(v1*4294967296+v2+1)*R)(hT:g*v1+r=T)(ht:g*v2≤r*4294967296+u2)(hg:g<4294967296)(hv:2147483648≤v1)(hR:0<R):g≤U/V+1:=by
 have hVp:0<V:=Nat.lt_of_lt_of_le (Nat.mul_pos (by omega) hR) hVl
 have h1:g*(v1*4294967296+v2)≤T*4294967296+u2:=by
  rw[Nat.mul_add,←Nat.mul_assoc];have:g*v1*4294967296+r*4294967296=T*4294967296:=by rw[←Nat.add_mul,hT]
  omega
 have h2:g*((v1*4294967296+v2)*R)≤U:=by
  rw[←Nat.mul_assoc];exact Nat.le_trans (Nat.mul_le_mul_right R h1) hU
 have h3:g*V≤U+g*R:=by
  have:g*V≤g*((v1*4294967296+v2+1)*R):=Nat.mul_le_mul_left g (Nat.le_of_lt hV)
  have e:g*((v1*4294967296+v2+1)*R)=g*((v1*4294967296+v2)*R)+g*R:=by
   rw[Nat.add_mul _ 1 R,Nat.mul_add,Nat.one_mul]
  omega
 have h4:g*R≤V:=by
  refine Nat.le_trans (Nat.mul_le_mul_right R ?_) hVl;have:2147483648*4294967296≤v1*4294967296:=Nat.mul_le_mul_right _ hv;omega
 cases g with
 |zero=>exact Nat.zero_le _
 |succ g=>
  rw[Nat.add_le_add_iff_right,Nat.le_div_iff_mul_le hVp];have:(g+1)*V=g*V+V:=by rw[Nat.add_mul,Nat.one_mul]
  omega
theorem guess_small{g v1 r T u0 u1:Nat}(hT:g*v1+r=T)(hTd:T=u0*4294967296+u1)(hu:u0≤v1)(h1:u1<4294967296)(hr:4294967296≤r):g<4294967296:=by
 rcases Nat.lt_or_ge g 4294967296 with h|h
 ·exact h
 ·exfalso;have h2:4294967296*v1≤g*v1:=Nat.mul_le_mul_right _ h;have h3:u0*4294967296≤v1*4294967296:=Nat.mul_le_mul_right _ hu;omega
end Go.Proofs.YtbffpkmfhkphdaaGreatDoor.Limb
namespace Go.Proofs.YtbffpkmfhkphdaaGreatDoor.Limb
theorem W_div_mod(V k:Nat):V%W (k+1)=V%W k+W k*(V/W k%4294967296):=by
 rw[W_succ,Nat.mul_comm,Nat.mod_mul]
theorem pow_split(s:Nat):2^s=2^(s%32)*W (s/32):=by
 rw[W_two,←Nat.pow_add,show s%32+32*(s/32)=s from by omega]
theorem shr_low(Y r:Nat)(hr:r≤32):Y/2^r%4294967296=Y%18446744073709551616/2^r%4294967296:=by
 have e:18446744073709551616=2^r*(2^(32-r)*4294967296):=by
  rw[←Nat.mul_assoc,←Nat.pow_add,show r+(32-r)=32 from by omega]
 rw[e,Nat.mod_mul_right_div_self,Nat.mod_mul_left_mod]
theorem two_words{l:List Nat}(h:Lim l)(j:Nat):wd l j+wd l (j+1)*4294967296=val l/W j%18446744073709551616:=by
 rw[wd_val h,wd_val h,W_succ,Nat.mul_comm 4294967296 (W j),←Nat.div_div_eq_div_mul];generalize val l/W j=Y;omega
theorem shr_word{l:List Nat}(h:Lim l)(d r i:Nat)(hr:r≤32):(wd l (d+i)+wd l (d+i+1)*4294967296)/2^r%4294967296=val l/(2^r*W d)/W i%4294967296:=by
 rw[two_words h,←shr_low _ _ hr,Nat.div_div_eq_div_mul,Nat.div_div_eq_div_mul,W_add,Nat.mul_comm (W d*W i),Nat.mul_assoc]
end Go.Proofs.YtbffpkmfhkphdaaGreatDoor.Limb
namespace Go.Proofs.YtbffpkmfhkphdaaGreatDoor
open Go Go.RowKit
def Lay(K:IntKind)(w:World)(a:Option Addr)(l:List Nat):Prop:=
 ∃b off,(0<l.length→a=some ⟨b,off,none⟩∧b<w.heap.size)∧∀i,i<l.length→w.cell? ⟨b,off+i,none⟩=some (.int K (Limb.wd l i:Nat))
theorem Lay.nil(K:IntKind)(w:World)(a:Option Addr):Lay K w a []:=⟨0,0,fun h=>absurd h (by simp),fun i h=>absurd h (by simp)⟩
theorem Lay.below{K:IntKind}{w w':World}{a:Option Addr}{l:List Nat}(h:Lay K w a l)(hb:Below w.heap.size w w'):Lay K w' a l:=by
 obtain⟨b,off,h1,h2⟩:=h;refine⟨b,off,fun hl=>⟨(h1 hl).1,by have:=hb.size;have:=(h1 hl).2;omega⟩,fun i hi=>?_⟩;rw[hb.cell (by exact(h1 (by omega)).2)];exact h2 i hi
theorem Lay.take{K:IntKind}{w:World}{a:Option Addr}{l:List Nat}(h:Lay K w a l)(k:Nat):Lay K w a (l.take k):=by
 obtain⟨b,off,h1,h2⟩:=h;refine⟨b,off,fun hl=>h1 (by rw[List.length_take]at hl;omega),fun i hi=>?_⟩;rw[List.length_take]at hi;rw[h2 i (by omega)];rw[Limb.wd_take (by omega)]
section
variable {P:Program} {K:IntKind} {w:World} {a:Option Addr} {l:List Nat}
theorem Lay.use(h:Lay K w a l)(t e:TypeId)(ht:P.underlying t=some (.slice e))(hs: ∀W,(sizeOf e).run P W= .ok 1 W)(cap:Nat): ∃b off,(∀(W:World) (k:IntKind) (i:Int),0≤i→i<(l.length:Int)→(Instr.indexAt t (.slice a l.length cap) (.int k i)).run P W= .ok (.pointer (some ⟨b,off+i.toNat,none⟩)) W)∧(∀w',Below w.heap.size w w'→∀i,i<l.length→w'.cell? ⟨b,off+i,none⟩=some (.int K (Limb.wd l i:Nat)))∧(0<l.length→b<w.heap.size):=by
 obtain⟨b,off,h1,h2⟩:=h;refine⟨b,off,fun W k i hi0 hi1=>?_,fun w' hb i hi=>by rw[hb.cell (by exact(h1 (by omega)).2)];exact h2 i hi,fun h=>(h1 h).2⟩;rw[(h1 (by omega)).1];simp[Instr.indexAt,run_underlying ht,asIntOf,hi0,hi1,hs,Result.andThen,Addr.add]
end
theorem cast_mul_word(b:Nat):((b*4294967296:Nat):Int)=(b:Int)*4294967296:=by rw[Int.natCast_mul];rfl
theorem or_lo_hi(a b:Nat)(ha:a<4294967296)(hb:b<4294967296):bits .or .u64 (a:Int) ((b:Int)*4294967296)=(a:Int)+(b:Int)*4294967296:=by
 rw[←cast_mul_word,u64_or_nat _ _ (by omega) (by omega),Nat.or_comm,nat_join 32 _ _ (by omega) (by omega),Int.natCast_add,Int.add_comm]
theorem or_hi_lo(a b:Nat)(ha:a<4294967296)(hb:b<4294967296):bits .or .u64 ((b:Int)*4294967296) (a:Int)=(b:Int)*4294967296+(a:Int):=by
 rw[←cast_mul_word,u64_or_nat _ _ (by omega) (by omega),nat_join 32 _ _ (by omega) (by omega),Int.natCast_add]
def Row(w:World)(g:Nat)(e:TypeId)(cs:List Value):Prop:=w.heap[g]? =some (.cells cs.toArray e (0,0))
def nums(k:IntKind)(zs:List Nat):List Value:=zs.map fun n=>Value.int k (n:Nat)
theorem nums_length(k:IntKind)(zs:List Nat):(nums k zs).length=zs.length:=by simp[nums]
theorem nums_replicate(k:IntKind)(n:Nat):nums k (List.replicate n 0)=List.replicate n (Value.int k 0):=by simp[nums]
theorem nums_get{k:IntKind}{zs:List Nat}{i:Nat}(h:i<zs.length):(nums k zs)[i]? =some (.int k (Limb.wd zs i:Nat)):=by
 rw[Limb.wd_lt h];simp[nums,h]
theorem nums_set(k:IntKind)(zs:List Nat)(i d:Nat):nums k (zs.set i d)=(nums k zs).set i (.int k d):=by
 simp[nums,List.map_set]
theorem nums_take(k:IntKind)(zs:List Nat)(n:Nat):(nums k zs).take n=nums k (zs.take n):=by simp[nums,List.map_take]
theorem nums_append(k:IntKind)(a b:List Nat):nums k (a++b)=nums k a++nums k b:=by simp[nums]
section
variable {w:World} {g:Nat} {e:TypeId} {cs:List Value}
theorem Row.cell_at(h:Row w g e cs)(i:Nat):w.cell? ⟨g,i,none⟩=cs[i]? :=by
 unfold Row at h;simp[World.cell?,h]
theorem Row.free(h:Row w g e cs)(i:Nat):w.frozen? ⟨g,i,none⟩=false:=by
 unfold Row at h;simp[World.frozen?,h]
theorem Row.lt(h:Row w g e cs):g<w.heap.size:=by
 unfold Row at h;exact(Array.getElem?_eq_some_iff.1 h).1
theorem Row.cell{k:IntKind}{zs:List Nat}(h:Row w g e (nums k zs)){i:Nat}(hi:i<zs.length):w.cell? ⟨g,i,none⟩=some (.int k (Limb.wd zs i:Nat)):=by
 rw[h.cell_at,nums_get hi]
theorem Row.below{w':World}{B:Nat}(h:Row w g e cs)(hb:Below B w w')(hg:g<B):Row w' g e cs:=by
 unfold Row at*;rw[hb.block g hg];exact h
theorem Row.store_any(h:Row w g e cs)(i:Nat)(v:Value):Row (w.setCell ⟨g,i,none⟩ v) g e (cs.set i v):=by
 unfold Row at*
 simp only[World.setCell,Array.getElem?_modify,if_true,h,Option.map_some];simp
theorem Row.store{k:IntKind}{zs:List Nat}(h:Row w g e (nums k zs))(i:Nat)(v:Int)(d:Nat)(hv:v=d):Row (w.setCell ⟨g,i,none⟩ (.int k v)) g e (nums k (zs.set i d)):=by
 rw[nums_set,hv];exact h.store_any i _
theorem Row.other(h:Row w g e cs){a:Addr}(ha:g≠a.block)(v:Value):Row (w.setCell a v) g e cs:=by
 unfold Row at*;rw[Below.heap_setCell _ _ _ _ ha];exact h
theorem Row.alloc(h:Row w g e cs)(o:Obj):Row (w.alloc o) g e cs:=by
 have:=h.lt;unfold Row at*;rw[Below.heap_alloc _ _ _ this];exact h
theorem Row.drew(h:Row w g e cs):Row w.drew g e cs:=h
theorem Row.lay{K:IntKind}{zs:List Nat}(h:Row w g e (nums K zs)):Lay K w (some ⟨g,0,none⟩) zs:=
 ⟨g,0,fun _=>⟨rfl,h.lt⟩,fun i hi=>by rw[Nat.zero_add];exact h.cell hi⟩
end
theorem Lay.norm{K:IntKind}{w:World}{a:Option Addr}{l:List Nat}(h:Lay K w a l)(hl:Limb.Lim l):Lay K w a (Limb.rep (Limb.val l)):=by
 rw[Limb.rep_prefix hl];exact h.take _
theorem below_store{B:Nat}{a w:World}(h:Below B a w){g i:Nat}(hp:B≤g)(u:Value):Below B a (w.setCell ⟨g,i,none⟩ u):=h.setCell (by exact hp) u
theorem wpList_make_row{P:Program}{w:World}{ops:Array Oper}{rest:List Oper}{o:Oper}{a:Act}{Q:Exit→Act→World→Prop}(hg:o.guard=none)(l c:Operand)(t:TypeId)(hop:o.op=Op.makeSlice t l c)(e:TypeId)(z:Value)(bytes:Nat)(h1:P.underlying t=some (.slice e))(h2:(P.info? e).map (fun i=>(i.zero,i.size,i.bytes))=some (some z,1,bytes))(hz:z.cells= #[z])(kl kc:IntKind)(L C:Int)(n m:Nat)(hl:a.eval l= .int kl L)(hc:a.eval c= .int kc C)(hL:L=n)(hC:C=m)(hnm:n≤m)(b2:bytes*m≤281474976710656)(b3:m≤9223372036854775807)(hK: ∀w1 g,w.heap.size≤g→w1.heap.size=g+1→Row w1 g e (List.replicate m z)→Below w.heap.size w w1→wpList P ops Q rest (a.put o.dst (.slice (some ⟨g,0,none⟩) n m)) w1):wpList P ops Q (o :: rest) a w:=by
 refine wpList_plain hg fun K hK'=>?_
 obtain⟨i,hi,hz0,hs,hbts⟩:=info_parts h2;subst hL hC
 have hb':(i.bytes:Int)*(m:Int)≤281474976710656:=by
  rw[hbts];have h:((bytes*m:Nat):Int)≤281474976710656:=by omega
  rwa [Int.natCast_mul]at h
 have hrun:=run_make (P:=P) w t e i z h1 hi hz0 kl kc n m (by omega) (by omega) hb' (by omega);unfold Oper.wp;simp[execOp,hop,hl,hc,hrun,Result.andThen];refine hK' _ _ (hK _ w.heap.size (Nat.le_refl _) (World.size_alloc _ _) ?_ ((Below.refl _ _).alloc (Nat.le_refl _) _));unfold Row;rw[heap_alloc_new,hs,Nat.mul_one,hz]
 have:(madeCells #[z] m)=(List.replicate m z).toArray:=by
  rw[←toList_madeCells_one]
 rw[this]
theorem Lay.drop{K:IntKind}{w:World}{b off:Nat}{l:List Nat}(h:Lay K w (some ⟨b,off,none⟩) l)(k:Nat):Lay K w (some ⟨b,off+k,none⟩) (l.drop k):=by
 obtain⟨b',off',h1,h2⟩:=h;by_cases hl:0<l.length
 ·have h3:=(h1 hl).1;simp only[Option.some.injEq,Addr.mk.injEq,and_true]at h3;obtain⟨rfl,rfl⟩:=h3;refine⟨b,off+k,fun _=>⟨rfl,(h1 hl).2⟩,fun i hi=>?_⟩;rw[List.length_drop]at hi;rw[Nat.add_assoc,h2 (k+i) (by omega),Limb.wd_drop]
 ·exact⟨b,off+k,fun h=>absurd h (by rw[List.length_drop];omega),fun i hi=>absurd hi (by rw[List.length_drop];omega)⟩
theorem Lay.drewN{K:IntKind}{w:World}{a:Option Addr}{l:List Nat}(h:Lay K w a l)(n:Nat):Lay K (w.drewN n) a l:=h
theorem Row.drewN{w:World}{g:Nat}{e:TypeId}{cs:List Value}(h:Row w g e cs)(n:Nat):Row (w.drewN n) g e cs:=h
theorem lay_of_owns{K:IntKind}{w:World}{B:Nat}{e:TypeId}{v:Value}{n:Nat}{zs:List Nat}(h:w.ownsRow B e 1 v n (nums K zs)): ∃a cap,v= .slice a n cap∧n≤cap∧n=zs.length∧Lay K w a zs∧(0<n→∃g cs,a=some ⟨g,0,none⟩∧B≤g∧Row w g e cs∧cs.length=cap∧cs.take n=nums K zs):=by
 obtain⟨h1,h2⟩:=h;rw[nums_length,Nat.mul_one]at h1;rcases h2 with⟨hv,hn⟩|⟨g,cap,cur,hv,hg,hh,hc1,hc2,hc3,hc4⟩
 ·subst hn;have:zs=[]:=List.eq_nil_of_length_eq_zero h1;subst this;exact⟨none,0,hv,Nat.le_refl _,rfl,Lay.nil _ _ _,fun h=>absurd h (by omega)⟩
 ·rw[Nat.mul_one]at hc3 hc4;have hr:Row w g e cur.toList:=by unfold Row;simpa using hh
  refine⟨some ⟨g,0,none⟩,cap,hv,hc1,h1.symm,?_,fun _=>⟨g,cur.toList,rfl,hg,hr,by simpa using hc3,hc4⟩⟩;refine⟨g,0,fun _=>⟨rfl,hr.lt⟩,fun i hi=>?_⟩;rw[Nat.zero_add,hr.cell_at];have h5:=nums_get (k:=K) hi;rw[←hc4,List.getElem?_take_of_lt (by omega)]at h5;exact h5
theorem below_grown{B:Nat}{w w1:World}{e:TypeId}{v:Value}{n:Nat}{xs:List Value}(hown:w.ownsRow B e 1 v n xs)(hg:w.grownBy w1 v.ownBlock)(hB:B≤w.heap.size):Below B w w1:=
 (Below.refl _ _).grown hg hB fun k hk=>(hown.lt k hk).1
theorem wpList_append_lay{P:Program}{w:World}{ops:Array Oper}{rest:List Oper}{o:Oper}{a:Act}{Q:Exit→Act→World→Prop}(hgd:o.guard=none)(s x:Operand)(t:TypeId)(ho:o.op= .call {callee:= .builtin .append,args:= #[s,x],argTypes:= #[t,t]})(K:IntKind)(B:Nat)(e:TypeId)(z:Value)(bytes:Nat)(ht:P.underlying t=some (.slice e))(h2:(P.info? e).map (fun i=>(i.zero,i.size,i.bytes))=some (some z,1,bytes))(hz:z.cells.size=1)(v:Value)(n:Nat)(xs:List Value)(hs:a.eval s=v)(hown:w.ownsRow B e 1 v n xs)(ad:Option Addr)(m c:Nat)(hx:a.eval x= .slice ad m c)(l:List Nat)(hlay:Lay K w ad l)(hm:m=l.length)(h63:n+m≤9223372036854775807)(hbytes:(n+m)*bytes≤140737488355328)(hB:B≤w.heap.size)(h: ∀v' w',w'.ownsRow B e 1 v' (n+m) (xs++nums K l)→Below B w w'→wpList P ops Q rest (a.put o.dst v') w'):wpList P ops Q (o :: rest) a w:=by
 obtain⟨i,hi,hz0,hsz,hbt⟩:=info_parts h2;by_cases hl:0<l.length
 ·obtain⟨b,off,h1,hc⟩:=hlay;rw[(h1 hl).1]at hx;refine wpList_append_own w hgd s x t ho B e i z 1 bytes ht hi hz0 hsz hbt hz (by decide) v n xs hs hown ⟨b,off,none⟩ m c (nums K l) hx (by rw[nums_length,hm,Nat.mul_one]) ?_ ?_ h63 hbytes hB ?_
  ·intro j u hj;have hjl:j<l.length:=by have:=(List.getElem?_eq_some_iff.1 hj).1;rwa [nums_length]at this
   rw[nums_get hjl]at hj;rw[Addr.add_lit,hc j hjl];exact hj
  ·intro u hu;unfold nums at hu;obtain⟨_,_,rfl⟩:=List.mem_map.1 hu;rfl
  ·intro v' w' h1 h2 _;exact h v' w' h1 (below_grown hown h2 hB)
 ·have hl0:l=[]:=List.eq_nil_of_length_eq_zero (by omega);subst hl0;have hm0:m=0:=hm;subst hm0;cases ad with
  |some ad=>
   refine wpList_append_own w hgd s x t ho B e i z 1 bytes ht hi hz0 hsz hbt hz (by decide) v n xs hs hown ad 0 c [] hx rfl (fun j u hj=>by simp at hj) (fun u hu=>by cases hu) h63 hbytes hB ?_;intro v' w' h1 h2 _;exact h v' w' h1 (below_grown hown h2 hB)
  |none=>
   refine wpList_plain hgd fun K' hK=>?_
   have hrun:(Builtin.append_ #[t,t] o.type #[v,.slice none 0 c]).run P w= .ok v w:=by
    rcases hown.2 with⟨rfl,rfl⟩|⟨g,cap,cur,rfl,hbg,hg,hnc,hcm,hcs,htake⟩
    ·simp[Builtin.append_,run_underlying ht,sizeOf,typeInfo,hi,Builtin.lenOf,Builtin.firstCells,loadCells,loadCellsFrom]
    ·simp[Builtin.append_,run_underlying ht,sizeOf,typeInfo,hi,Builtin.lenOf,Builtin.firstCells,loadCells,loadCellsFrom,hnc,storeCells]
   unfold Oper.wp;simp[execOp,ho,resolve,invoke,builtin,hs,hx,hrun,Result.andThen];refine hK _ _ (h v w ?_ (Below.refl _ _));simpa[nums]using hown
end Go.Proofs.YtbffpkmfhkphdaaGreatDoor
namespace Go.Proofs.YtbffpkmfhkphdaaGreatDoor.Limb
def digs(b n:Nat):List Nat:=if h:n=0∨b<2 then[]else n%b :: digs b (n/b)
termination_by n
decreasing_by exact Nat.div_lt_self (by omega) (by omega)
theorem digs_zero(b:Nat):digs b 0=[]:=by rw[digs];simp
theorem digs_pos{b n:Nat}(hb:2≤b)(hn:0<n):digs b n=n%b :: digs b (n/b):=by
 rw[digs,dif_neg (by omega)]
theorem digs_lt{b:Nat}(hb:2≤b)(n:Nat): ∀d∈digs b n,d<b:=by
 induction n using Nat.strongRecOn with
 |ind n ih=>
  by_cases hn:n=0
  ·subst hn;rw[digs_zero];intro d h;cases h
  ·rw[digs_pos hb (by omega)];intro d h;rcases List.mem_cons.1 h with rfl|h
   ·exact Nat.mod_lt _ (by omega)
   ·exact ih _ (Nat.div_lt_self (by omega) (by omega)) d h
theorem digs_length{b:Nat}(hb:2≤b)(n k:Nat)(h:n<2^k):(digs b n).length≤k:=by
 induction k generalizing n with
 |zero=>rw[show n=0 by rw[Nat.pow_zero]at h;omega,digs_zero];exact Nat.le_refl _
 |succ k ih=>
  by_cases hn:n=0
  ·subst hn;rw[digs_zero];simp
  ·rw[digs_pos hb (by omega)];have:=ih (n/b) (by rw[Nat.pow_succ]at h;have h1:n/b≤n/2:=Nat.div_le_div_left hb (by decide);omega);simp only[List.length_cons];omega
def sgn(d:Nat):Nat:=if d<10 then 48+d else 87+d
def txt(b n:Nat):List Nat:=if n=0 then[48]else(digs b n).reverse.map sgn
def Part(b N:Nat)(l:List Nat)(y:Nat):Prop:=(digs b N).map sgn=l++(digs b y).map sgn
theorem Part.start(b N:Nat):Part b N [] N:=rfl
theorem Part.step{b N y:Nat}{l:List Nat}(h:Part b N l y)(hb:2≤b)(hy:0<y):Part b N (l++[sgn (y%b)]) (y/b):=by
 unfold Part at*
 rw[h,digs_pos hb hy];simp
theorem Part.done{b N:Nat}{l:List Nat}(h:Part b N l 0):l=(digs b N).map sgn:=by
 unfold Part at h;rw[digs_zero]at h;simpa using h.symm
theorem Part.len{b N y:Nat}{l:List Nat}(h:Part b N l y):l.length≤(digs b N).length:=by
 have:=congrArg List.length h;simp at this;omega
theorem Part.len_lt{b N y:Nat}{l:List Nat}(h:Part b N l y)(hb:2≤b)(hy:0<y):l.length<(digs b N).length:=by
 have:=congrArg List.length h;rw[digs_pos hb hy]at this;simp at this;omega
theorem Part.txt{b N:Nat}{l:List Nat}(h:Part b N l 0)(hN:N≠0):l.reverse=txt b N:=by
 unfold Limb.txt;rw[if_neg hN,h.done,List.map_reverse]
theorem part_digit{b q r m:Nat}(hb:2≤b):(q*b^(m+1)+r)%b=r%b∧(q*b^(m+1)+r)/b=q*b^m+r/b:=by
 have e:q*b^(m+1)=b*(q*b^m):=by rw[Nat.pow_succ,←Nat.mul_assoc,Nat.mul_comm]
 rw[e];exact⟨by rw[Nat.mul_add_mod],by rw[Nat.mul_add_div (by omega)]⟩
theorem part_rest{b r m:Nat}(hb:2≤b)(h:r<b^(m+1)):r/b<b^m:=by
 rw[Nat.div_lt_iff_lt_mul (by omega),←Nat.pow_succ];exact h
theorem part_pos{b q r m:Nat}(hb:2≤b):0<q*b^m+r↔0<q∨0<r:=by
 have:0<b^m:=Nat.pow_pos (by omega);constructor
 ·intro h;rcases Nat.eq_zero_or_pos q with hq|hq
  ·subst hq;right;simpa using h
  ·exact .inl hq
 ·rintro(h|h)
  ·have:=Nat.mul_pos h this;omega
  ·omega
def half(l:List Nat)(i:Nat):List Nat:=(List.range l.length).map fun t=>if t<i∨l.length-1-t<i then wd l (l.length-1-t)else wd l t
theorem half_length(l:List Nat)(i:Nat):(half l i).length=l.length:=by simp[half]
theorem half_get(l:List Nat)(i t:Nat)(h:t<l.length):wd (half l i) t=if t<i∨l.length-1-t<i then wd l (l.length-1-t)else wd l t:=by
 rw[wd_lt (by rw[half_length];exact h)];simp[half]
theorem half_zero(l:List Nat):half l 0=l:=by
 apply ext_wd (half_length _ _);intro i hi;rw[half_length]at hi;rw[half_get _ _ _ hi,if_neg (by omega)]
theorem wd_reverse(l:List Nat)(i:Nat)(h:i<l.length):wd l.reverse i=wd l (l.length-1-i):=by
 rw[wd_lt (by simpa using h),wd_lt (by omega)];simp
theorem half_done(l:List Nat)(i:Nat)(h:l.length≤2*i+1):half l i=l.reverse:=by
 apply ext_wd (by rw[half_length];simp);intro t ht;rw[half_length]at ht;rw[half_get _ _ _ ht,wd_reverse _ _ ht];split
 ·rfl
 ·rename_i hn;rw[show l.length-1-t=t by omega]
theorem half_step(l:List Nat)(i j:Nat)(hij:i<j)(hj:i+j+1=l.length):((half l i).set i (wd (half l i) j)).set j (wd (half l i) i)=half l (i+1):=by
 apply ext_wd (by simp[half_length]);intro t ht;rw[List.length_set,List.length_set,half_length]at ht;rw[half_get l (i+1) t ht];have ei:wd (half l i) i=wd l i:=by rw[half_get _ _ _ (by omega),if_neg (by omega)]
 have ej:wd (half l i) j=wd l j:=by rw[half_get _ _ _ (by omega),if_neg (by omega)]
 rw[ei,ej];by_cases h1:t=j
 ·subst h1;rw[if_pos (by omega),wd_lt (by simp[half_length];omega)];simp;rw[show l.length-1-t=i by omega]
 ·by_cases h2:t=i
  ·subst h2;rw[if_pos (by omega),wd_lt (by simp[half_length];omega),List.getElem_set_ne (by omega),List.getElem_set_self];rw[show l.length-1-t=j by omega]
  ·rw[wd_lt (by simp[half_length];omega),List.getElem_set_ne (by omega),List.getElem_set_ne (by omega),←wd_lt,half_get _ _ _ ht];by_cases h3:t<i∨l.length-1-t<i
   ·rw[if_pos h3,if_pos (by omega)]
   ·rw[if_neg h3,if_neg (by omega)]
end Go.Proofs.YtbffpkmfhkphdaaGreatDoor.Limb
namespace Go.Proofs.YtbffpkmfhkphdaaGreatDoor.Limb
structure Hp where
 ws:List Nat
 st:List Bool
 rt:List Nat
 size:Nat
 last:Nat
structure Hd where
 size:Nat
 fmt:Nat
 spare:Nat
 cls:Nat
 ser:Nat
structure Hd.Ok (h:Hd):Prop where
 size:h.size≤65535
 f1:1≤h.fmt
 f4:h.fmt≤4
 spare:h.spare≤3
 sp:h.spare=0∨(h.fmt=2∧0<h.size)
def Hd.w0(h:Hd):Nat:=h.size+h.fmt*16777216+h.spare*134217728
def unp(a c s:Nat):Hd:=⟨a%16777216,a/16777216%8,a/134217728%4,c,s⟩
theorem Hd.w0_lt{h:Hd}(k:h.Ok):h.w0<536870912:=by
 have:=k.size;have:=k.f4;have:=k.spare;unfold Hd.w0;omega
theorem unp_w0{h:Hd}(k:h.Ok):unp h.w0 h.cls h.ser=h:=by
 obtain⟨a,b,c,d,e⟩:=h;have h1:a≤65535:=k.size;have h2:b≤4:=k.f4;have h3:c≤3:=k.spare;have e1:Hd.w0 ⟨a,b,c,d,e⟩=a+b*16777216+c*134217728:=rfl;rw[e1];unfold unp;rw[Hd.mk.injEq];refine⟨?_,?_,?_,rfl,rfl⟩<;>omega
theorem wd_zero(a:Nat)(l:List Nat):wd (a :: l) 0=a:=rfl
theorem wd_succ(a:Nat)(l:List Nat)(i:Nat):wd (a :: l) (i+1)=wd l i:=rfl
theorem w0_unp{a c s:Nat}(h:a<536870912):(unp a c s).w0=a:=by
 unfold unp Hd.w0;simp only;omega
def begins(h:Hp)(i:Nat):Bool:=h.st.getD i false
def hd(h:Hp)(i:Nat):Hd:=unp (wd h.ws i) (wd h.ws (i+1)) (wd h.ws (i+2))
structure Good (h:Hp):Prop where
 len:h.st.length=h.ws.length
 lim:Lim h.ws
 rlim:Lim h.rt
 rlen:h.rt.length=64
 pos:1≤h.ws.length
 fits:h.ws.length≤h.size
 s64:64≤h.size
 sM:h.size≤1048576
 last:h.last<4294967296
 first: ∀i,begins h i=true→1≤i
 inside: ∀i,begins h i=true→i+3+(hd h i).size≤h.ws.length
 ok: ∀i,begins h i=true→(hd h i).Ok∧wd h.ws i<536870912
 apart: ∀i j,begins h i=true→begins h j=true→i<j→i+3+(hd h i).size≤j
 spz: ∀i,begins h i=true→(hd h i).fmt=2→0<(hd h i).spare→wd h.ws (i+2+(hd h i).size)<2^(32-8*(hd h i).spare)
theorem begins_lt{h:Hp}{i:Nat}(k:begins h i=true):i<h.st.length:=by
 unfold begins at k;rw[List.getD_eq_getElem?_getD]at k;by_cases hi:i<h.st.length
 ·exact hi
 ·rw[List.getElem?_eq_none (by omega)]at k;cases k
def isO(h:Hp)(o:Nat):Bool:=decide (o≠0)&&decide (o%2=0)&&begins h (o/2)
theorem isO_iff{h:Hp}{o:Nat}:isO h o=true↔o≠0∧o%2=0∧begins h (o/2)=true:=by
 unfold isO;simp[and_assoc]
def valO(h:Hp)(o:Nat):Bool:=decide (o=0)||decide (o%2=1)||isO h o
def clsO(h:Hp)(o:Nat):Bool:=decide (o=0)||isO h o
def hdO(h:Hp)(o:Nat):Hd:=hd h (o/2)
def Hd.len(x:Hd):Nat:=if x.fmt=2 then 4*x.size-x.spare else x.size
def fld(h:Hp)(o i:Nat):Nat:=wd h.ws (o/2+3+i)
def room(h:Hp)(n:Nat):Bool:=decide (h.ws.length+3+n≤h.size)&&decide (h.last≠4294967295)
def addO(h:Hp)(f spare c:Nat)(fs:List Nat):Hp:=
 {ws:=h.ws++(Hd.w0 ⟨fs.length,f,spare,c,h.last+1⟩ :: c :: (h.last+1) :: fs),st:=h.st++(true :: List.replicate (2+fs.length) false),rt:=h.rt,size:=h.size,last:=h.last+1}
def newO(h:Hp):Nat:=2*h.ws.length
theorem addO_len(h:Hp)(f spare c:Nat)(fs:List Nat):(addO h f spare c fs).ws.length=h.ws.length+3+fs.length:=by
 unfold addO;simp;omega
theorem addO_old(h:Hp)(f spare c:Nat)(fs:List Nat){i:Nat}(hi:i<h.ws.length):wd (addO h f spare c fs).ws i=wd h.ws i:=by
 unfold addO;exact wd_append_lt hi
theorem addO_new(h:Hp)(f spare c:Nat)(fs:List Nat)(i:Nat):wd (addO h f spare c fs).ws (h.ws.length+i)=wd (Hd.w0 ⟨fs.length,f,spare,c,h.last+1⟩ :: c :: (h.last+1) :: fs) i:=by
 unfold addO;rw[wd_append_ge (by omega),Nat.add_sub_cancel_left]
theorem addO_begins(h:Hp)(f spare c:Nat)(fs:List Nat)(k:Good h)(i:Nat):begins (addO h f spare c fs) i=if i=h.ws.length then true else begins h i:=by
 unfold addO begins;simp only[List.getD_eq_getElem?_getD];by_cases h1:i<h.st.length
 ·rw[List.getElem?_append_left h1,if_neg (by rw[←k.len];omega)]
 ·rw[List.getElem?_append_right (by omega)];by_cases h2:i=h.ws.length
  ·rw[if_pos h2,k.len,h2,Nat.sub_self];rfl
  ·rw[if_neg h2,List.getElem?_eq_none (l:=h.st) (by omega)];obtain⟨j,hj⟩: ∃j,i-h.st.length=j+1:=⟨i-h.st.length-1,by have:=k.len;omega⟩;rw[hj,List.getElem?_cons_succ];by_cases h3:j<2+fs.length
   ·rw[List.getElem?_replicate,if_pos h3];rfl
   ·rw[List.getElem?_replicate,if_neg h3]
theorem addO_hd_new{h:Hp}{f spare c:Nat}{fs:List Nat}(k:(⟨fs.length,f,spare,c,h.last+1⟩:Hd).Ok):hd (addO h f spare c fs) h.ws.length=⟨fs.length,f,spare,c,h.last+1⟩:=by
 unfold hd;have e0:=addO_new h f spare c fs 0;have e1:=addO_new h f spare c fs 1;have e2:=addO_new h f spare c fs 2;rw[Nat.add_zero,wd_zero]at e0;rw[wd_succ,wd_zero]at e1;rw[show(2:Nat)=0+1+1 from rfl,wd_succ,wd_succ,wd_zero]at e2;rw[e0,e1,e2];exact unp_w0 k
theorem hd_old{h:Hp}(k:Good h){f spare c:Nat}{fs:List Nat}{i:Nat}(hi:begins h i=true):hd (addO h f spare c fs) i=hd h i:=by
 have:=k.inside i hi;unfold hd;rw[addO_old _ _ _ _ _ (by omega),addO_old _ _ _ _ _ (by omega),addO_old _ _ _ _ _ (by omega)]
theorem Good.add{h:Hp}(k:Good h){f spare c:Nat}{fs:List Nat}(hr:room h fs.length=true)(hok:(⟨fs.length,f,spare,c,h.last+1⟩:Hd).Ok)(hc:c<4294967296)(hl:Lim fs)(hz:f=2→0<spare→wd fs (fs.length-1)<2^(32-8*spare)):Good (addO h f spare c fs):=by
 unfold room at hr;rw[Bool.and_eq_true,decide_eq_true_eq,decide_eq_true_eq]at hr;have hlast:=k.last;have hlen:=addO_len h f spare c fs;have hb:=addO_begins h f spare c fs k
 have cases2: ∀{i},begins (addO h f spare c fs) i=true→i=h.ws.length∨begins h i=true:=fun{i} hi=>by
  rw[hb]at hi;by_cases e:i=h.ws.length
  ·exact .inl e
  ·rw[if_neg e]at hi;exact .inr hi
 have hwlt:wd (addO h f spare c fs).ws h.ws.length<536870912:=by
  have e0:=addO_new h f spare c fs 0;rw[Nat.add_zero,wd_zero]at e0;rw[e0];exact Hd.w0_lt hok
 refine⟨?_,?_,k.rlim,k.rlen,by omega,by rw[hlen];exact hr.1,k.s64,k.sM,by show h.last+1<_;omega,?_,?_,?_,?_,?_⟩
 ·rw[hlen];show(h.st++_).length=_
  rw[List.length_append,k.len];simp;omega
 ·refine k.lim.append (Lim.cons ?_ (Lim.cons hc (Lim.cons (by omega) hl)));have:=Hd.w0_lt hok;omega
 ·intro i hi;rcases cases2 hi with rfl|hi
  ·exact k.pos
  ·exact k.first i hi
 ·intro i hi;rw[hlen];rcases cases2 hi with rfl|hi
  ·rw[addO_hd_new hok];simp
  ·rw[hd_old k hi];have:=k.inside i hi;omega
 ·intro i hi;rcases cases2 hi with rfl|hi
  ·rw[addO_hd_new hok];exact⟨hok,hwlt⟩
  ·rw[hd_old k hi,addO_old _ _ _ _ _ (by have:=begins_lt hi;rw[k.len]at this;exact this)];exact k.ok i hi
 ·intro i j hi hj hij;rcases cases2 hi with rfl|hi
  ·rcases cases2 hj with rfl|hj
   ·omega
   ·have:=begins_lt hj;rw[k.len]at this;omega
  ·rw[hd_old k hi];rcases cases2 hj with rfl|hj
   ·exact k.inside i hi
   ·exact k.apart i j hi hj hij
 ·intro i hi;rcases cases2 hi with rfl|hi
  ·rw[addO_hd_new hok];intro h2 h3;have h2':f=2:=h2;have h3':0<spare:=h3;show wd _ (h.ws.length+2+fs.length)<_
   have hs:=hok.sp;have hpos:0<fs.length:=by rcases hs with hs|⟨_,hs⟩<;>simp at hs<;>omega
   obtain⟨m,hm⟩: ∃m,fs.length=m+1:=⟨fs.length-1,by omega⟩;rw[Nat.add_assoc,addO_new,hm,show 2+(m+1)=m+1+1+1 by omega,wd_succ,wd_succ,wd_succ];have:=hz h2' h3'
   rwa [hm,Nat.add_sub_cancel]at this
  ·rw[hd_old k hi];intro h2 h3;have hin:=k.inside i hi;rw[addO_old _ _ _ _ _ (by omega)];exact k.spz i hi h2 h3
def putW(h:Hp)(i v:Nat):Hp:={h with ws:=h.ws.set i v}
theorem putW_len(h:Hp)(i v:Nat):(putW h i v).ws.length=h.ws.length:=by unfold putW;simp
theorem putW_begins(h:Hp)(i v j:Nat):begins (putW h i v) j=begins h j:=rfl
theorem putW_wd(h:Hp){i v:Nat}(hi:i<h.ws.length)(j:Nat):wd (putW h i v).ws j=if j=i then v else wd h.ws j:=wd_set hi j
theorem putW_hd{h:Hp}(k:Good h){i n v:Nat}(hi:begins h i=true)(hn:n<(hd h i).size){j:Nat}(hj:begins h j=true):hd (putW h (i+3+n) v) j=hd h j:=by
 have h1:=k.inside i hi;have h2:=k.inside j hj
 have h3:j+2<i+3+n∨i+3+n<j:=by
  rcases Nat.lt_trichotomy i j with e|e|e
  ·have:=k.apart i j hi hj e;omega
  ·omega
  ·have:=k.apart j i hj hi e;omega
 unfold hd;rw[putW_wd h (by omega),putW_wd h (by omega),putW_wd h (by omega),if_neg (by omega),if_neg (by omega),if_neg (by omega)]
theorem Good.putW{h:Hp}(k:Good h){i n v:Nat}(hi:begins h i=true)(hn:n<(hd h i).size)(hv:v<4294967296)(hz:(hd h i).fmt=2→0<(hd h i).spare→n+1=(hd h i).size→v<2^(32-8*(hd h i).spare)):Good (putW h (i+3+n) v):=by
 have hin:=k.inside i hi;have hH:=fun j (hj:begins h j=true)=>putW_hd (v:=v) k hi hn hj
 have hb:=putW_begins h (i+3+n) v;have hl:=putW_len h (i+3+n) v;have hw:=putW_wd h (i:=i+3+n) (v:=v) (by omega);refine⟨by rw[hl];exact k.len,k.lim.set hv,k.rlim,k.rlen,by rw[hl];exact k.pos,by rw[hl];exact k.fits,k.s64,k.sM,k.last,fun j hj=>k.first j hj,fun j hj=>?_,fun j hj=>?_,fun a b ha hb' hab=>?_,fun j hj=>?_⟩
 ·rw[hH j hj,hl];exact k.inside j hj
 ·rw[hH j hj];refine⟨(k.ok j hj).1,?_⟩;rw[hw];split
  ·rename_i e;have h1:=k.inside j hj;rcases Nat.lt_trichotomy i j with e'|e'|e'
   ·have:=k.apart i j hi hj e';omega
   ·omega
   ·have:=k.apart j i hj hi e';omega
  ·exact(k.ok j hj).2
 ·rw[hH a ha];exact k.apart a b ha hb' hab
 ·rw[hH j hj];intro h2 h3;rw[hw];have h1:=k.inside j hj;split
  ·rename_i e
   have:j=i:=by
    rcases Nat.lt_trichotomy i j with e'|e'|e'
    ·have:=k.apart i j hi hj e';omega
    ·exact e'.symm
    ·have:=k.apart j i hj hi e';omega
   subst this;exact hz h2 h3 (by omega)
  ·exact k.spz j hj h2 h3
theorem setC_hd{h:Hp}(k:Good h){i c:Nat}(hi:begins h i=true){j:Nat}(hj:begins h j=true):hd (putW h (i+1) c) j=if j=i then{hd h i with cls:=c}else hd h j:=by
 have h1:=k.inside i hi;have h2:=k.inside j hj;unfold hd;rw[putW_wd h (by omega),putW_wd h (by omega),putW_wd h (by omega)];by_cases e:j=i
 ·subst e;rw[if_pos rfl,if_neg (by omega),if_pos rfl,if_neg (by omega)];rfl
 ·rw[if_neg e]
  have h3:j+3≤i∨i+3≤j:=by
   rcases Nat.lt_trichotomy i j with e'|e'|e'
   ·have:=k.apart i j hi hj e';omega
   ·omega
   ·have:=k.apart j i hj hi e';omega
  rw[if_neg (by omega),if_neg (by omega),if_neg (by omega)]
theorem Good.setC{h:Hp}(k:Good h){i c:Nat}(hi:begins h i=true)(hc:c<4294967296):Good (Limb.putW h (i+1) c):=by
 have hin:=k.inside i hi;have hH:=fun j (hj:begins h j=true)=>setC_hd (c:=c) k hi hj
 have hl:=putW_len h (i+1) c;have hw:=putW_wd h (i:=i+1) (v:=c) (by omega)
 have hsz: ∀j,begins h j=true→(hd (Limb.putW h (i+1) c) j).size=(hd h j).size∧(hd (Limb.putW h (i+1) c) j).fmt=(hd h j).fmt∧(hd (Limb.putW h (i+1) c) j).spare=(hd h j).spare:=fun j hj=>by
  rw[hH j hj];split
  ·rename_i e;subst e;exact⟨rfl,rfl,rfl⟩
  ·exact⟨rfl,rfl,rfl⟩
 have hne: ∀j,begins h j=true→j≠i+1:=fun j hj e=>by
  have:=k.apart i j hi hj (by omega);omega
 refine⟨by rw[hl];exact k.len,k.lim.set hc,k.rlim,k.rlen,by rw[hl];exact k.pos,by rw[hl];exact k.fits,k.s64,k.sM,k.last,fun j hj=>k.first j hj,fun j hj=>?_,fun j hj=>?_,fun a b ha hb' hab=>?_,fun j hj=>?_⟩
 ·rw[(hsz j hj).1,hl];exact k.inside j hj
 ·obtain⟨s1,s2,s3⟩:=hsz j hj;obtain⟨o1,o2⟩:=k.ok j hj;refine⟨⟨by rw[s1];exact o1.size,by rw[s2];exact o1.f1,by rw[s2];exact o1.f4,by rw[s3];exact o1.spare,by rw[s1,s2,s3];exact o1.sp⟩,?_⟩;rw[hw,if_neg (hne j hj)];exact o2
 ·rw[(hsz a ha).1];exact k.apart a b ha hb' hab
 ·obtain⟨s1,s2,s3⟩:=hsz j hj;rw[s1,s2,s3];intro h2 h3;have h1:=k.inside j hj;rw[hw,if_neg ?_]
  ·exact k.spz j hj h2 h3
  ·intro e
   have:j=i:=by
    rcases Nat.lt_trichotomy i j with e'|e'|e'
    ·have:=k.apart i j hi hj e';omega
    ·exact e'.symm
    ·have:=k.apart j i hj hi e';omega
   subst this
   have hp:0<(hd h j).size:=by
    have:=(k.ok j hj).1.sp;omega
   omega
def setR(h:Hp)(i v:Nat):Hp:={h with rt:=h.rt.set i v}
theorem Good.setR{h:Hp}(k:Good h){i v:Nat}(hv:v<4294967296):Good (setR h i v):=
 ⟨k.len,k.lim,k.rlim.set hv,by show(h.rt.set i v).length=64;rw[List.length_set];exact k.rlen,k.pos,k.fits,k.s64,k.sM,k.last,k.first,k.inside,k.ok,k.apart,k.spz⟩
def emptyH(n:Nat):Hp:=⟨[0],[false],List.replicate 64 0,n,0⟩
theorem good_empty{n:Nat}(h1:64≤n)(h2:n≤1048576):Good (emptyH n):=by
 have hb: ∀i,begins (emptyH n) i=true→False:=fun i h=>by
  have:=begins_lt h;have:i=0:=by simpa[emptyH]using this
  subst this;cases h
 exact⟨rfl,Lim.cons (by decide) Lim.nil,Lim.replicate _ (by decide),by simp[emptyH],by simp[emptyH],by show 1≤n;omega,h1,h2,by show 0<_;decide,fun i h=>(hb i h).elim,fun i h=>(hb i h).elim,fun i h=>(hb i h).elim,fun i j h=>(hb i h).elim,fun i h=>(hb i h).elim⟩
end Go.Proofs.YtbffpkmfhkphdaaGreatDoor.Limb

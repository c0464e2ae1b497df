/- The walks of large.May and large.may. Several integers of package big that a call has made, followed through its calls: at which blocks, and which numbers. (*Int).SetInt64 and NewInt of package big. The walks of large.join with the three operations, and of large.Add, Sub, Mul. Plain arithmetic: the quotients and remainders, by truncation and by the floor. The walks of (*Int).Text and of large.Print. -/
import Derived.Test.YtbffpkmfhkphdaaGreatDoorGX11
import Derived.Test.YtbffpkmfhkphdaaGreatDoorGX10
import Derived.Test.YtbffpkmfhkphdaaGreatDoorGX00
set_option linter.unusedVariables false
set_option linter.unusedSimpArgs false
set_option maxRecDepth 1000000
set_option maxHeartbeats 6400000
namespace Go.Proofs.YtbffpkmfhkphdaaGreatDoor
open Go Lib Go.RowKit Limb
def mayB(neg:Bool)(l:List Nat):Bool:=if l.length=0 then !neg else decide (l.length≤1024)&&decide (wd l (l.length-1)≠0)
theorem norm_of_last{l:List Nat}(h:l.length=0∨wd l (l.length-1)≠0):Norm l:=by
 unfold Norm;intro e;rcases h with h|h
 ·rw[List.eq_nil_of_length_eq_zero h]at e;simp at e
 ·apply h;rw[List.getLast?_eq_getElem?]at e;unfold wd;rw[List.getD_eq_getElem?_getD,e];rfl
theorem mayB_int{neg:Bool}{l:List Nat}(hl:Lim l)(h:mayB neg l=true):l=rep (signed neg (val l)).natAbs∧neg=decide (signed neg (val l)<0)∧l.length≤1024:=by
 unfold mayB at h;have e:(signed neg (val l)).natAbs=val l:=by unfold signed;split<;>omega
 rw[e];split at h
 ·rename_i h0;have:l=[]:=List.eq_nil_of_length_eq_zero h0;subst this;have hn:neg=false:=by simpa using h
  subst hn;exact⟨rfl,rfl,by simp⟩
 ·rename_i h0;simp only[Bool.and_eq_true,decide_eq_true_eq]at h;have hn:=norm_of_last (.inr h.2);refine⟨(rep_val hl hn).symm,?_,h.1⟩;have hv:val l≠0:=by intro e0;have:=rep_val hl hn;rw[e0,rep_zero]at this;rw[←this]at h0;simp at h0
  unfold signed;cases neg<;>simp<;>omega
theorem mayB_rep(z:Int):mayB (decide (z<0)) (rep z.natAbs)=decide ((rep z.natAbs).length≤1024):=by
 unfold mayB;split
 ·rename_i h;rw[rep_length_zero]at h;have:z=0:=by omega
  subst this;decide
 ·rename_i h;obtain⟨k,hk⟩: ∃k,(rep z.natAbs).length=k+1:=⟨(rep z.natAbs).length-1,by omega⟩;have:=norm_last (rep_norm z.natAbs) hk;rw[hk,Nat.add_sub_cancel];simp[this]
theorem large_May(w:World)(neg:Bool)(a:Option Addr)(l:List Nat)(n cap:Nat)(hlay:Lay .u32 w a l)(hlim:Lim l)(hn:n=l.length)(hm:n≤9223372036854775807):Calls Tryz.prog 59 #[.agg #[.bool neg,.slice a n cap]] w fun e w'=>e= .returned (.bool (mayB neg l))∧Below w.heap.size w w':=by
 obtain⟨b1,off1,hix,hcx,_⟩:=hlay.use 22 60 Tryz.underlying22 size32 cap;rw[←hn]at hix hcx;by_cases h0:n=0
 ·have hb:mayB neg l=!neg:=(by unfold mayB;rw[if_pos (by omega)]);rw[hb];clear hix hcx hn hb;subst h0;go_enter Tryz.func59,Tryz.ntmps59;go_wp2;go_ret;exact⟨rfl,(Below.refl _ _).alloc (Nat.le_refl _) _⟩
 ·have hb:mayB neg l=(decide (n≤1024)&&decide (wd l (n-1)≠0)):=(by unfold mayB;rw[if_neg (by omega),←hn]);have q1:((n:Int)==0)=false:=by rw[beq_eq_false_iff_ne];omega
  obtain⟨wb,hwb⟩: ∃wb,wb=w.alloc (.cells #[.bool neg,.slice a n cap] 24):=⟨_,rfl⟩;have ix:=hix wb .i64 ((n:Int)-1) (by omega) (by omega);rw[show((n:Int)-1).toNat=n-1 from by omega]at ix;have cx:=hcx wb (by rw[hwb];exact(Below.refl _ _).alloc (Nat.le_refl _) _) (n-1) (by omega);rw[hwb]at ix cx;have h1:=hlim.wd (n-1);rw[hb];clear hb hix hcx hn hwb;by_cases hle:n≤1024
  ·have d1:decide (n≤1024)=true:=(by simpa using hle);have d2:decide ((n:Int)≤1024)=true:=by simp;omega
   by_cases hz:wd l (n-1)=0
   ·have e1:(((wd l (n-1):Nat):Int) != 0)=false:=(by rw[bne_eq_false_iff_eq];omega);have hfin:(decide (n≤1024)&&decide (wd l (n-1)≠0))=false:=by rw[hz];simp
    rw[hfin];clear hz hfin h0;go_enter Tryz.func59,Tryz.ntmps59;go_wp2;go_ret;exact⟨rfl,(Below.refl _ _).alloc (Nat.le_refl _) _⟩
   ·have e1:(((wd l (n-1):Nat):Int) != 0)=true:=(by rw[bne_iff_ne];omega);have hfin:(decide (n≤1024)&&decide (wd l (n-1)≠0))=true:=by simp[hle,hz]
    rw[hfin];clear hz hfin h0;go_enter Tryz.func59,Tryz.ntmps59;go_wp2;go_ret;exact⟨rfl,(Below.refl _ _).alloc (Nat.le_refl _) _⟩
  ·have d1:decide (n≤1024)=false:=(by simp;omega);have d2:decide ((n:Int)≤1024)=false:=by simp;omega
   have hfin:(decide (n≤1024)&&decide (wd l (n-1)≠0))=false:=(by rw[d1];rfl);rw[hfin];clear hfin h0 ix cx;go_enter Tryz.func59,Tryz.ntmps59;go_wp2;go_ret;exact⟨rfl,(Below.refl _ _).alloc (Nat.le_refl _) _⟩
theorem large_may2(w:World)(g:Nat)(n1 n2:Bool)(a1 a2:Option Addr)(l1 l2:List Nat)(m1 m2 c1 c2:Nat)(hr:Row w g 24 [.bool n1,.slice a1 m1 c1,.bool n2,.slice a2 m2 c2])(hy1:Lay .u32 w a1 l1)(hy2:Lay .u32 w a2 l2)(hl1:Lim l1)(hl2:Lim l2)(hm1:m1=l1.length)(hm2:m2=l2.length)(hb1:m1≤9223372036854775807)(hb2:m2≤9223372036854775807):Calls Tryz.prog 65 #[.slice (some ⟨g,0,none⟩) 2 2] w fun e w'=>e= .returned (.bool (mayB n1 l1&&mayB n2 l2))∧Below w.heap.size w w':=by
 have hcall1:=fun W (hW:Below w.heap.size w W)=>large_May W n1 a1 l1 m1 c1 (hy1.below hW) hl1 hm1 hb1
 have hcall2:=fun W (hW:Below w.heap.size w W)=>large_May W n2 a2 l2 m2 c2 (hy2.below hW) hl2 hm2 hb2
 have hcs: ∀W,Below w.heap.size w W→W.cell? ⟨g,0,none⟩=some (.bool n1)∧W.cell? ⟨g,1,none⟩=some (.slice a1 m1 c1)∧W.cell? ⟨g,2,none⟩=some (.bool n2)∧W.cell? ⟨g,3,none⟩=some (.slice a2 m2 c2):=by
  intro W hW;have:=hr.below hW hr.lt;exact⟨this.cell_at 0,this.cell_at 1,this.cell_at 2,this.cell_at 3⟩
 have HC:=hid hcs;clear hcs;obtain⟨k0,k1,k2,k3⟩:=HC.out w (Below.refl _ _);have Hm1:=hid hm1;clear hm1;have Hm2:=hid hm2;clear hm2;obtain⟨b1,hb1⟩: ∃b,b=mayB n1 l1:=⟨_,rfl⟩;obtain⟨b2,hb2⟩: ∃b,b=mayB n2 l2:=⟨_,rfl⟩;rw[←hb1]at hcall1 ⊢;rw[←hb2]at hcall2 ⊢;have H1:=hid hcall1;clear hcall1;have H2:=hid hcall2;clear hcall2;clear hb1 hb2;cases b1 with
 |false=>
  go_enter Tryz.func65,Tryz.ntmps65;go_wp2;refine wp_loop_rounds 1 ?_;rw[rounds_succ];go_wp2_with(go_at_call 59;refine(H1.out _ ?_).mono ?_;exact(Below.refl _ _).alloc (Nat.le_refl _) _;rintro e w1 ⟨rfl,hb1⟩);go_ret;exact⟨rfl,((Below.refl _ _).alloc (Nat.le_refl _) _).trans (hb1.mono (by rw[World.size_alloc];omega))⟩
 |true=>
  go_enter Tryz.func65,Tryz.ntmps65;go_wp2;refine wp_loop_rounds 3 ?_;rw[rounds_succ];go_wp2_with(go_at_call 59;refine(H1.out _ ?_).mono ?_;exact(Below.refl _ _).alloc (Nat.le_refl _) _;rintro e w1 ⟨rfl,hb1⟩);have hB1:Below w.heap.size w w1:=((Below.refl _ _).alloc (Nat.le_refl _) _).trans (hb1.mono (by rw[World.size_alloc];omega));obtain⟨j0,j1,j2,j3⟩:=HC.out w1 hB1;cases b2 with
  |false=>
   rw[rounds_succ];go_wp2_with(go_at_call 59;refine(H2.out _ ?_).mono ?_;exact hB1.alloc hB1.size _;rintro e w2 ⟨rfl,hb2⟩);go_ret;exact⟨rfl,(hB1.alloc hB1.size _).trans (hb2.mono (by rw[World.size_alloc];have:=hB1.size;omega))⟩
  |true=>
   rw[rounds_succ];go_wp2_with(go_at_call 59;refine(H2.out _ ?_).mono ?_;exact hB1.alloc hB1.size _;rintro e w2 ⟨rfl,hb2⟩);rw[rounds_succ];go_wp2;go_ret;exact⟨rfl,(hB1.alloc hB1.size _).trans (hb2.mono (by rw[World.size_alloc];have:=hB1.size;omega))⟩
end Go.Proofs.YtbffpkmfhkphdaaGreatDoor
namespace Go.Proofs.YtbffpkmfhkphdaaGreatDoor
open Go Go.RowKit Limb
structure At (w1 X:World) (l:List (Nat×Int)):Prop where
 below:Below w1.heap.size w1 X
 ints: ∀p∈l,IntAt X p.1 p.2∧w1.heap.size≤p.1
 nd:(l.map Prod.fst).Nodup
def upd(l:List (Nat×Int))(p:Nat)(z:Int):List (Nat×Int):=l.map fun q=>if q.1=p then(p,z)else q
theorem upd_fst(l:List (Nat×Int))(p:Nat)(z:Int):(upd l p z).map Prod.fst=l.map Prod.fst:=by
 unfold upd;rw[List.map_map];apply List.map_congr_left;intro q _;simp only[Function.comp];split<;>simp_all
theorem At.refl(w:World):At w w []:=⟨Below.refl _ _,fun p h=>by(cases h),by simp⟩
theorem At.next{w1 X X':World}{l:List (Nat×Int)}(h:At w1 X l)(hb:Below X.heap.size X X'):At w1 X' l:=
 ⟨h.below.trans (hb.mono h.below.size),fun p hp=>⟨(h.ints p hp).1.below hb,(h.ints p hp).2⟩,h.nd⟩
theorem At.alloc'{w1 X:World}{l:List (Nat×Int)}(h:At w1 X l)(o:Obj):At w1 (X.alloc o) l:=h.next ((Below.refl _ _).alloc (Nat.le_refl _) _)
theorem At.cons{w1 X X':World}{l:List (Nat×Int)}{p:Nat}{z:Int}(h:At w1 X l)(hb:Below X.heap.size X X')(hp:X.heap.size≤p)(hz:IntAt X' p z):At w1 X' ((p,z) :: l):=by
 refine⟨(h.next hb).below,?_,?_⟩
 ·intro q hq;rcases List.mem_cons.mp hq with rfl|hq
  ·exact⟨hz,Nat.le_trans h.below.size hp⟩
  ·exact(h.next hb).ints q hq
 ·rw[List.map_cons,List.nodup_cons];refine⟨fun hm=>?_,h.nd⟩;obtain⟨q,hq,e⟩:=List.mem_map.mp hm;have:=(h.ints q hq).1.lt;simp only at e;omega
theorem At.new{w1 X:World}{l:List (Nat×Int)}(h:At w1 X l):At w1 (X.alloc (.cells #[.bool false,.slice none 0 0] 117)) ((X.heap.size,0) :: l):=
 h.cons ((Below.refl _ _).alloc (Nat.le_refl _) _) (Nat.le_refl _) (IntAt.new X)
theorem At.set{w1 X X':World}{l:List (Nat×Int)}{p:Nat}{v z:Int}(h:At w1 X l)(hp:(p,v)∈l)(ho:Only [p] X X')(hz:IntAt X' p z):At w1 X' (upd l p z):=by
 refine⟨h.below.trans (ho.belowB h.below.size (by intro q hq;rw[List.mem_singleton]at hq;subst hq;exact(h.ints _ hp).2)),?_,by rw[upd_fst];exact h.nd⟩;intro q hq;obtain⟨r,hr,e⟩:=List.mem_map.mp hq;split at e
 ·subst e;exact⟨hz,(h.ints _ hp).2⟩
 ·subst e;rename_i hne;exact⟨(h.ints _ hr).1.only ho (by simp;exact hne) (IntBlocks.one (h.ints _ hp).1),(h.ints _ hr).2⟩
theorem mem_upd{l:List (Nat×Int)}{p:Nat}{v:Int}(z:Int)(h:(p,v)∈l):(p,z)∈upd l p z:=List.mem_map.mpr ⟨_,h,by simp⟩
theorem mem_upd_ne{l:List (Nat×Int)}{p q:Nat}{x:Int}(z:Int)(h:(q,x)∈l)(hn:q≠p):(q,x)∈upd l p z:=List.mem_map.mpr ⟨_,h,by simp[hn]⟩
theorem at_wide{w1 X:World}{l:List (Nat×Int)}(h:At w1 X l)(neg:Bool)(a:Option Addr)(ls:List Nat)(n cap:Nat)(hlay:Lay .u32 w1 a ls)(hlim:Lim ls)(hn:n=ls.length)(hm:n≤68719476736):Calls Tryz.prog 60 #[.agg #[.bool neg,.slice a n cap]] X fun e X'=> ∃p,e= .returned (.pointer (some ⟨p,0,none⟩))∧At w1 X' ((p,signed neg (val ls)) :: l):=by
 refine(large_wide X neg a ls n cap (hlay.below h.below) hlim hn hm).mono ?_;rintro e X' ⟨p,rfl,h1,h2,h3⟩;exact⟨p,rfl,h.cons h3 h1 h2⟩
theorem at_add{w1 X:World}{l:List (Nat×Int)}{p q r:Nat}{v x y:Int}(h:At w1 X l)(hp:(p,v)∈l)(hq:(q,x)∈l)(hr:(r,y)∈l)(hs:(rep x.natAbs).length≤68719476736)(ht:(rep y.natAbs).length≤68719476736):Calls Tryz.prog 72 #[.pointer (some ⟨p,0,none⟩),.pointer (some ⟨q,0,none⟩),.pointer (some ⟨r,0,none⟩)] X fun e X'=>e= .returned (.pointer (some ⟨p,0,none⟩))∧At w1 X' (upd l p (x+y)):=by
 refine(int_add X p q r v x y (h.ints _ hp).1 (h.ints _ hq).1 (h.ints _ hr).1 hs ht).mono ?_;rintro e X' ⟨rfl,h1,h2⟩;exact⟨rfl,h.set hp h2 h1⟩
theorem at_sub{w1 X:World}{l:List (Nat×Int)}{p q r:Nat}{v x y:Int}(h:At w1 X l)(hp:(p,v)∈l)(hq:(q,x)∈l)(hr:(r,y)∈l)(hs:(rep x.natAbs).length≤68719476736)(ht:(rep y.natAbs).length≤68719476736):Calls Tryz.prog 106 #[.pointer (some ⟨p,0,none⟩),.pointer (some ⟨q,0,none⟩),.pointer (some ⟨r,0,none⟩)] X fun e X'=>e= .returned (.pointer (some ⟨p,0,none⟩))∧At w1 X' (upd l p (x-y)):=by
 refine(int_sub X p q r v x y (h.ints _ hp).1 (h.ints _ hq).1 (h.ints _ hr).1 hs ht).mono ?_;rintro e X' ⟨rfl,h1,h2⟩;exact⟨rfl,h.set hp h2 h1⟩
def NarrowTo(X:World)(e:Ending)(z:Int):Prop:=
 (1024<(rep z.natAbs).length∧e= .returned (.tuple #[.agg #[.bool false,.slice none 0 0],.int .i64 2]))∨
  ((rep z.natAbs).length≤1024∧∃a cap,e= .returned (.tuple #[.agg #[.bool (decide (z<0)),.slice a (rep z.natAbs).length cap],.int .i64 0])∧(rep z.natAbs).length≤cap∧Lay .u32 X a (rep z.natAbs))
theorem at_narrow{w1 X:World}{l:List (Nat×Int)}{p:Nat}{z:Int}(h:At w1 X l)(hp:(p,z)∈l)(hs:(rep z.natAbs).length≤68719476736):Calls Tryz.prog 62 #[.pointer (some ⟨p,0,none⟩)] X fun e X'=>NarrowTo X' e z∧At w1 X' l:=by
 refine(large_narrow X p z (h.ints _ hp).1 hs).mono ?_;rintro e X' ⟨hb,h1⟩;refine⟨?_,h.next hb⟩;rcases h1 with⟨h1,h2⟩|⟨h1,v,h2,a,n,cap,h3,h4,h5,h6⟩
 ·exact .inl ⟨h1,h2⟩
 ·subst h4;exact .inr ⟨h1,a,cap,by rw[h2,h3],h5,h6⟩
theorem at_narrow_ok{w1 X:World}{l:List (Nat×Int)}{p:Nat}{z:Int}(h:At w1 X l)(hp:(p,z)∈l)(hs:(rep z.natAbs).length≤1024):Calls Tryz.prog 62 #[.pointer (some ⟨p,0,none⟩)] X fun e X'=>(∃a cap,e= .returned (.tuple #[.agg #[.bool (decide (z<0)),.slice a (rep z.natAbs).length cap],.int .i64 0])∧(rep z.natAbs).length≤cap∧Lay .u32 X' a (rep z.natAbs))∧At w1 X' l:=by
 refine(at_narrow h hp (Nat.le_trans hs (by decide))).mono ?_;rintro e X' ⟨h1,h2⟩;rcases h1 with⟨h1,_⟩|⟨_,h1⟩
 ·omega
 ·exact⟨h1,h2⟩
theorem at_narrow_ok2{w1 X:World}{l:List (Nat×Int)}{p:Nat}{z:Int}(h:At w1 X l)(hp:(p,z)∈l)(hs:(rep z.natAbs).length≤1024):Calls Tryz.prog 62 #[.pointer (some ⟨p,0,none⟩)] X fun e X'=>(∃a cap,e= .returned (.tuple #[.agg #[.bool (decide (z<0)),.slice a (rep z.natAbs).length cap],.int .i64 0])∧(rep z.natAbs).length≤cap∧Lay .u32 X' a (rep z.natAbs))∧At w1 X' l∧Below X.heap.size X X':=by
 refine(large_narrow X p z (h.ints _ hp).1 (Nat.le_trans hs (by decide))).mono ?_;rintro e X' ⟨hb,⟨h1,_⟩|⟨h1,v,h2,a,n,cap,h3,h4,h5,h6⟩⟩
 ·omega
 ·subst h4;exact⟨⟨a,cap,by rw[h2,h3],h5,h6⟩,h.next hb,hb⟩
theorem Lay.notPair{K:IntKind}{w:World}{a:Option Addr}{l:List Nat}{g:Nat}{e:TypeId}{b:Bool}{a':Option Addr}{n' c':Nat}(h:Lay K w a l)(hr:Row w g e [.bool b,.slice a' n' c']):0<l.length→∀b off,a=some ⟨b,off,none⟩→b∉[g]:=by
 intro hl b0 off e0 hm;rw[List.mem_singleton]at hm;obtain⟨b',off',h1,h2⟩:=h;have h3:=(h1 hl).1;rw[e0]at h3;simp only[Option.some.injEq,Addr.mk.injEq,and_true]at h3;obtain⟨rfl,rfl⟩:=h3;have h4:=h2 0 hl;rw[hm,hr.cell_at]at h4
 match off,h4 with
 |0,h4=>simp at h4
 |1,h4=>simp at h4
 |n+2,h4=>simp at h4
theorem Lay.pair{K:IntKind}{w:World}{a:Option Addr}{l:List Nat}{g:Nat}{e:TypeId}{b:Bool}{a':Option Addr}{n' c':Nat}(h:Lay K w a l)(hr:Row w g e [.bool b,.slice a' n' c'])(u v:Value):Lay K ((w.setCell ⟨g,0,none⟩ u).setCell ⟨g,1,none⟩ v) a l:=
 h.only (((Only.refl [g] w).setCell (by simp) u).setCell (by simp) v) (h.notPair hr)
end Go.Proofs.YtbffpkmfhkphdaaGreatDoor
namespace Go.Proofs.YtbffpkmfhkphdaaGreatDoor
open Go Lib Go.RowKit Limb
theorem u64_nat{n:Nat}(h:n<9223372036854775808):IntKind.u64.wrap (n:Int)=n:=by
 simp only[IntKind.wrap,IntKind.signed,IntKind.bits,Bool.false_and,Bool.false_eq_true,if_false];omega
theorem u64_neg{n:Nat}(h:n≤9223372036854775808):IntKind.u64.wrap (-(IntKind.u64.wrap (-(n:Int))))=n:=by
 simp only[IntKind.wrap,IntKind.signed,IntKind.bits,Bool.false_and,Bool.false_eq_true,if_false];omega
theorem int_setint(w:World)(p:Nat)(y v:Int)(hp:IntAt w p y)(h1: -9223372036854775808≤v)(h2:v≤9223372036854775807):Calls Tryz.prog 154 #[.pointer (some ⟨p,0,none⟩),.int .i64 v] w fun e w'=>IntRes w w' e p v:=by
 by_cases hv:v<0
 ·obtain⟨n,hn⟩: ∃n:Nat,v= -(n:Int):=⟨v.natAbs,by omega⟩;have hd:decide (v<0)=true:=by simpa using hv
  have hw:IntKind.u64.wrap (-(IntKind.u64.wrap v))=n:=(by rw[hn];exact u64_neg (by omega));have hna:v.natAbs=n:=by omega
  have hB:=fun W=>big_word W n (by omega)
  have HB:=hid hB;clear hB;have Hna:=hid hna;clear hna hn;go_enter Tryz.func154,Tryz.ntmps154;go_wp2_with fail;refine(HB.out _).mono ?_;rintro e w1 ⟨a,c,rfl,g1,g2,g3,g4⟩;rw[←Hna.out]at g1 g3 ⊢;go_wp2_with fail;refine(big_made _ p y v true a _ c (hp.below g4) g3 rfl g1 ⟨fun _=>by omega,(fun h=>by(cases h))⟩).mono ?_;rintro e w2 ⟨rfl,k1,k2⟩;go_wp2;go_ret;exact⟨rfl,k1,(Only.of_below g4).trans k2 (by simp)⟩
 ·obtain⟨n,hn⟩: ∃n:Nat,v=(n:Int):=⟨v.natAbs,by omega⟩;have hd:decide (v<0)=false:=by simpa using hv
  have hw:IntKind.u64.wrap v=n:=(by rw[hn];exact u64_nat (by omega));have hna:v.natAbs=n:=by omega
  have hB:=fun W=>big_word W n (by omega)
  have HB:=hid hB;clear hB;have Hna:=hid hna;clear hna hn;go_enter Tryz.func154,Tryz.ntmps154;go_wp2_with fail;refine(HB.out _).mono ?_;rintro e w1 ⟨a,c,rfl,g1,g2,g3,g4⟩;rw[←Hna.out]at g1 g3 ⊢;go_wp2_with fail;refine(big_made _ p y v false a _ c (hp.below g4) g3 rfl g1 ⟨(fun h=>by(cases h)),fun _=>by omega⟩).mono ?_;rintro e w2 ⟨rfl,k1,k2⟩;go_wp2;go_ret;exact⟨rfl,k1,(Only.of_below g4).trans k2 (by simp)⟩
theorem big_newint(w:World)(v:Int)(h1: -9223372036854775808≤v)(h2:v≤9223372036854775807):Calls Tryz.prog 73 #[.int .i64 v] w fun e w'=> ∃p,e= .returned (.pointer (some ⟨p,0,none⟩))∧w.heap.size≤p∧IntAt w' p v∧Below w.heap.size w w':=by
 have HS:=hid (int_setint (w.alloc (.cells #[.bool false,.slice none 0 0] 117)) w.heap.size 0 v (IntAt.new w) h1 h2);go_enter Tryz.func73,Tryz.ntmps73;go_wp2_with fail;refine HS.out.mono ?_;rintro e w1 ⟨rfl,k1,k2⟩;go_wp2;go_ret;exact⟨_,rfl,Nat.le_refl _,k1,((Below.refl _ _).alloc (Nat.le_refl _) _).trans (k2.belowB (by rw[World.size_alloc];omega) (by simp))⟩
theorem at_newint{w1 X:World}{l:List (Nat×Int)}(h:At w1 X l)(v:Int)(h1: -9223372036854775808≤v)(h2:v≤9223372036854775807):Calls Tryz.prog 73 #[.int .i64 v] X fun e X'=> ∃p,e= .returned (.pointer (some ⟨p,0,none⟩))∧At w1 X' ((p,v) :: l):=by
 refine(big_newint X v h1 h2).mono ?_;rintro e X' ⟨p,rfl,k1,k2,k3⟩;exact⟨p,rfl,h.cons k3 k1 k2⟩
theorem at_quorem{w1 X:World}{l:List (Nat×Int)}{p q r s:Nat}{v u x y:Int}(h:At w1 X l)(hp:(p,v)∈l)(hq:(q,x)∈l)(hr:(r,y)∈l)(hs:(s,u)∈l)(hne:(l.map Prod.fst).Nodup→p≠s)(hy:y≠0)(lx:(rep x.natAbs).length≤68719476736)(ly:(rep y.natAbs).length≤68719476736):Calls Tryz.prog 166 #[.pointer (some ⟨p,0,none⟩),.pointer (some ⟨q,0,none⟩),.pointer (some ⟨r,0,none⟩),.pointer (some ⟨s,0,none⟩)] X fun e X'=>e= .returned (.tuple #[.pointer (some ⟨p,0,none⟩),.pointer (some ⟨s,0,none⟩)])∧At w1 X' (upd (upd l p (x.tdiv y)) s (x.tmod y)):=by
 refine(int_quorem X p q r s v u x y (h.ints _ hp).1 (h.ints _ hq).1 (h.ints _ hr).1 (h.ints _ hs).1 (hne h.nd) hy lx ly).mono ?_;rintro e X' ⟨rfl,k1,k2,k3⟩;refine⟨rfl,?_,?_,by rw[upd_fst,upd_fst];exact h.nd⟩
 ·exact h.below.trans (k3.belowB h.below.size (by intro q hq;simp only[List.mem_cons,List.not_mem_nil,or_false]at hq;rcases hq with rfl|rfl;exact(h.ints _ hp).2;exact(h.ints _ hs).2))
 ·have hib:IntBlocks X [p,s]:=by
   intro b hb;simp only[List.mem_cons,List.not_mem_nil,or_false]at hb;rcases hb with rfl|rfl
   ·exact⟨_,(h.ints _ hp).1⟩
   ·exact⟨_,(h.ints _ hs).1⟩
  intro b hb;obtain⟨c,hc,e⟩:=List.mem_map.mp hb;split at e
  ·subst e;exact⟨k2,(h.ints _ hs).2⟩
  ·rename_i hcs;subst e;obtain⟨d,hd,e⟩:=List.mem_map.mp hc;split at e
   ·subst e;exact⟨k1,(h.ints _ hp).2⟩
   ·rename_i hcp;subst e;exact⟨(h.ints _ hd).1.only k3 (by simp;exact⟨hcp,hcs⟩) hib,(h.ints _ hd).2⟩
theorem at_sign{w1 X:World}{l:List (Nat×Int)}{p:Nat}{z:Int}(h:At w1 X l)(hp:(p,z)∈l):Calls Tryz.prog 61 #[.pointer (some ⟨p,0,none⟩)] X fun e X'=>e= .returned (.int .i64 (sgnI z))∧X=X':=int_sign X p z (h.ints _ hp).1
end Go.Proofs.YtbffpkmfhkphdaaGreatDoor
namespace Go.Proofs.YtbffpkmfhkphdaaGreatDoor
open Go Go.RowKit Limb
def errRange:Ending:= .returned (.tuple #[.agg #[.bool false,.slice none 0 0],.int .i64 1])
def Answer(ok:Bool)(w w':World)(e:Ending)(z:Int):Prop:=if ok=true then ApiRes w w' e z else e=errRange∧Below w.heap.size w w'
theorem Answer.yes{w w':World}{e:Ending}{z:Int}(h:ApiRes w w' e z):Answer true w w' e z:=h
theorem rows3(w:World)(t:TypeId)(a0 a1 b0 b1 c0 c1:Value):Row (((w.alloc (.cells #[a0,a1] t)).alloc (.cells #[b0,b1] t)).alloc (.cells #[c0,c1] t)) w.heap.size t [a0,a1]∧Row (((w.alloc (.cells #[a0,a1] t)).alloc (.cells #[b0,b1] t)).alloc (.cells #[c0,c1] t)) (w.heap.size+1) t [b0,b1]∧Row (((w.alloc (.cells #[a0,a1] t)).alloc (.cells #[b0,b1] t)).alloc (.cells #[c0,c1] t)) (w.heap.size+1+1) t [c0,c1]∧Below w.heap.size w (((w.alloc (.cells #[a0,a1] t)).alloc (.cells #[b0,b1] t)).alloc (.cells #[c0,c1] t))∧(((w.alloc (.cells #[a0,a1] t)).alloc (.cells #[b0,b1] t)).alloc (.cells #[c0,c1] t)).heap.size=w.heap.size+1+1+1:=by
 have s1:=World.size_alloc w (.cells #[a0,a1] t);have s2:=World.size_alloc (w.alloc (.cells #[a0,a1] t)) (.cells #[b0,b1] t);have s3:=World.size_alloc ((w.alloc (.cells #[a0,a1] t)).alloc (.cells #[b0,b1] t)) (.cells #[c0,c1] t);refine⟨?_,?_,?_,(((Below.refl _ _).alloc (Nat.le_refl _) _).alloc (by omega) _).alloc (by omega) _,by omega⟩
 ·refine Row.alloc (Row.alloc ?_ _) _;unfold Row;exact heap_alloc_new _ _
 ·refine Row.alloc ?_ _;unfold Row;have:=heap_alloc_new (w.alloc (.cells #[a0,a1] t)) (.cells #[b0,b1] t);rw[s1]at this;exact this
 ·unfold Row;have:=heap_alloc_new ((w.alloc (.cells #[a0,a1] t)).alloc (.cells #[b0,b1] t)) (.cells #[c0,c1] t);rw[show((w.alloc (.cells #[a0,a1] t)).alloc (.cells #[b0,b1] t)).heap.size=w.heap.size+1+1 from by omega]at this;exact this
theorem row2slice(w:World)(t:TypeId)(cs:Array Value):Row (w.alloc (.cells cs t)) w.heap.size t cs.toList:=by unfold Row;exact heap_alloc_new _ _
end Go.Proofs.YtbffpkmfhkphdaaGreatDoor
namespace Go.Proofs.YtbffpkmfhkphdaaGreatDoor
open Limb
def dquo(floor:Bool)(x y:Int):Int:=if floor=true then x.fdiv y else x.tdiv y
def drem(floor:Bool)(x y:Int):Int:=if floor=true then x.fmod y else x.tmod y
theorem sgnI_eq{a b:Int}:(sgnI a=sgnI b)↔((a<0↔b<0)∧(a=0↔b=0)):=by
 unfold sgnI;constructor
 ·intro h;split at h<;>split at h<;>(try split at h)<;>(try split at h)<;>omega
 ·rintro⟨h1,h2⟩;by_cases ha:a<0
  ·rw[if_pos ha,if_pos (h1.mp ha)]
  ·rw[if_neg ha,if_neg (fun h=>ha (h1.mpr h))];by_cases h0:a=0
   ·rw[if_pos h0,if_pos (h2.mp h0)]
   ·rw[if_neg h0,if_neg (fun h=>h0 (h2.mpr h))]
theorem sgnI_zero{a:Int}:sgnI a=0↔a=0:=by
 unfold sgnI;split<;>(try split)<;>omega
theorem tmod_bound(x:Int){y:Int}(hy:y≠0):(x.tmod y).natAbs<y.natAbs:=by
 rw[tmod_abs];exact Nat.mod_lt _ (by omega)
theorem floor_fix{x y:Int}(hy:y≠0):(sgnI (x.tmod y)≠0→sgnI (x.tmod y)≠sgnI y→x.fdiv y=x.tdiv y-1∧x.fmod y=x.tmod y+y)∧((sgnI (x.tmod y)=0∨sgnI (x.tmod y)=sgnI y)→x.fdiv y=x.tdiv y∧x.fmod y=x.tmod y):=by
 have e:=Int.mul_tdiv_add_tmod x y;have hb:=tmod_bound x hy;generalize x.tdiv y=q at e hb ⊢;generalize x.tmod y=r at e hb ⊢;have e2:y*(q-1)=y*q-y:=by rw[Int.mul_sub,Int.mul_one]
 rw[Ne,Ne,sgnI_zero,sgnI_eq];constructor
 ·intro h1 h2;by_cases hp:0<y
  ·exact(Int.fdiv_fmod_unique hp).mpr ⟨by omega,by omega,by omega⟩
  ·exact(Int.fdiv_fmod_unique' (by omega)).mpr ⟨by omega,by omega,by omega⟩
 ·intro h;by_cases hp:0<y
  ·exact(Int.fdiv_fmod_unique hp).mpr ⟨by omega,by omega,by omega⟩
  ·exact(Int.fdiv_fmod_unique' (by omega)).mpr ⟨by omega,by omega,by omega⟩
theorem dquo_abs(f:Bool)(x:Int){y:Int}(hy:y≠0):(dquo f x y).natAbs≤x.natAbs:=by
 have e:=Int.mul_tdiv_add_tmod x y;have ha:(x.tdiv y).natAbs=x.natAbs/y.natAbs:=tdiv_abs x y;have hle:x.natAbs/y.natAbs≤x.natAbs:=Nat.div_le_self _ _;unfold dquo;cases f
 ·rw[if_neg (by decide)];omega
 ·rw[if_pos rfl];by_cases h:sgnI (x.tmod y)=0∨sgnI (x.tmod y)=sgnI y
  ·rw[((floor_fix hy).2 h).1];omega
  ·simp only[not_or]at h;rw[((floor_fix hy).1 h.1 h.2).1];have h0:x.tmod y≠0:=fun e=>h.1 (sgnI_zero.mpr e)
   have hb:=tmod_bound x hy;have hy2:2≤y.natAbs:=by omega
   have hx:x≠0:=by rintro rfl;simp at h0
   have hd:2*(x.natAbs/y.natAbs)≤x.natAbs:=by
    have:=Nat.div_mul_le_self x.natAbs y.natAbs;have h3:x.natAbs/y.natAbs*2≤x.natAbs/y.natAbs*y.natAbs:=Nat.mul_le_mul_left _ hy2;omega
   omega
theorem drem_abs(f:Bool)(x:Int){y:Int}(hy:y≠0):(drem f x y).natAbs<y.natAbs:=by
 have hb:=tmod_bound x hy;unfold drem;cases f
 ·rw[if_neg (by decide)];exact hb
 ·rw[if_pos rfl];by_cases hp:0<y
  ·have h1:=Int.fmod_nonneg_of_pos x hp;have h2:=Int.fmod_lt_of_pos x hp;omega
  ·have e:=(Int.fdiv_fmod_unique' (a:=x) (b:=y) (r:=x.fmod y) (q:=x.fdiv y) (by omega)).mp ⟨rfl,rfl⟩;omega
end Go.Proofs.YtbffpkmfhkphdaaGreatDoor
namespace Go.Proofs.YtbffpkmfhkphdaaGreatDoor
open Go Lib Go.RowKit Limb
theorem big_text0(w:World)(a:Option Addr)(c:Nat)(b:Int):Calls Tryz.prog 174 #[.slice a 0 c,.int .i64 b] w fun e w'=>(∃s,e= .returned (.string s)∧s.data.toList=([48]:List Nat).map UInt8.ofNat)∧Below w.heap.size w w':=by
 go_enter Tryz.func174,Tryz.ntmps174;go_wp2_with fail;go_ret;exact⟨⟨_,rfl,rfl⟩,Below.refl _ _⟩
theorem big_text_any(w:World)(a:Option Addr)(n c N b:Nat)(ha:Lay .u32 w a (rep N))(hn:n=(rep N).length)(h2:2≤b)(h36:b≤36)(lx:n≤68719476736):Calls Tryz.prog 174 #[.slice a n c,.int .i64 b] w fun e w'=>(∃s,e= .returned (.string s)∧s.data.toList=(txt b N).map UInt8.ofNat)∧Below w.heap.size w w':=by
 by_cases hN:N=0
 ·subst hN;have:n=0:=hn;subst this;exact big_text0 w a c b
 ·exact big_text w a n c N b ha hn hN h2 h36 lx
def ztxt(b:Nat)(z:Int):List Nat:=if z<0 then 45 :: txt b z.natAbs else txt b z.natAbs
theorem txt_length{b:Nat}(hb:2≤b)(N k:Nat)(h:N<2^k):(txt b N).length≤k+1:=by
 unfold txt;split
 ·simp
 ·have:=digs_length hb N k h;simp;omega
theorem txt_len_rep{b:Nat}(hb:2≤b)(N n:Nat)(hn:n=(rep N).length):(txt b N).length≤32*n+1:=
 txt_length hb N (32*n) (by have:=rep_len_hi N;rw[←hn,W_two]at this;exact this)
theorem int_text(w:World)(p:Nat)(z:Int)(b:Nat)(hp:IntAt w p z)(h2:2≤b)(h36:b≤36)(lx:(rep z.natAbs).length≤68719476736):Calls Tryz.prog 93 #[.pointer (some ⟨p,0,none⟩),.int .i64 b] w fun e w'=>(∃s,e= .returned (.string s)∧s.data.toList=(ztxt b z).map UInt8.ofNat)∧Below w.heap.size w w':=by
 obtain⟨b1,a1,n1,cap1,Hb1,Hn1,hc1,hl1,hcells1⟩:=hp.use;obtain⟨c0,c1⟩:=hcells1 w (Only.refl _ _);clear hcells1;rw[←Hn1.out]at lx;have hl:=txt_len_rep h2 z.natAbs n1 Hn1.out;have htx:=big_text_any w a1 n1 cap1 z.natAbs b hl1 Hn1.out h2 h36 lx;have HT:=hid htx;clear htx;by_cases hx:z<0
 ·obtain rfl:b1=true:=by rw[Hb1.out];simpa using hx
  have e0:ztxt b z=45 :: txt b z.natAbs:=(by unfold ztxt;rw[if_pos hx]);rw[e0];clear e0 hx;go_enter Tryz.func93,Tryz.ntmps93;go_wp2_with fail;refine HT.out.mono ?_;rintro e w1 ⟨⟨s,rfl,hs⟩,hb⟩
  have hsz:s.size≤9223372036854775806:=by
   rw[ByteArray.size,←Array.length_toList,hs,List.length_map];omega
  have Hs:=hid hs;clear hs;go_wp2_with fail;go_ret;refine⟨⟨_,rfl,?_⟩,hb⟩;rw[List.map_cons,←Hs.out];simp
 ·obtain rfl:b1=false:=by rw[Hb1.out];simpa using hx
  have e0:ztxt b z=txt b z.natAbs:=(by unfold ztxt;rw[if_neg hx]);rw[e0];clear e0 hx;go_enter Tryz.func93,Tryz.ntmps93;go_wp2_with fail;refine HT.out.mono ?_;rintro e w1 ⟨⟨s,rfl,hs⟩,hb⟩;go_wp2_with fail;go_ret;exact⟨⟨s,rfl,hs⟩,hb⟩
def utxt(b:Nat)(z:Int):List UInt8:=Lib.toUpperA ((ztxt b z).map UInt8.ofNat)
theorem txt_lt{b:Nat}(h2:2≤b)(h36:b≤36)(N:Nat): ∀x∈txt b N,x<128:=by
 unfold txt;split
 ·intro x hx;simp at hx;omega
 ·intro x hx;obtain⟨d,hd,rfl⟩:=List.mem_map.1 hx;have:=digs_lt h2 N d (List.mem_reverse.1 hd);unfold sgn;split<;>omega
theorem ztxt_lt{b:Nat}(h2:2≤b)(h36:b≤36)(z:Int): ∀x∈ztxt b z,x<128:=by
 unfold ztxt;split
 ·intro x hx;rcases List.mem_cons.1 hx with rfl|hx
  ·omega
  ·exact txt_lt h2 h36 _ x hx
 ·exact txt_lt h2 h36 _
theorem ascii_of{l:List Nat}{s:ByteArray}(hs:s.data.toList=l.map UInt8.ofNat)(h: ∀x∈l,x<128): ∀(j:Nat) (c:UInt8),s.data.toList[j]? =some c→c.toNat<128:=by
 intro j c hc;rw[hs,List.getElem?_map]at hc
 cases hl:l[j]? with
 |none=>rw[hl]at hc;cases hc
 |some x=>
  rw[hl]at hc;have:UInt8.ofNat x=c:=by simpa using hc
  subst this;have:=h x (List.mem_of_getElem? hl);rw[UInt8.toNat_ofNat'];omega
theorem signed_abs'(neg:Bool)(n:Nat):(signed neg n).natAbs=n:=by unfold signed;split<;>omega
theorem large_print_ok(w:World)(neg:Bool)(a:Option Addr)(l:List Nat)(n cap b:Nat)(hlay:Lay .u32 w a l)(hlim:Lim l)(hn:n=l.length)(hmay:mayB neg l=true)(h2:2≤b)(h36:b≤36):Calls Tryz.prog 29 #[.agg #[.bool neg,.slice a n cap],.int .i64 b] w fun e w'=>(∃s,e= .returned (.tuple #[.string s,.int .i64 0])∧s.data.toList=utxt b (signed neg (val l)))∧Below w.heap.size w w':=by
 have hn10:n≤1024:=by rw[hn];exact(mayB_int hlim hmay).2.2
 have hMay:=fun W (h:Below w.heap.size w W)=>large_May W neg a l n cap (hlay.below h) hlim hn (by omega)
 rw[hmay]at hMay;have hWide:=fun W (h:Below w.heap.size w W)=>large_wide W neg a l n cap (hlay.below h) hlim hn (by omega)
 have lz:(rep (signed neg (val l)).natAbs).length≤1024:=by
  rw[signed_abs'];exact Nat.le_trans (rep_val_le hlim) (by omega)
 have hTx:=fun W p (h:IntAt W p (signed neg (val l)))=>int_text W p (signed neg (val l)) b h h2 h36 (Nat.le_trans lz (by decide))
 have HM:=hid hMay;clear hMay;have HW:=hid hWide;clear hWide;have HT:=hid hTx;clear hTx
 have Hlen:Hid (∀s:ByteArray,s.data.toList=(ztxt b (signed neg (val l))).map UInt8.ofNat→s.size≤140737488355328):=hid (fun s hs=>by
  rw[ByteArray.size,←Array.length_toList,hs,List.length_map];have h:=txt_len_rep h2 (signed neg (val l)).natAbs _ rfl;unfold ztxt;split
  ·rw[List.length_cons];omega
  ·omega)
 clear hn hmay hlim lz;obtain⟨z,hz⟩: ∃z,z=signed neg (val l):=⟨_,rfl⟩;rw[←hz]at HW HT Hlen ⊢;clear hz;have d1:decide (b<2)=false:=by rw[decide_eq_false_iff_not];omega
 have d2:decide (36<b)=false:=by rw[decide_eq_false_iff_not];omega
 go_enter Tryz.func29,Tryz.ntmps29;go_wp2_with fail;have hB0:Below w.heap.size w (w.alloc (.cells #[.bool neg,.slice a n cap] 24)):=(Below.refl _ _).alloc (Nat.le_refl _) _;have hbox:Row (w.alloc (.cells #[.bool neg,.slice a n cap] 24)) w.heap.size 24 [.bool neg,.slice a n cap]:=by unfold Row;exact heap_alloc_new _ _
 refine(HM.out _ hB0).mono ?_;rintro e w1 ⟨rfl,hb1⟩;have hB1:Below w.heap.size w w1:=hB0.trans (hb1.mono hB0.size);have hbox1:=hbox.below hb1 hbox.lt;have c0:=hbox1.cell_at 0;have c1:=hbox1.cell_at 1;simp only[yB,yC]at c0 c1;go_wp2_with fail;refine(HW.out _ hB1).mono ?_;rintro e w2 ⟨p,rfl,hpp,hp,hb2'⟩;go_wp2_with fail;refine(HT.out _ p hp).mono ?_;rintro e w3 ⟨⟨s,rfl,hs⟩,hb3⟩;have Hs:=hid hs;clear hs;go_wp2_with fail;refine(Tryz.strings_ToUpper_ascii s _ (Hlen.out s Hs.out) (ascii_of Hs.out (ztxt_lt h2 h36 z))).mono ?_;rintro e w4 ⟨rfl,hb4⟩;go_wp2_with fail;go_ret2;exact⟨⟨_,rfl,by rw[Hs.out];rfl⟩,((hB1.trans (hb2'.mono hB1.size)).trans (hb3.mono (by have:=hB1.size;have:=hb2'.size;omega))).trans (hb4.mono (by have:=hB1.size;have:=hb2'.size;have:=hb3.size;omega))⟩
end Go.Proofs.YtbffpkmfhkphdaaGreatDoor

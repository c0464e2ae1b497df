/- The walk of big.quotient: a long division. What the kernel's calls keep of a heap: its roots, and which objects there are. The kernel's boot, evaluated: the program's order of steps and the document's come to one heap. -/
import Derived.Test.YtbffpkmfhkphdaaGreatDoorGX02
import Derived.Test.YtbffpkmfhkphdaaGreatDoorGX05
import Derived.Test.YtbffpkmfhkphdaaGreatDoorGX03
set_option linter.unusedVariables false
set_option linter.unusedSimpArgs false
set_option maxRecDepth 1000000
set_option maxHeartbeats 6400000
namespace Go.Proofs.YtbffpkmfhkphdaaGreatDoor
open Go Lib Go.RowKit Limb
theorem Lay.grown{K:IntKind}{w w':World}{a:Option Addr}{l:List Nat}{g:Nat}(h:Lay K w a l)(hg:w.grownBy w' (some g))(hne: ∀b off,a=some ⟨b,off,none⟩→b≠g):Lay K w' a l:=by
 obtain⟨b,off,h1,h2⟩:=h;refine⟨b,off,fun hl=>⟨(h1 hl).1,by have:=hg.size;have:=(h1 hl).2;omega⟩,fun i hi=>?_⟩;have h3:=h1 (by omega);rw[←h2 i hi];exact World.cell?_of_block (hg.block b h3.2 (fun e=>hne b off h3.1 (by injection e)))
theorem Lay.other{K:IntKind}{w:World}{a:Option Addr}{l:List Nat}{g:Nat}(h:Lay K w a l)(hne: ∀b off,a=some ⟨b,off,none⟩→b≠g)(i:Nat)(v:Value):Lay K (w.setCell ⟨g,i,none⟩ v) a l:=
 h.grown (grown_store (World.grownBy.refl _ _) i v) hne
theorem Row.grown{w w':World}{g h:Nat}{e:TypeId}{cs:List Value}(hr:Row w h e cs)(hg:w.grownBy w' (some g))(hne:h≠g):Row w' h e cs:=by
 have:=hr.lt;unfold Row at*;rw[hg.block h this (fun e=>hne (by injection e))];exact hr
theorem below_of_grown{w w':World}{g B:Nat}(hg:w.grownBy w' (some g))(hB:B≤g)(hs:B≤w.heap.size):Below B w w':=
 ⟨hg.os,hg.tape,hg.output,hg.size,fun k hk=>hg.block k (by omega) (fun e=>by injection e;omega)⟩
theorem Lay.block_lt{K:IntKind}{w:World}{a:Option Addr}{l:List Nat}(h:Lay K w a l)(hl:0<l.length): ∀b off,a=some ⟨b,off,none⟩→b<w.heap.size:=by
 obtain⟨b',off',h1,_⟩:=h;intro b off e;have:=h1 hl;rw[e]at this;have h3:=this.1;simp only[Option.some.injEq,Addr.mk.injEq,and_true]at h3;rw[h3.1];exact this.2
theorem Lay.olds{K:IntKind}{w:World}{a:Option Addr}{l:List Nat}(h:Lay K w a l): ∀b,a=some b→∀j u,(nums K l)[j]? =some u→w.cell? (b.add j)=some u:=by
 intro b hb j u hj;have hjl:j<l.length:=by have:=(List.getElem?_eq_some_iff.1 hj).1;rwa [nums_length]at this
 obtain⟨b',off',h1,h2⟩:=h;have h3:=(h1 (by omega)).1;rw[hb]at h3;obtain rfl:=Option.some.inj h3;rw[nums_get hjl]at hj;rw[Addr.add_lit,h2 j hjl];exact hj
theorem below_over{w w':World}{o:Obj}(h:Below (w.alloc o).heap.size (w.alloc o) w'):Below w.heap.size w w':=
 ((Below.refl _ _).alloc (Nat.le_refl _) o).trans (h.mono (by rw[World.size_alloc];omega))
theorem belc{w0 w1 w2:World}(h1:Below w0.heap.size w0 w1)(h2:Below w1.heap.size w1 w2):Below w0.heap.size w0 w2:=h1.trans (h2.mono h1.size)
theorem wpList_append_new{P:Program}{w:World}{ops:Array Oper}{rest:List Oper}{o:Oper}{a:Act}{Q:Exit→Act→World→Prop}(hg:o.guard=none)(s x:Operand)(t:TypeId)(hop:o.op=Op.call {callee:=Callee.builtin Builtin.append,args:= #[s,x],argTypes:= #[t,t]})(e:TypeId)(z:Value)(bytes:Nat)(h1:P.underlying t=some (.slice e))(h2:(P.info? e).map (fun i=>(i.zero,i.size,i.bytes))=some (some z,1,bytes))(h6:z.cells.size=1)(K:IntKind)(ao:Option Addr)(n cap:Nat)(l:List Nat)(hs:a.eval s= .slice ao n cap)(hlay:Lay K w ao l)(hl:n=l.length)(hn0:0<n)(ad:Addr)(m c:Nat)(news:List Value)(hx:a.eval x= .slice (some ad) m c)(hn:news.length=m)(hc: ∀j u,news[j]? =some u→w.cell? (ad.add j)=some u)(h1c: ∀u∈news,u.oneCell'=true)(hfull:cap<n+m)(b1:n+m≤9223372036854775807)(b2:(n+m)*bytes≤140737488355328)(hK: ∀g cs cap' w',w.heap.size≤g→Row w' g e cs→cs.length=cap'→n+m≤cap'→cs.take (n+m)=nums K l++news→Below w.heap.size w w'→wpList P ops Q rest (a.put o.dst (.slice (some ⟨g,0,none⟩) (n+m) cap')) w'):wpList P ops Q (o :: rest) a w:=by
 obtain⟨i,hi,hz0,hsz,hbt⟩:=info_parts h2;refine wpList_append_grows w hg s x t hop e i z 1 bytes h1 hi hz0 hsz hbt h6 (by decide) ao n cap (nums K l) hs ?_ (by rw[nums_length,hl,Nat.mul_one]) hlay.olds ad m c news hx (by rw[hn,Nat.mul_one]) hc h1c hfull b1 b2 ?_
 ·intro h;obtain⟨b',off',h1,_⟩:=hlay;have:=(h1 (by omega)).1;rw[h]at this;cases this
 ·intro v' w' hown hgr;rcases hown.2 with⟨_,h0⟩|⟨g,cap',cur,rfl,hbg,hh,hc1,_,hc3,hc4⟩
  ·omega
  ·rw[Nat.mul_one]at hc3 hc4;refine hK g cur.toList cap' w' hbg (by unfold Row;simpa using hh) (by simpa using hc3) hc1 hc4 ?_;exact⟨hgr.os,hgr.tape,hgr.output,hgr.size,fun k hk=>hgr.block k hk (by simp)⟩
theorem left_v(w:World)(b:Option Addr)(ys:List Nat)(m cb s:Nat)(hb:Lay .u32 w b ys)(hy:Lim ys)(hm:m=ys.length)(lm:m≤274877906944)(ls:s≤4294967296)(hup:(rep (val ys*2^s)).length=m):Calls Tryz.prog 149 #[.slice b m cb,.int .u64 s] w fun e w'=> ∃av cv,e= .returned (.slice av m cv)∧Lay .u32 w' av (rep (val ys*2^s))∧Below w.heap.size w w':=
 (big_left w b ys m cb s hb hy hm (by omega) ls).mono fun e w' ⟨av,cv,h1,_,_,h4,h5⟩=>⟨av,cv,by rw[h1,hup],h4,h5⟩
theorem left_u(w:World)(b:Option Addr)(xs:List Nat)(n cb s:Nat)(hb:Lay .u32 w b xs)(hx:Lim xs)(hn:n=xs.length)(ln:n≤274877906944)(ls:s≤31):Calls Tryz.prog 149 #[.slice b n cb,.int .u64 s] w fun e w'=> ∃au p cu,e= .returned (.slice au p cu)∧Lay .u32 w' au (rep (val xs*2^s))∧p=(rep (val xs*2^s)).length∧cu≤n+1∧Below w.heap.size w w':=
 (big_left w b xs n cb s hb hx hn (by omega) (by omega)).mono fun e w' ⟨av,cv,h1,_,h3,h4,h5⟩=>⟨av,_,cv,h1,h4,rfl,by omega,h5⟩
def NatRes2(w w':World)(e:Ending)(p q:Nat):Prop:=
 ∃a ca b cb,e= .returned (.tuple #[.slice a (rep p).length ca,.slice b (rep q).length cb])∧(rep p).length≤ca∧(rep q).length≤cb∧Lay .u32 w' a (rep p)∧Lay .u32 w' b (rep q)∧Below w.heap.size w w'
theorem big_quotient(w:World)(a b:Option Addr)(xs ys:List Nat)(n m ca cb:Nat)(ha:Lay .u32 w a xs)(hb:Lay .u32 w b ys)(hx:Lim xs)(hy:Lim ys)(nx:Norm xs)(ny:Norm ys)(hn:n=xs.length)(hm:m=ys.length)(ln:n≤274877906944)(lm:m≤274877906944)(hca:n≤ca)(hpos:0<val ys):Calls Tryz.prog 162 #[.slice a n ca,.slice b m cb] w fun e w'=>NatRes2 w w' e (val xs/val ys) (val xs%val ys):=by
 by_cases hlt:val xs<val ys
 ·have hc1:cmpI (val xs) (val ys)= -1:=(by unfold cmpI;rw[if_pos hlt]);have hd0:=hid (Nat.div_eq_of_lt hlt);have hd1:=hid (Nat.mod_eq_of_lt hlt);have hxr:=hid (rep_val hx nx);have hcmp:=big_compare w a b xs ys n m ca cb ha hb hx hy nx ny hn hm (by omega) (by omega);rw[hc1]at hcmp;have HC:=hid hcmp;clear hcmp;have Hn:=hid hn;clear hn;have Hm:=hid hm;clear hm;clear hlt hc1;go_enter Tryz.func162,Tryz.ntmps162;go_wp2_with(first |(go_at_call 182;refine HC.out.mono ?_;rintro e w' ⟨rfl,q,rfl⟩)|(go_at_call 155;fail_if_success skip));refine(big_clone _ a xs n ca (ha.drewN q) Hn.out (by omega)).mono ?_;rintro e w1 ⟨a',c',rfl,h1,h2,h3⟩;go_wp2;go_ret2;unfold NatRes2;rw[hd0.out,hd1.out,hxr.out];exact⟨none,0,a',c',by rw[←Hn.out];rfl,by simp[rep_zero],by rw[←Hn.out];omega,Lay.nil _ _ _,h2,(below_drewN (Below.refl _ _) q).trans h3⟩
 ·have hc0:decide (cmpI (val xs) (val ys)<0)=false:=by unfold cmpI;rw[if_neg hlt];split<;>decide
  have hmpos:0<m:=by
   rcases Nat.eq_zero_or_pos m with h|h
   ·rw[List.eq_nil_of_length_eq_zero (hm.symm.trans h)]at hpos;simp[val]at hpos
   ·exact h
  by_cases h1:m=1
  ·subst h1
   have hy0:val ys=wd ys 0:=by
    have e:=val_snoc_wd (l:=ys) (k:=0) (by omega);rw[List.take_of_length_le (by omega)]at e;rw[e];simp[val,W_zero]
   obtain⟨b2,off2,hiy,hcy,_⟩:=hb.use 115 60 Tryz.underlying115 size32 cb;rw[←hm]at hiy hcy;have iy:=fun q=>hiy (w.drewN q) .i64 0 (by omega) (by omega)
   have cy:=hcy w (Below.refl _ _) 0 (by omega);simp only[Int.toNat_zero,Nat.add_zero]at iy cy;have b_y:=hy.wd 0;rw[hy0]at hpos hc0;obtain⟨d,hd⟩: ∃d,d=wd ys 0:=⟨_,rfl⟩;rw[←hd]at cy b_y hpos hc0;have hmd:val xs%d<d:=Nat.mod_lt _ hpos;have Hd:=hid (show val ys=d by rw[hy0,hd]);rw[Hd.out];have hcmp:=big_compare w a b xs ys n 1 ca cb ha hb hx hy nx ny hn hm (by omega) (by omega);rw[Hd.out]at hcmp;have HC:=hid hcmp;clear hcmp;have Hn:=hid hn;clear hn;have Hm:=hid hm;clear hm;clear hiy hcy hy0 hd hlt;go_enter Tryz.func162,Tryz.ntmps162;go_wp2_with(first |(go_at_call 182;refine HC.out.mono ?_;rintro e w' ⟨rfl,q,rfl⟩)|(go_at_call 241;fail_if_success skip));refine(big_short _ a xs n ca d (ha.drewN _) hx Hn.out (by omega) hpos b_y).mono ?_;rintro e w1 ⟨a',c',rfl,h1,h2,h3,h4⟩;go_wp2_with fail;refine(big_word _ (val xs%d) (by omega)).mono ?_;rintro e w2 ⟨a2,c2,rfl,k1,k2,k3,k4⟩;go_wp2;go_ret2;exact⟨a',c',a2,c2,rfl,h1,k1,h3.below k4,k3,belc ((below_drewN (Below.refl _ _) q).trans h4) k4⟩
  ·have hmn:m≤n:=by
    rcases Nat.lt_or_ge n m with h|h
    ·exfalso;have:=cmp_len_lt hx hy ny (by omega);unfold cmpI at this;rw[if_neg hlt]at this;split at this<;>simp at this
    ·exact h
   have hm2:2≤m:=(by omega);have hq1:((m:Int)==1)=false:=by rw[beq_eq_false_iff_ne];omega
   obtain⟨k,hmk⟩: ∃k,m=k+1:=⟨m-1,by omega⟩;obtain⟨hup1,hup2,hbl32,hbl1⟩:=up_words hy ny (hm.symm.trans hmk);obtain⟨b2,off2,hiy,hcy,_⟩:=hb.use 115 60 Tryz.underlying115 size32 cb;rw[←hm]at hiy hcy;have iy:=fun q=>hiy (w.drewN q) .i64 ((m:Int)-1) (by omega) (by omega)
   have hj:off2+((m:Int)-1).toNat=off2+k:=(by omega);rw[hj]at iy;have cy:=hcy w (Below.refl _ _) k (by omega);have b_y:=hy.wd k;obtain⟨s,hs⟩: ∃s,s=32-Lib.bitLen (wd ys k):=⟨_,rfl⟩;have es:(32:Int)-(Lib.bitLen (wd ys k):Int)=s:=by omega
   rw[←hs]at hup1 hup2;have s31:s≤31:=by omega
   have Hs:=hid hs;clear hs;have Hmk:=hid hmk;clear hmk;have Hn:=hid hn;clear hn;have Hm:=hid hm;clear hm;have Hup:=hid hup1;clear hup1;clear hj hiy hcy hlt h1;go_enter Tryz.func162,Tryz.ntmps162;have hupm:=hid (Hup.out.trans Hmk.out.symm);obtain⟨hud1,hud2,hud3⟩:=up_dividend (s:=s) hx nx Hn.out.symm (by omega) (by omega);go_wp2_with(first |(go_at_call 182;refine(big_compare _ _ _ xs ys _ _ _ _ ha hb hx hy nx ny Hn.out Hm.out (by omega) (by omega)).mono ?_;rintro e w' ⟨rfl,q,rfl⟩)|(go_at_call 242;refine(Tryz.bits_LeadingZeros32 _ _ (by omega) (by omega)).mono ?_;rw[Int.toNat_natCast,es];rintro e w' ⟨rfl,hw'⟩;subst hw')|(go_at_call 149;fail_if_success skip));refine(left_v _ b ys m cb s (hb.drewN q) hy Hm.out lm (by omega) hupm.out).mono ?_;rintro e w1 ⟨av,cv,rfl,hvl,hvb⟩;have hB1:Below w.heap.size w w1:=(below_drewN (Below.refl _ _) q).trans hvb;go_wp2_with fail;refine(left_u _ a xs n ca s (ha.below hB1) hx Hn.out ln s31).mono ?_;rintro e w2 ⟨au,p,cu,rfl,hul,hp,hcu,hub⟩;have hB2:Below w.heap.size w w2:=hB1.trans (hub.mono hB1.size);rw[←hp]at hud1 hud2;have Hp:=hid hp;clear hp;obtain⟨qn,hqn1,hqn2⟩: ∃qn,qn+m≤n+1∧n+1≤qn+m:=⟨n+1-m,by omega,by omega⟩;go_wp2_with(first |(at_builtin;refine wpList_append_new rfl _ _ 115 rfl 60 (.int .u32 0) 4 Tryz.underlying115 info32 rfl .u32 au p cu (rep (val xs*2^s)) rfl (hul.below ((Below.refl _ _).alloc (Nat.le_refl _) _)) Hp.out (by omega) ⟨w2.heap.size,0,none⟩ 2 2 [.int .u32 0,.int .u32 0] rfl rfl (cell_two_new _ _ _ _) (by simp[Value.oneCell']) (by omega) (by omega) (by omega) ?_;intro g0 cs capu w3 hg0 hrow hcl hcap hct hbel3)|(at_make;refine wpList_make_row rfl _ _ _ rfl 60 (.int .u32 0) 4 Tryz.underlying115 info32 rfl _ _ _ _ qn qn rfl rfl (by omega) (by omega) (by omega) (by omega) (by omega) ?_;intro w4 gq hgq1 hgq2 hrowq hbel4));obtain⟨us0,hus0⟩: ∃us0,us0=(rep (val xs*2^s)++[0,0]).take (n+1):=⟨_,rfl⟩;obtain⟨hu1,hu2,hu3⟩:=hud3 us0 hus0
   have hrow0:Row w3 g0 60 (nums .u32 us0++cs.drop (n+1)):=by
    have e:nums .u32 us0=cs.take (n+1):=by
     have h:=congrArg (List.take (n+1)) hct;rw[List.take_take,Nat.min_eq_left (by omega)]at h;rw[h,hus0,←nums_take,nums_append];rfl
    rw[e,List.take_append_drop];exact hrow
   have hD:=Div.start hx hy ny Hn.out.symm (Hm.out.symm.trans Hmk.out) (by have:=Hmk.out;omega) hu1 hu2 hu3;clear hud3 hus0 hct hrow;obtain⟨ex,hex⟩: ∃ex,ex=cs.drop (n+1):=⟨_,rfl⟩;rw[←hex]at hrow0;clear hex;have hb3:=below_over hbel3;have hB3:=belc hB2 hb3;have hvl3:=(hvl.below hub).below hb3
   have hvg: ∀b off,av=some ⟨b,off,none⟩→b≠g0:=by
    intro b off e;have h1:=hvl.block_lt (by rw[hupm.out];exact hmpos) b off e;have:=hub.size;rw[World.size_alloc]at hg0;omega
   have hg0B:w.heap.size≤g0:=(by have:=hB2.size;rw[World.size_alloc]at hg0;omega);clear hvl hul hub hvb hB1 hB2 hbel3 hb3 hg0;have hqk:n-k=qn:=by have:=Hmk.out;omega
   rw[hqk,Hmk.out.symm]at hD;have HD:=hid hD;clear hD;have hVW:=hid (show val ys*2^s<W m by have:=rep_len_hi (val ys*2^s);rwa [hupm.out]at this);have HK:=hid hqk;clear hqk;have HU1:=hid hu1;clear hu1;have HU3:=hid hu3;clear hu3;clear cy iy;have hg0lt:=hrow0.lt
   have hvq: ∀b off,av=some ⟨b,off,none⟩→b≠gq:=by
    intro b off e;have h1:=hvl3.block_lt (by rw[hupm.out];exact hmpos) b off e;omega
   go_loopw[13] (fun i wr=> ∃(k2:Nat) (us qs:List Nat),k2≤qn∧i= .int .i64 ((k2:Int)-1)∧Div us0 us qs (val ys*2^s) m k2∧Row wr g0 60 (nums .u32 us++ex)∧Row wr gq 60 (nums .u32 qs)∧Lay .u32 wr av (rep (val ys*2^s))∧Below w.heap.size w wr) (fun i _=>(intOf i+1).toNat);case atStart=>exact⟨qn,us0,List.replicate qn 0,Nat.le_refl _,by go_num,HD.out,hrow0.below hbel4 hg0lt,by rw[nums_replicate];exact hrowq,hvl3.below hbel4,belc hB3 hbel4⟩
   case round=>
    obtain⟨k2,us,qs,hk2,rfl,hdiv,hru,hrq,hlv,hbl⟩:=hrel;have HDv:=hid hdiv;clear hdiv;by_cases h0:k2=0
    ·subst h0;have hul:=HDv.out.lim;have hql:=HDv.out.qlim;have hlu:=hru.layX;have hlq:=hrq.lay;have l1:n+1=us.length:=by rw[HDv.out.len,HU1.out]
     have l2:qn=qs.length:=(by have:=HDv.out.qlen;rw[HU1.out]at this;omega);have hle1:=rep_val_le hul;rw[←l1]at hle1;have hle2:=rep_val_le hql;rw[←l2]at hle2;have L1:=hid l1;clear l1;have L2:=hid l2;clear l2;have p2:0<2^s:=Nat.pow_pos (by decide)
     have hq:Hid (val qs=val xs/val ys):=by
      unfold Hid;rw[HDv.out.done.1,HU3.out,Nat.mul_div_mul_right _ _ p2]
     have hr:Hid (val us/2^s=val xs%val ys):=by
      unfold Hid;rw[HDv.out.done.2,HU3.out,Nat.mul_mod_mul_right,Nat.mul_div_cancel _ p2]
     have hln:=hlu.norm hul;have hlim2:=rep_lim (val us);have hnorm2:=rep_norm (val us);clear hbl32 hbl1 hcu;go_wp2_with fail;refine(big_norm _ _ us _ _ hlu hul L1.out (by omega) (by omega)).mono ?_;rintro e w' ⟨rfl,rfl⟩;go_wp2_with fail;refine(big_right _ _ (rep (val us)) _ _ s hln hlim2 hnorm2 rfl (by omega) (by omega) (by omega)).mono ?_;rintro e w5 ⟨ar,car,rfl,hr1,hr2,hr3⟩;rw[val_rep]at hr1 hr2;rw[val_rep];have hlq5:=hlq.below hr3;go_wp2_with(go_at_call 236;refine(big_norm _ _ qs _ _ hlq5 hql L2.out (by omega) (by omega)).mono ?_;rintro e w' ⟨rfl,rfl⟩);go_ret2;rw[←hq.out,←hr.out];exact⟨_,_,_,_,rfl,hle2,hr1,hlq5.norm hql,hr2,belc hbl hr3⟩
    ·obtain⟨j,rfl⟩: ∃j,k2=j+1:=⟨k2-1,by omega⟩;have hj:((j+1:Nat):Int)-1=(j:Int):=by omega
     rw[hj];clear hj h0;have l1:us.length=n+1:=by rw[HDv.out.len,HU1.out]
     have l2:qs.length=qn:=(by have:=HDv.out.qlen;rw[HU1.out]at this;omega);have hlt:=HDv.out.seg_lt' hVW.out hmpos
     have hqlt:seg us j (m+1)/(val ys*2^s)<4294967296:=by
      rw[Nat.div_lt_iff_lt_mul (Nat.lt_of_le_of_lt (Nat.zero_le _) HDv.out.rest),Nat.mul_comm];exact hlt
     have hst:=big_step wr g0 j (capu-j) cv m av us (rep (val ys*2^s)) ex hru HDv.out.lim hlv (rep_lim _) hvg hupm.out.symm (by omega) (by omega) (by omega) (by rw[show m-1=k from by have:=Hmk.out;omega];exact hup2) (by rw[val_rep];exact hlt);simp only[val_rep]at hst;have HS:=hid hst;clear hst;have L1:=hid l1;clear l1;have L2:=hid l2;clear l2;have hq0:=hrq.cell (i:=j) (by rw[L2.out];omega);obtain⟨qd,hqd⟩: ∃qd,qd=seg us j (m+1)/(val ys*2^s):=⟨_,rfl⟩;have Hqd:=hid hqd;clear hqd;rw[←Hqd.out]at hqlt;have hsl1:j<capu:=by omega
     have hsl2:(j:Int)+(m:Int)+1≤(capu:Int):=(by omega);have hgne:gq≠g0:=by omega
     clear hlt hbl32 hbl1 hud1 hud2 hcu;go_wp2_with fail;rw[show j+m+1-j=m+1 from by omega];refine HS.out.mono ?_;rw[←Hqd.out];rintro e w5 ⟨rfl,us',hs1,hs2,hs3,hs4,hs5,hs6,hs7⟩;have hdn:=HDv.out.step hVW.out hmpos hs1 hs2 hs4 hs5 hs6;have HDn:=hid hdn;clear hdn;have hrq5:=hrq.grown hs7 hgne;have hq0':=hrq5.cell (i:=j) (by rw[L2.out];omega);have hfk:=hrq5.free j;have hlv5:=hlv.grown hs7 hvg;have hbl5:=hbl.trans (below_of_grown hs7 hg0B hbl.size);clear hs1 hs4 hs5 hs6 hq0;go_wp2;go_roundw;case rel=>exact⟨j,us',qs.set j qd,by omega,by go_num,by rw[Hqd.out];exact HDn.out,hs3.other (by exact fun e=>hgne e.symm) _,hrq5.store _ _ _ (by omega),hlv5.other hvq _ _,below_store hbl5 (by omega) _⟩
     case measure=>first |(simp[intOf];done)|(simp[intOf];omega)
end Go.Proofs.YtbffpkmfhkphdaaGreatDoor
namespace Go.Proofs.YtbffpkmfhkphdaaGreatDoor.Limb
structure Grow (h h':Hp):Prop where
 good:Good h'
 rt:h'.rt=h.rt
 size:h'.size=h.size
 isF: ∀o f n,isF h o f n=true→isF h' o f n=true
theorem Grow.refl{h:Hp}(k:Good h):Grow h h:=⟨k,rfl,rfl,fun _ _ _ e=>e⟩
theorem Grow.trans{a b c:Hp}(x:Grow a b)(y:Grow b c):Grow a c:=⟨y.good,y.rt.trans x.rt,y.size.trans x.size,fun o f n e=>y.isF o f n (x.isF o f n e)⟩
theorem isF_iff{h:Hp}{o f n:Nat}:isF h o f n=true↔isO h o=true∧(hdO h o).fmt=f∧n≤(hdO h o).size:=by
 unfold Limb.isF;simp[and_assoc]
theorem isF_le{h:Hp}{o f n m:Nat}(e:isF h o f n=true)(hm:m≤n):isF h o f m=true:=by
 rw[isF_iff]at e ⊢;exact⟨e.1,e.2.1,by omega⟩
theorem isF_isO{h:Hp}{o f n:Nat}(e:isF h o f n=true):isO h o=true:=(isF_iff.1 e).1
theorem isO_isF{h:Hp}{o:Nat}(e:isO h o=true):isF h o (hdO h o).fmt 0=true:=isF_iff.2 ⟨e,rfl,Nat.zero_le _⟩
theorem Grow.isO{h h':Hp}(x:Grow h h'){o:Nat}(e:isO h o=true):isO h' o=true:=isF_isO (x.isF _ _ _ (isO_isF e))
theorem Grow.val{h h':Hp}(x:Grow h h'){o:Nat}(e:valO h o=true):valO h' o=true:=by
 unfold valO at e ⊢;simp only[Bool.or_eq_true]at e ⊢;rcases e with e|e
 ·exact .inl e
 ·exact .inr (x.isO e)
theorem isO_lt{h:Hp}(k:Good h){o:Nat}(e:isO h o=true):o<4294967296:=by
 have:=isO_iff.1 e;have h1:=begins_lt this.2.2;have:=k.len;have:=k.fits;have:=k.sM;omega
theorem isO_val{h:Hp}{o:Nat}(e:isO h o=true):valO h o=true:=by
 unfold valO;rw[e];simp
theorem isO_cls{h:Hp}{o:Nat}(e:isO h o=true):clsO h o=true:=by
 unfold clsO;rw[e];simp
theorem grow_add{h:Hp}(k:Good h){f spare c:Nat}{fs:List Nat}(g:Good (addO h f spare c fs)):Grow h (addO h f spare c fs):=by
 refine⟨g,rfl,rfl,fun o f' n e=>?_⟩;rw[isF_iff]at e ⊢;obtain⟨e1,e2,e3⟩:=e;have e4:=isO_iff.1 e1;have hh:hdO (addO h f spare c fs) o=hdO h o:=hd_old k e4.2.2;refine⟨isO_iff.2 ⟨e4.1,e4.2.1,?_⟩,by rw[hh];exact e2,by rw[hh];exact e3⟩;rw[addO_begins _ _ _ _ _ k];split
 ·rfl
 ·exact e4.2.2
theorem new_isF{h:Hp}(k:Good h){f spare c:Nat}{fs:List Nat}(hok:(⟨fs.length,f,spare,c,h.last+1⟩:Hd).Ok):isF (addO h f spare c fs) (newO h) f fs.length=true:=by
 have e:newO h/2=h.ws.length:=by unfold newO;omega
 have hh:hdO (addO h f spare c fs) (newO h)=⟨fs.length,f,spare,c,h.last+1⟩:=by unfold hdO;rw[e];exact addO_hd_new hok
 rw[isF_iff];refine⟨isO_iff.2 ⟨by have:=k.pos;unfold newO;omega,by unfold newO;omega,?_⟩,by rw[hh],by rw[hh];exact Nat.le_refl _⟩;rw[e,addO_begins _ _ _ _ _ k,if_pos rfl]
theorem grow_alloc{h h':Hp}(k:Good h){c f n o:Nat}(h1:1≤f)(h4:f≤4)(hn:n≤65535)(e:allocP h c f n=some (o,h')):Grow h h'∧isF h' o f n=true:=by
 unfold allocP at e;split at e
 ·rename_i hc;rw[Bool.and_eq_true]at hc;rw[Option.some.injEq,Prod.mk.injEq]at e;obtain⟨rfl,rfl⟩:=e
  have hv:(if f=1∨f=4 then wd h.rt 0 else 0)<4294967296:=by
   split
   ·exact k.rlim.wd 0
   ·decide
  have g:=good_alloc k h1 h4 hn hv hc.1 hc.2;refine⟨grow_add k g,?_⟩;have:=new_isF (spare:=0) (c:=c) (fs:=List.replicate n (if f=1∨f=4 then wd h.rt 0 else 0)) (f:=f) k ⟨by simpa using hn,h1,h4,Nat.zero_le _,.inl rfl⟩
  rwa [List.length_replicate]at this
 ·cases e
theorem grow_make{h h':Hp}(k:Good h){c o:Nat}{t:List Nat}(ht:B8 t)(hl:t.length≤262140)(e:makeP h c t=some (o,h')):Grow h h'∧isF h' o 2 0=true:=by
 unfold makeP at e;split at e
 ·rename_i hc;rw[Bool.and_eq_true]at hc;rw[Option.some.injEq,Prod.mk.injEq]at e;obtain⟨rfl,rfl⟩:=e;have g:=good_make k ht hl hc.1 hc.2;have e2:=packB_length t;exact⟨grow_add k g,isF_le (new_isF k ⟨by show(packB t).length≤65535;omega,by show 1≤2;decide,by show 2≤4;decide,by show 4*((t.length+3)/4)-t.length≤3;omega,by show 4*((t.length+3)/4)-t.length=0∨(2=2∧0<(packB t).length);rw[e2];omega⟩) (Nat.zero_le _)⟩
 ·cases e
theorem grow_put{h:Hp}(k:Good h){o i v:Nat}(hf:isF h o 1 (i+1)=true)(hv:v<4294967296):Grow h (putF h o i v):=by
 have g:=good_put k hf (by decide) hv;rw[isF_iff]at hf;obtain⟨h1,h3,h4⟩:=hf;refine⟨g,rfl,rfl,fun p f n e=>?_⟩;rw[isF_iff]at e ⊢;have hh:hdO (putF h o i v) p=hdO h p:=putW_hd k (isO_iff.1 h1).2.2 (show i<(hd h (o/2)).size from h4) (isO_iff.1 e.1).2.2;rw[hh];exact⟨e.1,e.2⟩
theorem grow_setC{h:Hp}(k:Good h){o c:Nat}(ho:isO h o=true)(hc:clsO h c=true):Grow h (setC h o c):=by
 have hb:=(isO_iff.1 ho).2.2;have hcl:=clsO_lt k hc;refine⟨k.setC hb hcl,rfl,rfl,fun p f n e=>?_⟩;rw[isF_iff]at e ⊢;have hh:hdO (setC h o c) p=if p/2=o/2 then{hd h (o/2)with cls:=c}else hd h (p/2):=setC_hd k hb (isO_iff.1 e.1).2.2
 refine⟨e.1,?_,?_⟩
 ·rw[hh];split
  ·rename_i ee;rw[←ee];exact e.2.1
  ·exact e.2.1
 ·rw[hh];split
  ·rename_i ee;rw[←ee];exact e.2.2
  ·exact e.2.2
theorem grow_putL{h h':Hp}(k:Good h){r o:Nat}(ho:o<4294967296)(e:putL h r o=some h'):Grow h h':=by
 unfold putL at e;simp only at e;split at e
 ·rename_i hc;rw[←Option.some.inj e];exact grow_put k hc ho
 ·cases e
theorem symP_isF{h:Hp}{t:List Nat}(h0:symP h t≠0):isF h (symP h t) 2 0=true:=by
 unfold symP at h0 ⊢
 cases e:(entries h 3).find? (readsO h t)with
 |none=>rw[e]at h0;exact absurd rfl h0
 |some a=>
  have:=List.find?_some e;unfold readsO at this;simp only[Bool.and_eq_true]at this;exact this.1.1
theorem grow_intern{h h':Hp}(k:Good h){o:Nat}{t:List Nat}(ht:B8 t)(hl:t.length≤262140)(e:internP h t=some (o,h')):Grow h h'∧isF h' o 2 0=true:=by
 unfold internP at e;simp only at e;split at e
 ·obtain⟨⟨o1,h1⟩,e1,e2⟩:=Option.bind_eq_some_iff.1 e;obtain⟨h2,e3,e4⟩:=Option.map_eq_some_iff.1 e2;rw[Prod.mk.injEq]at e4;obtain⟨rfl,rfl⟩:=e4;obtain⟨g1,i1⟩:=grow_make k ht hl e1;have g2:=grow_putL g1.good (isO_lt g1.good (isF_isO i1)) e3;exact⟨g1.trans g2,g2.isF _ _ _ i1⟩
 ·rename_i h0;rw[Option.some.injEq,Prod.mk.injEq]at e;obtain⟨rfl,rfl⟩:=e;exact⟨Grow.refl k,symP_isF h0⟩
theorem grow_setGlob{h h':Hp}(k:Good h){o v:Nat}{t:List Nat}(ht:B8 t)(hl:t.length≤262140)(hv:v<4294967296)(e:setGlobP h t v=some (o,h')):Grow h h'∧isF h' o 1 2=true:=by
 unfold setGlobP at e;split at e
 ·obtain⟨⟨o1,h1⟩,e1,e2⟩:=Option.bind_eq_some_iff.1 e;obtain⟨⟨o2,h2⟩,e3,e4⟩:=Option.bind_eq_some_iff.1 e2;obtain⟨h3,e5,e6⟩:=Option.map_eq_some_iff.1 e4;rw[Prod.mk.injEq]at e6;obtain⟨rfl,rfl⟩:=e6;obtain⟨g1,i1⟩:=grow_intern k ht hl e1;obtain⟨g2,i2⟩:=grow_alloc g1.good (by decide) (by decide) (by decide) e3;have g3:=grow_put g2.good (i:=0) (isF_le i2 (by decide)) (isO_lt g1.good (isF_isO i1));have g4:=grow_put g3.good (i:=1) (g3.isF _ _ _ i2) hv;have g5:=grow_putL g4.good (isO_lt g2.good (isF_isO i2)) e5;exact⟨(((g1.trans g2).trans g3).trans g4).trans g5,g5.isF _ _ _ (g4.isF _ _ _ (g3.isF _ _ _ i2))⟩
 ·cases e
structure Ker (h:Hp):Prop where
 live: ∀j,j<5→isO h (wd h.rt (wd [12,18,19,20,23] j))=true
 l3:isF h (wd h.rt 3) 1 0=true
 l4:isF h (wd h.rt 4) 1 0=true
theorem Ker.grow{h h':Hp}(x:Ker h)(g:Grow h h'):Ker h':=by
 refine⟨fun j hj=>?_,?_,?_⟩
 ·rw[g.rt];exact g.isO (x.live j hj)
 ·rw[g.rt];exact g.isF _ _ _ x.l3
 ·rw[g.rt];exact g.isF _ _ _ x.l4
end Go.Proofs.YtbffpkmfhkphdaaGreatDoor.Limb
namespace Go.Proofs.YtbffpkmfhkphdaaGreatDoor.Limb
def qallocR(h:Pk)(r n:Nat):Option Pk:=(qalloc h 0 1 n).bind fun x=>qsetr x.2 r x.1
theorem up_allocR{h:Hp}(k:Good h)(r n:Nat):Up1 (allocR h r n) (qallocR (pk h) r n):=by
 have e:allocR h r n=(allocP h 0 1 n).bind fun x=>some (setR x.2 r x.1):=by unfold allocR;cases allocP h 0 1 n<;>rfl
 rw[e];exact(up_alloc k _ _ _).bind1 fun a h1 k1=>up_setr k1 r a
def qpairs:List Nat→Pk→Option (List Nat×Pk)
 |[],h=>some ([],h)
 |r :: t,h=>(qallocR h r 6).bind fun h1=>(qalloc h1 0 1 6).bind fun m=>(qpairs t m.2).map fun x=>(m.1 :: x.1,x.2)
theorem up_pairs: ∀(l:List Nat) (h:Hp),Good h→Up (pairsP l h) (qpairs l (pk h))
 |[],h,k=>Up.ret k _
 |r :: t,h,k=>(up_allocR k r 6).bind fun _ k1=>(up_alloc k1 0 1 6).bind fun a h2 k2=>(up_pairs t h2 k2).map (fun y=>a :: y)
def qwire(h:Pk)(ms:List Nat)(i:Nat)(p:Plan):Option Pk:=
 let c:=rd h.R (10+i)
 let m:=wd ms i
 (qput h c 4 (2*writtenN p.fmt (fixedN 6 (10+i)) p.idx+1)).bind fun h=>(qput h m 4 (2*49+1)).bind fun h=>(qput h m 5 c).bind fun h=>(qput h m 1 (rd h.R 11)).bind fun h=>
 ((if p.sup=0 then some h else(qput h c 1 (rd h.R p.sup)).bind fun h1=>qput h1 m 1 (wd ms (p.sup-10)))).bind fun h=>(qcls h c m).bind fun h=>qcls h m (rd h.R 12)
theorem up_wire{h:Hp}(k:Good h)(ms:List Nat)(i:Nat)(p:Plan):Up1 (some (wireP h ms i p)) (qwire (pk h) ms i p):=by
 have e:some (wireP h ms i p)=(some (putF h (wd h.rt (10+i)) 4 (2*writtenN p.fmt (fixedN 6 (10+i)) p.idx+1))).bind fun h1=>(some (putF h1 (wd ms i) 4 (2*49+1))).bind fun h1=>(some (putF h1 (wd ms i) 5 (wd h.rt (10+i)))).bind fun h1=>(some (putF h1 (wd ms i) 1 (wd h1.rt 11))).bind fun h1=>
  (if p.sup=0 then some h1 else(some (putF h1 (wd h.rt (10+i)) 1 (wd h1.rt p.sup))).bind fun h2=>some (putF h2 (wd ms i) 1 (wd ms (p.sup-10)))).bind fun h1=>(some (setC h1 (wd h.rt (10+i)) (wd ms i))).bind fun h1=>some (setC h1 (wd ms i) (wd h1.rt 12)):=by
  unfold wireP;by_cases h0:p.sup=0
  ·simp only[if_pos h0];rfl
  ·simp only[if_neg h0];rfl
 rw[e];unfold qwire;simp only[rd_root k];refine(up_put k _ _ _).bind1 fun h1 k1=>(up_put k1 _ _ _).bind1 fun h2 k2=>(up_put k2 _ _ _).bind1 fun h3 k3=>?_
 simp only[rd_root k3];refine(up_put k3 _ _ _).bind1 fun h4 k4=>Up1.bind1 ?_ fun h5 k5=>?_
 ·by_cases h0:p.sup=0
  ·simp only[if_pos h0];exact Up1.ret k4
  ·simp only[if_neg h0,rd_root k4];exact(up_put k4 _ _ _).bind1 fun h6 k6=>up_put k6 _ _ _
 ·refine(up_cls k5 _ _).bind1 fun h6 k6=>?_
  simp only[rd_root k6];exact up_cls k6 _ _
def qwireAll(ms:List Nat):Nat→List Plan→Pk→Option Pk
 |_,[],h=>some h
 |i,p :: t,h=>(qwire h ms i p).bind fun x=>qwireAll ms (i+1) t x
theorem up_wireAll(ms:List Nat): ∀(l:List Plan) (i:Nat) (h:Hp),Good h→Up1 (some (wireAll ms i l h)) (qwireAll ms i l (pk h))
 |[],_,h,k=>Up1.ret k
 |p :: t,i,h,k=>by
  show Up1 ((some (wireP h ms i p)).bind fun x=>some (wireAll ms (i+1) t x)) _
  exact(up_wire k ms i p).bind1 fun h2 k2=>up_wireAll ms t (i+1) h2 k2
def clsAll:List (Nat×Nat)→Hp→Hp
 |[],h=>h
 |(r,c) :: t,h=>clsAll t (setC h (wd h.rt r) (wd h.rt c))
def qclsAll:List (Nat×Nat)→Pk→Option Pk
 |[],h=>some h
 |(r,c) :: t,h=>(qcls h (rd h.R r) (rd h.R c)).bind fun x=>qclsAll t x
theorem up_clsAll: ∀(l:List (Nat×Nat)) (h:Hp),Good h→Up1 (some (clsAll l h)) (qclsAll l (pk h))
 |[],h,k=>Up1.ret k
 |(r,c) :: t,h,k=>by
  show Up1 ((some (setC h (wd h.rt r) (wd h.rt c))).bind fun x=>some (clsAll t x)) _
  unfold qclsAll;simp only[rd_root k];exact(up_cls k _ _).bind1 fun h2 k2=>up_clsAll t h2 k2
def bareCls:List (Nat×Nat):=[(0,13),(1,14),(2,15),(3,20),(4,20),(6,20),(8,20)]
def tenOn:List Nat:=[10,11,12,13,14,15,16,17,18,19,20,21,22,23,24,25,26,27,28,29,30,31]
def classesP(h:Hp):Option Hp:=(pairsP tenOn h).map fun x=>clsAll bareCls (wireAll x.1 0 plans x.2)
def qclasses(h:Pk):Option Pk:=(qpairs tenOn h).bind fun x=>(qwireAll x.1 0 plans x.2).bind fun y=>qclsAll bareCls y
theorem up_classes{h:Hp}(k:Good h):Up1 (classesP h) (qclasses (pk h)):=by
 have e:classesP h=(pairsP tenOn h).bind fun x=>(some (wireAll x.1 0 plans x.2)).bind fun y=>some (clsAll bareCls y):=by unfold classesP;cases pairsP tenOn h<;>rfl
 rw[e];exact(up_pairs _ h k).bind1 fun a h1 k1=>(up_wireAll a plans 0 h1 k1).bind1 fun h2 k2=>up_clsAll _ h2 k2
def firstAll:List (Nat×Nat)→Hp→Option Hp
 |[],h=>some h
 |(r,n) :: t,h=>(allocR h r n).bind fun x=>firstAll t x
def qfirstAll:List (Nat×Nat)→Pk→Option Pk
 |[],h=>some h
 |(r,n) :: t,h=>(qallocR h r n).bind fun x=>qfirstAll t x
theorem up_firstAll: ∀(l:List (Nat×Nat)) (h:Hp),Good h→Up1 (firstAll l h) (qfirstAll l (pk h))
 |[],h,k=>Up1.ret k
 |(r,n) :: t,h,k=>(up_allocR k r n).bind1 fun h1 k1=>up_firstAll t h1 k1
def first7:List (Nat×Nat):=[(0,0),(1,0),(2,0),(3,128),(4,32),(6,8),(8,16)]
def nilR:List Nat→Hp→Hp
 |[],h=>h
 |r :: t,h=>nilR t (setR h r (wd h.rt 0))
def qnilR:List Nat→Pk→Option Pk
 |[],h=>some h
 |r :: t,h=>(qsetr h r (rd h.R 0)).bind fun x=>qnilR t x
theorem up_nilR: ∀(l:List Nat) (h:Hp),Good h→Up1 (some (nilR l h)) (qnilR l (pk h))
 |[],h,k=>Up1.ret k
 |r :: t,h,k=>by
  show Up1 ((some (setR h r (wd h.rt 0))).bind fun x=>some (nilR t x)) _
  unfold qnilR;simp only[rd_root k];exact(up_setr k _ _).bind1 fun h2 k2=>up_nilR t h2 k2
def bonesP(n:Nat):Option Hp:=(firstAll first7 (emptyH n)).bind fun h=>classesP (nilR [5,7,9] h)
def qbones(n:Nat):Option Pk:=(qfirstAll first7 (pk (emptyH n))).bind fun h=>(qnilR [5,7,9] h).bind qclasses
theorem up_bones{n:Nat}(h1:64≤n)(h2:n≤1048576):Up1 (bonesP n) (qbones n):=by
 refine(up_firstAll first7 _ (good_empty h1 h2)).bind1 fun h k=>?_
 show Up1 ((some (nilR [5,7,9] h)).bind classesP) _
 exact(up_nilR _ h k).bind1 fun h3 k3=>up_classes k3
def bootP(n:Nat):Option Hp:=(bonesP n).bind fun h=>(nameAll 0 plans h).bind fun h=>(selAll 0 sels h).bind fun h=>fieldAll 0 plans h
def qboot(n:Nat):Option Pk:=(qbones n).bind fun h=>(qnameAll 0 plans h).bind fun h=>(qselAll 0 sels h).bind fun h=>qfieldAll 0 plans h
theorem up_boot{n:Nat}(h1:64≤n)(h2:n≤1048576):Up1 (bootP n) (qboot n):=
 (up_bones h1 h2).bind1 fun h k=>(up_nameAll plans 0 h k (by decide+kernel)).bind1 fun h k=>(up_selAll sels 0 h k (by decide+kernel)).bind1 fun h k=>up_fieldAll plans 0 h k (by decide+kernel)
def wireR(h:Hp)(ms:List Nat)(i:Nat)(p:Plan):Hp:=
 let c:=wd h.rt (10+i)
 let m:=wd ms i
 let h1:=setC h c m
 let h1:=setC h1 m (wd h1.rt 12)
 let h1:=putF h1 c 0 (wd h.rt 0)
 let h1:=putF h1 c 1 (if p.sup=0 then wd h.rt 0 else wd h.rt p.sup)
 let h1:=putF h1 c 4 (2*writtenN p.fmt (fixedN 6 (10+i)) p.idx+1)
 let h1:=putF h1 m 1 (if p.sup=0 then wd h.rt 11 else wd ms (p.sup-10))
 putF (putF h1 m 4 (2*49+1)) m 5 c
def qwireR(h:Pk)(ms:List Nat)(i:Nat)(p:Plan):Option Pk:=
 (qcls h (rd h.R (10+i)) (wd ms i)).bind fun h1=>(qcls h1 (wd ms i) (rd h1.R 12)).bind fun h1=>(qput h1 (rd h.R (10+i)) 0 (rd h.R 0)).bind fun h1=>(qput h1 (rd h.R (10+i)) 1 (if p.sup=0 then rd h.R 0 else rd h.R p.sup)).bind fun h1=>
 (qput h1 (rd h.R (10+i)) 4 (2*writtenN p.fmt (fixedN 6 (10+i)) p.idx+1)).bind fun h1=>(qput h1 (wd ms i) 1 (if p.sup=0 then rd h.R 11 else wd ms (p.sup-10))).bind fun h1=>(qput h1 (wd ms i) 4 (2*49+1)).bind fun h1=>qput h1 (wd ms i) 5 (rd h.R (10+i))
theorem up_wireR{h:Hp}(k:Good h)(ms:List Nat)(i:Nat)(p:Plan):Up1 (some (wireR h ms i p)) (qwireR (pk h) ms i p):=by
 unfold qwireR;simp only[rd_root k];show Up1 ((some (setC h (wd h.rt (10+i)) (wd ms i))).bind fun h1=>(some (setC h1 (wd ms i) (wd h1.rt 12))).bind fun h1=>(some (putF h1 (wd h.rt (10+i)) 0 (wd h.rt 0))).bind fun h1=>(some (putF h1 (wd h.rt (10+i)) 1 (if p.sup=0 then wd h.rt 0 else wd h.rt p.sup))).bind fun h1=>(some (putF h1 (wd h.rt (10+i)) 4 (2*writtenN p.fmt (fixedN 6 (10+i)) p.idx+1))).bind fun h1=>(some (putF h1 (wd ms i) 1 (if p.sup=0 then wd h.rt 11 else wd ms (p.sup-10)))).bind fun h1=>(some (putF h1 (wd ms i) 4 (2*49+1))).bind fun h1=>some (putF h1 (wd ms i) 5 (wd h.rt (10+i)))) _
 refine(up_cls k _ _).bind1 fun h1 k1=>?_
 simp only[rd_root k1];exact(up_cls k1 _ _).bind1 fun h1 k1=>(up_put k1 _ _ _).bind1 fun h1 k1=>(up_put k1 _ _ _).bind1 fun h1 k1=>(up_put k1 _ _ _).bind1 fun h1 k1=>(up_put k1 _ _ _).bind1 fun h1 k1=>(up_put k1 _ _ _).bind1 fun h1 k1=>up_put k1 _ _ _
def wireAllR(ms:List Nat):Nat→List Plan→Hp→Hp
 |_,[],h=>h
 |i,p :: t,h=>wireAllR ms (i+1) t (wireR h ms i p)
def qwireAllR(ms:List Nat):Nat→List Plan→Pk→Option Pk
 |_,[],h=>some h
 |i,p :: t,h=>(qwireR h ms i p).bind fun x=>qwireAllR ms (i+1) t x
theorem up_wireAllR(ms:List Nat): ∀(l:List Plan) (i:Nat) (h:Hp),Good h→Up1 (some (wireAllR ms i l h)) (qwireAllR ms i l (pk h))
 |[],_,h,k=>Up1.ret k
 |p :: t,i,h,k=>by
  show Up1 ((some (wireR h ms i p)).bind fun x=>some (wireAllR ms (i+1) t x)) _
  exact(up_wireR k ms i p).bind1 fun h2 k2=>up_wireAllR ms t (i+1) h2 k2
def classesR(h:Hp):Option Hp:=(pairsP tenOn h).map fun x=>clsAll bareCls (wireAllR x.1 0 plans x.2)
def qclassesR(h:Pk):Option Pk:=(qpairs tenOn h).bind fun x=>(qwireAllR x.1 0 plans x.2).bind fun y=>qclsAll bareCls y
theorem up_classesR{h:Hp}(k:Good h):Up1 (classesR h) (qclassesR (pk h)):=by
 have e:classesR h=(pairsP tenOn h).bind fun x=>(some (wireAllR x.1 0 plans x.2)).bind fun y=>some (clsAll bareCls y):=by unfold classesR;cases pairsP tenOn h<;>rfl
 rw[e];exact(up_pairs _ h k).bind1 fun a h1 k1=>(up_wireAllR a plans 0 h1 k1).bind1 fun h2 k2=>up_clsAll _ h2 k2
def firstR(n:Nat):Option Hp:=(allocR (emptyH n) 0 0).bind fun h=>firstAll (first7.drop 1) (nilR [5,7,9] h)
def qfirstR(n:Nat):Option Pk:=(qallocR (pk (emptyH n)) 0 0).bind fun h=>(qnilR [5,7,9] h).bind fun h=>qfirstAll (first7.drop 1) h
def bonesR(n:Nat):Option Hp:=(firstR n).bind classesR
def qbonesR(n:Nat):Option Pk:=(qfirstR n).bind qclassesR
theorem up_bonesR{n:Nat}(h1:64≤n)(h2:n≤1048576):Up1 (bonesR n) (qbonesR n):=by
 refine Up1.bind1 ?_ fun h k=>up_classesR k
 refine(up_allocR (good_empty h1 h2) 0 0).bind1 fun h k=>?_
 show Up1 ((some (nilR [5,7,9] h)).bind fun h=>firstAll (first7.drop 1) h) _
 exact(up_nilR _ h k).bind1 fun h3 k3=>up_firstAll _ h3 k3
theorem mkval_inj: ∀(a b:List Bool),a.length=b.length→mkval a=mkval b→a=b
 |[],[],_,_=>rfl
 |[],_ :: _,h,_=>by simp at h
 |_ :: _,[],h,_=>by simp at h
 |x :: s,y :: t,h,e=>by
  have e2:(if x then 1 else 0)+2*mkval s=(if y then 1 else 0)+2*mkval t:=e;have h1:mkval s=mkval t:=by cases x<;>cases y<;>simp at e2<;>omega
  have h2:x=y:=(by cases x<;>cases y<;>simp at e2<;>first |rfl|omega);rw[h2,mkval_inj s t (by simpa using h) h1]
theorem pk_inj{a b:Hp}(ka:Good a)(kb:Good b)(h:pk a=pk b):a=b:=by
 have e:=h;unfold pk at e;rw[Pk.mk.injEq]at e;obtain⟨e1,e2,e3,e4,e5,e6⟩:=e;obtain⟨aw,aS,ar,az,al⟩:=a;obtain⟨bw,bs,br,bz,bl⟩:=b;have h1:aw=bw:=val_inj ka.lim kb.lim e2 e1;have h2:ar=br:=val_inj ka.rlim kb.rlim (ka.rlen.trans kb.rlen.symm) e4;have h3:aS=bs:=mkval_inj _ _ (ka.len.trans (e2.trans kb.len.symm)) e3;have h4:az=bz:=e5;have h5:al=bl:=e6;rw[h1,h2,h3,h4,h5]
def bootR(n:Nat):Option Hp:=(bonesR n).bind fun h=>(nameAll 0 plans h).bind fun h=>(selAll 0 sels h).bind fun h=>fieldAll 0 plans h
def Pk.told(p:Pk):Bool:=decide (p.n=1163)&&decide (p.last=154)&&(tenOn.all fun i=>qF p (rd p.R i) 1 6)&&([0,1,2,3,4,5,6,7,8,9].all fun i=>qO p (rd p.R i))&&qF p (rd p.R 3) 1 128&&qF p (rd p.R 4) 1 32
def Pk.parts(p:Pk):List Nat:=[p.V,p.n,p.S,p.R,p.size,p.last]
theorem Pk.of_parts{a b:Option Pk}(h:a.map Pk.parts=b.map Pk.parts):a=b:=by
 cases a with
 |none=>cases b with
  |none=>rfl
  |some b=>cases h
 |some a=>cases b with
  |none=>cases h
  |some b=>
   obtain⟨a1,a2,a3,a4,a5,a6⟩:=a;obtain⟨b1,b2,b3,b4,b5,b6⟩:=b;simpa[Pk.parts]using h
theorem same_3000:qbones 3000=qbonesR 3000:=Pk.of_parts (by decide+kernel)
theorem told_3000:(qboot 3000).map (fun p=>p.told&&decide (p.size=3000))=some true:=by decide+kernel
structure Booted (n:Nat) (h:Hp):Prop where
 good:Good h
 size:h.size=n
 len:h.ws.length=1163
 last:h.last=154
 cls: ∀i,10≤i→i≤31→isF h (wd h.rt i) 1 6=true
 low: ∀i,i<10→isO h (wd h.rt i)=true
theorem boot_of{n:Nat}(h1:64≤n)(h2:n≤1048576)(hs:qbones n=qbonesR n)(ht:(qboot n).map (fun p=>p.told&&decide (p.size=n))=some true): ∃h,bootP n=some h∧bootR n=some h∧Booted n h:=by
 obtain⟨p,hp,hq⟩:=Option.map_eq_some_iff.1 ht;obtain⟨h,e1,rfl,k⟩:=up_boot h1 h2 p hp;obtain⟨pb,hb,hr⟩:=Option.bind_eq_some_iff.1 hp;obtain⟨ha,ea,eb,ka⟩:=up_bones h1 h2 pb hb;obtain⟨hc,ec,ed,kc⟩:=up_bonesR h1 h2 pb (hs ▸ hb);obtain rfl:hc=ha:=pk_inj kc ka (ed.trans eb.symm);unfold Pk.told at hq;simp only[Bool.and_eq_true,decide_eq_true_eq,List.all_eq_true]at hq;obtain⟨⟨⟨⟨⟨⟨q1,q2⟩,q3⟩,q4⟩,q5⟩,q6⟩,q7⟩:=hq;refine⟨h,e1,?_,k,q7,q1,q2,fun i hi1 hi2=>?_,fun i hi=>?_⟩
 ·unfold bootP at e1;unfold bootR;rw[ea]at e1;rw[ec];exact e1
 ·have h3:=q3 i (by unfold tenOn;simp only[List.mem_cons,List.not_mem_nil,or_false];omega)
  rwa [qF_eq k,rd_root k]at h3
 ·have h3:=q4 i (by simp only[List.mem_cons,List.not_mem_nil,or_false];omega)
  rwa [qO_eq,rd_root k]at h3
theorem boot_3000: ∃h,bootP 3000=some h∧bootR 3000=some h∧Booted 3000 h:=boot_of (by decide) (by decide) same_3000 told_3000
end Go.Proofs.YtbffpkmfhkphdaaGreatDoor.Limb

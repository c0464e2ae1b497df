/- Walks and laws that LargeData asks for. -/
import Derived.Test.YtfefijlnbhbplaaGreatDoorGX04
import Derived.Test.YtfefijlnbhbplaaGreatDoorGX03
import Derived.Deep.RegionHeld3
import Derived.StillTailTactics
set_option linter.unusedVariables false
set_option linter.unusedSimpArgs false
set_option maxRecDepth 1000000
set_option maxHeartbeats 6400000
namespace Go.Proofs.YtfefijlnbhbplaaGreatDoor
open Go Lib Go.RowKit Limb Tryz
theorem Lay.grown{K:IntKind}{w w':World}{a:Option Addr}{l:List Nat}{g:Nat}(h:Lay K w a l)(k:w.grownBy w' (some g))(d: ∀b c,a=some ⟨b,c,none⟩->b≠g):Lay K w' a l:=by
 obtain⟨b,c,h1,m⟩:=h;refine⟨b,c,fun j=>⟨(h1 j).1,by have:=k.size;have:=(h1 j).2;omega⟩,fun i n=>?_⟩;have f:=h1 ω;rw[<-m i n];exact World.cell?_of_block (k.block b f.2 (fun e=>d b c f.1 (by injection e)))
theorem Lay.other{K:IntKind}{w:World}{a:Option Addr}{l:List Nat}{g:Nat}(h:Lay K w a l)(d: ∀b c,a=some ⟨b,c,none⟩->b≠g)(i:Nat)(v:Value):Lay K (w.setCell ⟨g,i,none⟩ v) a l:=
 h.grown (e7 (World.grownBy.refl _ _) i v) d
theorem Row.grown{w w':World}{g h:Nat}{e:TypeId}{b:List Value}(c:Row w h e b)(d:w.grownBy w' (some g))(a:h≠g):Row w' h e b:=by
 have:=c.lt;unfold Row at*;rw[d.block h this (fun e=>a (by injection e))];exact c
theorem oW{w w':World}{g B:Nat}(a:w.grownBy w' (some g))(c:B<=g)(hs:B<=w.heap.size):Below B w w':=
 ⟨a.os,a.tape,a.output,a.size,fun k b=>a.block k ω (fun e=>by injection e;omega)⟩
theorem Lay.block_lt{K:IntKind}{w:World}{a:Option Addr}{l:List Nat}(h:Lay K w a l)(g:0<l.length): ∀b c,a=some ⟨b,c,none⟩->b<w.heap.size:=by
 obtain⟨i,f,h1,_⟩:=h;intro b c e;have:=h1 g;rw[e]at this;have d:=this.1;simp only[Option.some.injEq,Addr.mk.injEq,and_true]at d;rw[d.1];exact this.2
theorem Lay.olds{K:IntKind}{w:World}{a:Option Addr}{l:List Nat}(h:Lay K w a l): ∀b,a=some b->∀j u,(aC K l)[j]? =some u->w.cell? (b.add j)=some u:=by
 intro b i j u d;have c:j<l.length:=by have:=(List.getElem?_eq_some_iff.1 d).1;rwa [aD]at this
 obtain⟨k,f,h1,g⟩:=h;have e:=(h1 ω).1;rw[i]at e;obtain rfl:=Option.some.inj e;rw[aJ c]at d;rw[Addr.add_lit,g j c];exact d
theorem bE{w w':World}{o:Obj}(h:Below (w.alloc o).heap.size (w.alloc o) w'):Below w w w':=
 ((Below.refl _ _).alloc ι o).trans (h.mono (by rw[World.size_alloc];omega))
theorem DW{a w1 b:World}(h1:Below a a w1)(c:Below w1 w1 b):Below a a b:=h1.trans (c.mono h1.size)
theorem kX{P:Program}{w:World}{ops:Array Oper}{rest:List Oper}{o:Oper}{a:Act}{Q:Exit->Act->World->Prop}(hg:o.guard=none)(s x:Operand)(t:TypeId)(hop:o.op=Op.call {callee:=Callee.builtin Builtin.append,args:= #[s,x],argTypes:= #[t,t]})(e:TypeId)(z:Value)(bytes:Nat)(h1:P.underlying t=some (.slice e))(h2:(P.info? e).map (fun i=>(i.zero,i.size,i.bytes))=some (some z,1,bytes))(h6:z.cells.size=1)(K:IntKind)(ao:Option Addr)(n cap:Nat)(l:List Nat)(hs:a.eval s= .slice ao n cap)(hlay:Lay K w ao l)(hl:n=l.length)(hn0:0<n)(ad:Addr)(m c:Nat)(news:List Value)(hx:a.eval x= .slice (some ad) m c)(hn:news.length=m)(hc: ∀j u,news[j]? =some u->w.cell? (ad.add j)=some u)(h1c: ∀u∈news,u.oneCell'=true)(hfull:cap<n+m)(b1:n+m<=9223372036854775807)(b2:(n+m)*bytes<=140737488355328)(hK: ∀g cs cap' w',w.heap.size<=g->Row w' g e cs->cs.length=cap'->n+m<=cap'->cs.take (n+m)=aC K l++news->Below w w w'->wpList P ops Q rest (a.put o.dst (M g (n+m) cap')) w'):wpList P ops Q (o :: rest) a w:=by
 obtain⟨i,hi,hz0,hsz,hbt⟩:=info_parts h2;refine wpList_append_grows w hg s x t hop e i z 1 bytes h1 hi hz0 hsz hbt h6 δ ao n cap (aC K l) hs ?_ (by rw[aD,hl,Nat.mul_one]) hlay.olds ad m c news hx (by rw[hn,Nat.mul_one]) hc h1c hfull b1 b2 ?_
 ·intro h;obtain⟨b',off',h1,_⟩:=hlay;have:=(h1 ω).1;rw[h]at this;cases this
 ·intro v' w' hown hgr;rcases hown.2 with⟨_,h0⟩|⟨g,cap',cur,rfl,hbg,hh,hc1,_,hc3,hc4⟩
  ·omega
  ·rw[Nat.mul_one]at hc3 hc4;refine hK g cur.toList cap' w' hbg (by unfold Row;simpa using hh) (by simpa using hc3) hc1 hc4 ?_;exact⟨hgr.os,hgr.tape,hgr.output,hgr.size,fun k hk=>hgr.block k hk (by simp)⟩
theorem EX(w:World)(b:Option Addr)(ys:List Nat)(m cb s:Nat)(p:Lay .u32 w b ys)(q:Lim ys)(r:m=ys.length)(v:m<=274877906944)(u:s<=4294967296)(f:(rep (val ys*2^s)).length=m):Calls prog 232 #[.slice b m cb,.int .u64 s] w fun e w'=> ∃a d,e= .returned (.slice a m d)/\Lay .u32 w' a (rep (val ys*2^s))/\Below w w w':=
 (p7 w b ys m cb s p q r ω u).mono fun e w' ⟨a,d,h1,_,_,j,k⟩=>⟨a,d,by rw[h1,f],j,k⟩
theorem EN(w:World)(b:Option Addr)(xs:List Nat)(n cb s:Nat)(r:Lay .u32 w b xs)(u:Lim xs)(v:n=xs.length)(y:n<=274877906944)(z:s<=31):Calls prog 232 #[.slice b n cb,.int .u64 s] w fun e w'=> ∃a p d,e= .returned (.slice a p d)/\Lay .u32 w' a (rep (val xs*2^s))/\p=(rep (val xs*2^s)).length/\d<=n+1/\Below w w w':=
 (p7 w b xs n cb s r u v ω ω).mono fun e w' ⟨f,j,h1,_,x,k,q⟩=>⟨f,_,j,h1,k,rfl,ω,q⟩
def xn(w w':World)(e:Ending)(p q:Nat):Prop:=
 ∃a ca b cb,e=Rt #[.slice a (rep p).length ca,.slice b (rep q).length cb]/\(rep p).length<=ca/\(rep q).length<=cb/\Lay .u32 w' a (rep p)/\Lay .u32 w' b (rep q)/\Below w w w'
theorem rO(w:World)(a b:Option Addr)(xs ys:List Nat)(n m ca cb:Nat)(ha:Lay .u32 w a xs)(hb:Lay .u32 w b ys)(hx:Lim xs)(hy:Lim ys)(nx:fN xs)(ny:fN ys)(hn:n=xs.length)(hm:m=ys.length)(ln:n<=274877906944)(lm:m<=274877906944)(hca:n<=ca)(hpos:0<val ys):Calls prog 163 #[.slice a n ca,.slice b m cb] w fun e w'=>xn w w' e (val xs/val ys) (val xs%val ys):=by
 by_cases hlt:val xs<val ys
 ·have hc1:cX (val xs) (val ys)= -1:=(by unfold cX;rw[if_pos hlt]);have hd0:=hid (Nat.div_eq_of_lt hlt);have hd1:=hid (Nat.mod_eq_of_lt hlt);have hxr:=hid (fM hx nx);have hcmp:=df w a b xs ys n m ca cb ha hb hx hy nx ny hn hm ω ω;rw[hc1]at hcmp;have HC:=hid hcmp;clear hcmp;have Hn:=hid hn;clear hn;have Hm:=hid hm;clear hm;clear hlt hc1;go_enter func163,ntmps163;go_wp2_with(first |(go_at_call 228;refine HC.out.mono ?_;rintro e w' ⟨rfl,q,rfl⟩)|(go_at_call 225;fail_if_success skip));refine(mb _ a xs n ca (ha.drewN q) Hn.out ω).mono ?_;rintro e w1 ⟨a',c',rfl,h1,h2,h3⟩;go_wp2;go_ret2;unfold xn;rw[hd0.out,hd1.out,hxr.out];exact⟨none,0,a',c',by rw[<-Hn.out];rfl,by simp[eE],by rw[<-Hn.out];omega,Lay.nil _ _ _,h2,(below_drewN (Below.refl _ _) q).trans h3⟩
 ·have hc0:decide (cX (val xs) (val ys)<0)=false:=by unfold cX;rw[if_neg hlt];split<;>decide
  have hmpos:0<m:=by
   rcases Nat.eq_zero_or_pos m with h|h
   ·rw[List.eq_nil_of_length_eq_zero (hm.symm.trans h)]at hpos;simp[val]at hpos
   ·exact h
  by_cases h1:m=1
  ·subst h1
   have hy0:val ys=wd ys 0:=by
    have e:=dm (l:=ys) (k:=0) ω;rw[List.take_of_length_le ω]at e;rw[e];simp[val,eS]
   obtain⟨b2,off2,hiy,hcy,_⟩:=hb.use 192 25 underlying192 aK cb;rw[<-hm]at hiy hcy;have iy:=fun q=>hiy (w.drewN q) .i64 0 ω ω
   have cy:=hcy w (Below.refl _ _) 0 ω;simp only[Int.toNat_zero,Nat.add_zero]at iy cy;have b_y:=hy.wd 0;rw[hy0]at hpos hc0;obtain⟨d,hd⟩:=ξ (wd ys 0);rw[<-hd]at cy b_y hpos hc0;have hmd:val xs%d<d:=Nat.mod_lt _ hpos;have Hd:=hid (show val ys=d by rw[hy0,hd]);rw[Hd.out];have hcmp:=df w a b xs ys n 1 ca cb ha hb hx hy nx ny hn hm ω ω;rw[Hd.out]at hcmp;have HC:=hid hcmp;clear hcmp;have Hn:=hid hn;clear hn;have Hm:=hid hm;clear hm;clear hiy hcy hy0 hd hlt;go_enter func163,ntmps163;go_wp2_with(first |(go_at_call 228;refine HC.out.mono ?_;rintro e w' ⟨rfl,q,rfl⟩)|(go_at_call 229;fail_if_success skip));refine(zu _ a xs n ca d (ha.drewN _) hx Hn.out ω hpos b_y).mono ?_;rintro e w1 ⟨a',c',rfl,h1,h2,h3,h4⟩;go_wp2_with fail;refine(lj _ (val xs%d) ω).mono ?_;rintro e w2 ⟨a2,c2,rfl,k1,k2,k3,k4⟩;go_wp2;go_ret2;exact⟨a',c',a2,c2,rfl,h1,k1,h3.below k4,k3,DW ((below_drewN (Below.refl _ _) q).trans h4) k4⟩
  ·have hmn:m<=n:=by
    rcases Nat.lt_or_ge n m with h|h
    ·exfalso;have:=kB hx hy ny ω;unfold cX at this;rw[if_neg hlt]at this;split at this<;>simp at this
    ·exact h
   have hm2:2<=m:=ω;have hq1:((m:Int)==1)=false:=nE
   obtain⟨k,hmk⟩: ∃k,m=k+1:=⟨m-1,ω⟩;obtain⟨hup1,hup2,hbl32,hbl1⟩:=C3 hy ny (hm.symm.trans hmk);obtain⟨b2,off2,hiy,hcy,_⟩:=hb.use 192 25 underlying192 aK cb;rw[<-hm]at hiy hcy;have iy:=fun q=>hiy (w.drewN q) .i64 ((m:Int)-1) ω ω
   have hj:off2+((m:Int)-1).toNat=off2+k:=ω;rw[hj]at iy;have cy:=hcy w (Below.refl _ _) k ω;have b_y:=hy.wd k;obtain⟨s,hs⟩:=ξ (32-Lib.bitLen (wd ys k));have es:(32:Int)-(Lib.bitLen (wd ys k):Int)=s:=ω
   rw[<-hs]at hup1 hup2;have s31:s<=31:=ω
   have Hs:=hid hs;clear hs;have Hmk:=hid hmk;clear hmk;have Hn:=hid hn;clear hn;have Hm:=hid hm;clear hm;have Hup:=hid hup1;clear hup1;clear hj hiy hcy hlt h1;go_enter func163,ntmps163;have hupm:=hid (Hup.out.trans Hmk.out.symm);obtain⟨hud1,hud2,hud3⟩:=vm (s:=s) hx nx Hn.out.symm ω ω;go_wp2_with(first |(go_at_call 228;refine(df _ _ _ xs ys _ _ _ _ ha hb hx hy nx ny Hn.out Hm.out ω ω).mono ?_;rintro e w' ⟨rfl,q,rfl⟩)|(go_at_call 231;refine(bits_LeadingZeros32 _ _ ω ω).mono ?_;rw[Int.toNat_natCast,es];rintro e w' ⟨rfl,hw'⟩;subst hw')|(go_at_call 232;fail_if_success skip));refine(EX _ b ys m cb s (hb.drewN q) hy Hm.out lm ω hupm.out).mono ?_;rintro e w1 ⟨av,cv,rfl,hvl,hvb⟩;have hB1:Below w w w1:=(below_drewN (Below.refl _ _) q).trans hvb;go_wp2_with fail;refine(EN _ a xs n ca s (ha.below hB1) hx Hn.out ln s31).mono ?_;rintro e w2 ⟨au,p,cu,rfl,hul,hp,hcu,hub⟩;have hB2:Below w w w2:=τ hB1 hub;rw[<-hp]at hud1 hud2;have Hp:=hid hp;clear hp;obtain⟨qn,hqn1,hqn2⟩: ∃qn,qn+m<=n+1/\n+1<=qn+m:=⟨n+1-m,ω,ω⟩;go_wp2_with(first |(at_builtin;refine kX rfl _ _ 192 rfl 25 (Ψ 0) 4 underlying192 bz rfl .u32 au p cu (rep (val xs*2^s)) rfl (hul.below ((Below.refl _ _).alloc ι _)) Hp.out ω ⟨w2,0,none⟩ 2 2 [Ψ 0,Ψ 0] rfl rfl (cell_two_new _ _ _ _) (by simp[Value.oneCell']) ω ω ω ?_;intro g0 cs capu w3 hg0 hrow hcl hcap hct hbel3)|(at_make;refine aI rfl _ _ _ rfl 25 (Ψ 0) 4 underlying192 bz rfl _ _ _ _ qn qn rfl rfl ω ω ω ω ω ?_;intro w4 gq hgq1 hgq2 hrowq hbel4));obtain⟨us0,hus0⟩:=ξ ((rep (val xs*2^s)++[0,0]).take (n+1));obtain⟨hu1,hu2,hu3⟩:=hud3 us0 hus0
   have hrow0:Row w3 g0 25 (aC .u32 us0++cs.drop (n+1)):=by
    have e:aC .u32 us0=cs.take (n+1):=by
     have h:=congrArg (List.take (n+1)) hct;rw[List.take_take,Nat.min_eq_left ω]at h;rw[h,hus0,<-qo,bw];rfl
    rw[e,List.take_append_drop];exact hrow
   have hD:=Div.start hx hy ny Hn.out.symm (Hm.out.symm.trans Hmk.out) (by have:=Hmk.out;omega) hu1 hu2 hu3;clear hud3 hus0 hct hrow;obtain⟨ex,hex⟩:=ξ (cs.drop (n+1));rw[<-hex]at hrow0;clear hex;have hb3:=bE hbel3;have hB3:=DW hB2 hb3;have hvl3:=(hvl.below hub).below hb3
   have hvg: ∀b off,av=some ⟨b,off,none⟩->b≠g0:=by
    intro b off e;have h1:=hvl.block_lt (by rw[hupm.out];exact hmpos) b off e;have:=hub.size;rw[World.size_alloc]at hg0;omega
   have hg0B:w.heap.size<=g0:=(by have:=hB2.size;rw[World.size_alloc]at hg0;omega);clear hvl hul hub hvb hB1 hB2 hbel3 hb3 hg0;have hqk:n-k=qn:=by have:=Hmk.out;omega
   rw[hqk,Hmk.out.symm]at hD;have HD:=hid hD;clear hD;have hVW:=hid (show val ys*2^s<W m by have:=cK (val ys*2^s);rwa [hupm.out]at this);have HK:=hid hqk;clear hqk;have HU1:=hid hu1;clear hu1;have HU3:=hid hu3;clear hu3;clear cy iy;have hg0lt:=hrow0.lt
   have hvq: ∀b off,av=some ⟨b,off,none⟩->b≠gq:=by
    intro b off e;have h1:=hvl3.block_lt (by rw[hupm.out];exact hmpos) b off e;omega
   go_loopw[13] (fun i wr=> ∃(k2:Nat) (us qs:List Nat),k2<=qn/\i= .int .i64 ((k2:Int)-1)/\Div us0 us qs (val ys*2^s) m k2/\Row wr g0 25 (aC .u32 us++ex)/\Row wr gq 25 (aC .u32 qs)/\Lay .u32 wr av (rep (val ys*2^s))/\Below w w wr) (fun i _=>(intOf i+1).toNat);case atStart=>exact⟨qn,us0,List.replicate qn 0,Nat.le_refl _,by go_num,HD.out,hrow0.below hbel4 hg0lt,by rw[aG];exact hrowq,hvl3.below hbel4,DW hB3 hbel4⟩
   case round=>
    obtain⟨k2,us,qs,hk2,rfl,hdiv,hru,hrq,hlv,hbl⟩:=hrel;have HDv:=hid hdiv;clear hdiv;by_cases h0:k2=0
    ·subst h0;have hul:=HDv.out.lim;have hql:=HDv.out.qlim;have hlu:=hru.layX;have hlq:=hrq.lay;have l1:n+1=us.length:=by rw[HDv.out.len,HU1.out]
     have l2:qn=qs.length:=(by have:=HDv.out.qlen;rw[HU1.out]at this;omega);have hle1:=aQ hul;rw[<-l1]at hle1;have hle2:=aQ hql;rw[<-l2]at hle2;have L1:=hid l1;clear l1;have L2:=hid l2;clear l2;have p2:0<2^s:=Nat.pow_pos δ
     have hq:Hid (val qs=val xs/val ys):=by
      unfold Hid;rw[HDv.out.done.1,HU3.out,Nat.mul_div_mul_right _ _ p2]
     have hr:Hid (val us/2^s=val xs%val ys):=by
      unfold Hid;rw[HDv.out.done.2,HU3.out,Nat.mul_mod_mul_right,Nat.mul_div_cancel _ p2]
     have hln:=hlu.norm hul;have hlim2:=aB (val us);have hnorm2:=bh (val us);clear hbl32 hbl1 hcu;go_wp2_with fail;refine(dA _ _ us _ _ hlu hul L1.out ω ω).mono ?_;rintro e w' ⟨rfl,rfl⟩;go_wp2_with fail;refine(pK _ _ (rep (val us)) _ _ s hln hlim2 hnorm2 rfl ω ω ω).mono ?_;rintro e w5 ⟨ar,car,rfl,hr1,hr2,hr3⟩;rw[aE]at hr1 hr2;rw[aE];have hlq5:=hlq.below hr3;go_wp2_with(go_at_call 224;refine(dA _ _ qs _ _ hlq5 hql L2.out ω ω).mono ?_;rintro e w' ⟨rfl,rfl⟩);go_ret2;rw[<-hq.out,<-hr.out];exact⟨_,_,_,_,rfl,hle2,hr1,hlq5.norm hql,hr2,DW hbl hr3⟩
    ·obtain⟨j,rfl⟩: ∃j,k2=j+1:=⟨k2-1,ω⟩;have hj:((j+1:Nat):Int)-1=(j:Int):=ω
     rw[hj];clear hj h0;have l1:us.length=n+1:=by rw[HDv.out.len,HU1.out]
     have l2:qs.length=qn:=(by have:=HDv.out.qlen;rw[HU1.out]at this;omega);have hlt:=HDv.out.seg_lt' hVW.out hmpos
     have hqlt:seg us j (m+1)/(val ys*2^s)<4294967296:=by
      rw[Nat.div_lt_iff_lt_mul (Nat.lt_of_le_of_lt (Nat.zero_le _) HDv.out.rest),Nat.mul_comm];exact hlt
     have hst:=Bs wr g0 j (capu-j) cv m av us (rep (val ys*2^s)) ex hru HDv.out.lim hlv (aB _) hvg hupm.out.symm ω ω ω (by rw[show m-1=k from by have:=Hmk.out;omega];exact hup2) (by rw[aE];exact hlt);simp only[aE]at hst;have HS:=hid hst;clear hst;have L1:=hid l1;clear l1;have L2:=hid l2;clear l2;have hq0:=hrq.cell (i:=j) (by rw[L2.out];omega);obtain⟨qd,hqd⟩:=ξ (seg us j (m+1)/(val ys*2^s));have Hqd:=hid hqd;clear hqd;rw[<-Hqd.out]at hqlt;have hsl1:j<capu:=ω
     have hsl2:(j:Int)+(m:Int)+1<=(capu:Int):=ω;have hgne:gq≠g0:=ω
     clear hlt hbl32 hbl1 hud1 hud2 hcu;go_wp2_with fail;rw[show j+m+1-j=m+1 from by omega];refine HS.out.mono ?_;rw[<-Hqd.out];rintro e w5 ⟨rfl,us',hs1,hs2,hs3,hs4,hs5,hs6,hs7⟩;have hdn:=HDv.out.step hVW.out hmpos hs1 hs2 hs4 hs5 hs6;have HDn:=hid hdn;clear hdn;have hrq5:=hrq.grown hs7 hgne;have hq0':=hrq5.cell (i:=j) (by rw[L2.out];omega);have hfk:=hrq5.free j;have hlv5:=hlv.grown hs7 hvg;have hbl5:=hbl.trans (oW hs7 hg0B hbl.size);clear hs1 hs4 hs5 hs6 hq0;go_wp2;go_roundw;case rel=>exact⟨j,us',qs.set j qd,ω,by go_num,by rw[Hqd.out];exact HDn.out,hs3.other (by exact fun e=>hgne e.symm) _,hrq5.store _ _ _ ω,hlv5.other hvq _ _,aw hbl5 ω _⟩
     case measure=>first |(simp[intOf];done)|(simp[intOf];omega)
structure Only (ps:List Nat) (w w':World):Prop where
 os:w'.os=w.os
 tape:w'.tape=w.tape
 output:w'.output=w.output
 size:w.heap.size<=w'.heap.size
 block: ∀k,k<w.heap.size->k∉ps->w'.heap[k]? =w.heap[k]?
theorem Only.refl(ps:List Nat)(w:World):Only ps w w:=⟨rfl,rfl,rfl,Nat.le_refl _,fun _ _ _=>rfl⟩
theorem Only.of_below{ps:List Nat}{w w':World}(h:Below w w w'):Only ps w w':=⟨h.os,h.tape,h.output,h.size,fun k a _=>h.block k a⟩
theorem Only.below{w w':World}(h:Only [] w w'):Below w w w':=⟨h.os,h.tape,h.output,h.size,fun k a=>h.block k a (by simp)⟩
theorem Only.ah{ps:List Nat}{w w':World}(h:Only ps w w'){B:Nat}(d:B<=w.heap.size)(b: ∀p∈ps,B<=p):Below B w w':=
 ⟨h.os,h.tape,h.output,h.size,fun k c=>h.block k ω (fun a=>by have:=b k a;omega)⟩
theorem Only.trans{ps qs:List Nat}{w w1 c:World}(h:Only ps w w1)(k:Only qs w1 c)(e: ∀q∈qs,q∈ps∨w.heap.size<=q):Only ps w c:=
 ⟨k.os.trans h.os,k.tape.trans h.tape,k.output.trans h.output,Nat.le_trans h.size k.size,fun i a b=>by
  rw[k.block i (Nat.lt_of_lt_of_le a h.size) (fun d=>by rcases e i d with h|h;exact b h;omega),h.block i a b]⟩
theorem Only.mono{ps qs:List Nat}{w w':World}(h:Only ps w w')(d: ∀q∈ps,q∈qs):Only qs w w':=
 ⟨h.os,h.tape,h.output,h.size,fun k a b=>h.block k a (fun c=>b (d k c))⟩
theorem Only.setCell{ps:List Nat}{w w':World}(h:Only ps w w'){a:Addr}(d:a.block∈ps)(v:Value):Only ps w (w'.setCell a v):=
 ⟨h.os,h.tape,h.output,by have:=h.size;simpa[World.setCell]using this,fun k c b=>by rw[Below.heap_setCell _ _ _ _ (fun e=>b (by rw[e];exact d))];exact h.block k c b⟩
theorem Only.drewN{ps:List Nat}{w w':World}(h:Only ps w w')(n:Nat):Only ps w (w'.drewN n):=⟨h.os,h.tape,h.output,h.size,h.block⟩
theorem Only.drew{ps:List Nat}{w w':World}(h:Only ps w w'):Only ps w w'.drew:=⟨h.os,h.tape,h.output,h.size,h.block⟩
theorem Only.alloc{ps:List Nat}{w w':World}(h:Only ps w w')(o:Obj):Only ps w (w'.alloc o):=
 h.trans (Only.of_below (ps:=[]) ((Below.refl _ _).alloc ι o)) (fun q b=>by cases b)
theorem Row.only{ps:List Nat}{w w':World}{g:Nat}{e:TypeId}{a:List Value}(h:Row w g e a)(b:Only ps w w')(c:g∉ps):Row w' g e a:=by
 have:=h.lt;unfold Row at*;rw[b.block g this c];exact h
theorem Lay.only{ps:List Nat}{K:IntKind}{w w':World}{a:Option Addr}{l:List Nat}(h:Lay K w a l)(g:Only ps w w')(d:0<l.length->∀b c,a=some ⟨b,c,none⟩->b∉ps):Lay K w' a l:=by
 obtain⟨b,c,h1,j⟩:=h;refine⟨b,c,fun f=>⟨(h1 f).1,by have:=g.size;have:=(h1 f).2;omega⟩,fun i k=>?_⟩;have e:=h1 ω;rw[<-j i k];exact World.cell?_of_block (g.block b e.2 (d ω b c e.1))
def IntAt(w:World)(p:Nat)(z:Int):Prop:=
 ∃a cap,Row w p 194 [.bool (decide (z<0)),.slice a (rep z.natAbs).length cap]/\Lay .u32 w a (rep z.natAbs)/\(rep z.natAbs).length<=cap
def IntBlocks(w:World)(ps:List Nat):Prop:= ∀p∈ps,∃z,IntAt w p z
theorem IntAt.lt{w:World}{p:Nat}{z:Int}(h:IntAt w p z):p<w.heap.size:=by obtain⟨_,_,h,_⟩:=h;exact h.lt
theorem Lay.bd{K:IntKind}{w:World}{a:Option Addr}{l:List Nat}{ps:List Nat}(h:Lay K w a l)(o:IntBlocks w ps):0<l.length->∀b d,a=some ⟨b,d,none⟩->b∉ps:=by
 intro i b d e m;obtain⟨p,g,h1,j⟩:=h;have f:=(h1 i).1;rw[e]at f;simp only[Option.some.injEq,Addr.mk.injEq,and_true]at f;obtain⟨rfl,rfl⟩:=f;obtain⟨z,q,cap,k,_⟩:=o b m;have c:=j 0 i;rw[k.ae]at c
 match d,c with
 |0,c=>simp at c
 |1,c=>simp at c
 |n+2,c=>simp at c
theorem IntAt.only{w w':World}{p:Nat}{z:Int}{ps:List Nat}(h:IntAt w p z)(c:Only ps w w')(e:p∉ps)(f:IntBlocks w ps):IntAt w' p z:=by
 obtain⟨a,cap,h1,b,d⟩:=h;exact⟨a,cap,h1.only c e,b.only c (b.bd f),d⟩
theorem IntAt.below{w w':World}{p:Nat}{z:Int}(h:IntAt w p z)(b:Below w w w'):IntAt w' p z:=
 h.only (ps:=[]) (Only.of_below b) (by simp) (fun p a=>by cases a)
theorem IntBlocks.nil(w:World):IntBlocks w []:=fun p a=>by cases a
theorem IntBlocks.one{w:World}{p:Nat}{z:Int}(h:IntAt w p z):IntBlocks w [p]:=fun q a=>by
 rw[List.mem_singleton]at a;subst a;exact⟨z,h⟩
theorem IntBlocks.two{w:World}{p q:Nat}{y z:Int}(h:IntAt w p y)(k:IntAt w q z):IntBlocks w [p,q]:=fun r a=>by
 rcases List.mem_cons.1 a with rfl|a
 ·exact⟨y,h⟩
 ·rw[List.mem_singleton]at a;subst a;exact⟨z,k⟩
theorem IntAt.new(w:World):IntAt (w.alloc (.cells #[.bool false,.slice none 0 0] 194)) w 0:=
 ⟨none,0,by unfold Row;exact heap_alloc_new _ _,Lay.nil _ _ _,by simp[eE]⟩
theorem IntAt.drewN{w:World}{p:Nat}{z:Int}(h:IntAt w p z)(n:Nat):IntAt (w.drewN n) p z:=h
def fD(w w':World)(e:Ending)(p:Nat)(z:Int):Prop:=
 e= .returned (E p)/\IntAt w' p z/\Only [p] w w'
theorem E8{w:World}{p:Nat}{k c1:Value}{a:Option Addr}{z:Int}{cap:Nat}{b:Bool}(m:Row w p 194 [k,c1])(d:Lay .u32 w a (rep z.natAbs))(q:(rep z.natAbs).length<=cap)(u: ∃y,IntAt w p y)(v:b=decide (z<0)):IntAt ((w.setCell ⟨p,0,none⟩ (.bool b)).setCell ⟨p,1,none⟩ (.slice a (rep z.natAbs).length cap)) p z:=by
 obtain⟨y,j⟩:=u;have f:Only [p] w ((w.setCell ⟨p,0,none⟩ (.bool b)).setCell ⟨p,1,none⟩ (.slice a (rep z.natAbs).length cap)):=((Only.refl [p] w).setCell (by simp) _).setCell (by simp) _;refine⟨a,cap,?_,d.only f (d.bd (IntBlocks.one j)),q⟩;have:=(m.af 0 (.bool b)).af 1 (.slice a (rep z.natAbs).length cap);rw[<-v];exact this
theorem ck(w:World)(p:Nat)(y z:Int)(f:Bool)(a:Option Addr)(n cap:Nat)(F:IntAt w p y)(L:Lay .u32 w a (rep z.natAbs))(r:n=(rep z.natAbs).length)(M:n<=cap)(hs:(f=true->z<=0)/\(f=false->0<=z)):Calls prog 159 #[E p,.bool f,.slice a n cap] w fun e w'=>fD w w' e p z:=by
 have G: ∃y,IntAt w p y:=⟨y,F⟩;obtain⟨O,D,x,_,_⟩:=F;obtain⟨P,c1,Q,R⟩:=x.four;have k:n=0↔z=0:=by rw[r,rep_length_zero];omega
 have j: ∀b:Bool,b=decide (z<0)->IntAt ((w.setCell ⟨p,0,none⟩ (.bool b)).setCell ⟨p,1,none⟩ (.slice a n cap)) p z:=by
  intro b I;rw[r];exact E8 x L (by rw[<-r];exact M) G I
 have u:=hid j;clear j;have A:=hid k;clear k;clear r x;have B: ∀b:Bool,Only [p] w ((w.setCell ⟨p,0,none⟩ (.bool b)).setCell ⟨p,1,none⟩ (.slice a n cap)):=fun b=>((Only.refl [p] w).setCell (by simp) _).setCell (by simp) _
 have v:=hid B;clear B;cases f with
 |false=>
  have h0:=hs.2 rfl;clear hs;go_enter func159,ntmps159;go_wp2;go_ret;exact⟨rfl,u.out false (by simp;omega),v.out _⟩
 |true=>
  have h0:=hs.1 rfl;clear hs;by_cases q:n=0
  ·have d:=hid (A.out.1 q);subst q;go_enter func159,ntmps159;go_wp2;go_ret;exact⟨rfl,u.out false (by rw[d.out];rfl),v.out _⟩
  ·have d:z≠0:=fun e=>q (A.out.2 e)
   have m:0<n:=ω;have N:decide (0<n)=true:=by simp[m]
   have H:=hid d;clear d;clear q;go_enter func159,ntmps159;go_wp2;go_ret;exact⟨rfl,u.out true (by have:=H.out;simp;omega),v.out _⟩
theorem Lay.drew{K:IntKind}{w:World}{a:Option Addr}{l:List Nat}(h:Lay K w a l):Lay K w.drew a l:=h
theorem IntAt.drew{w:World}{p:Nat}{z:Int}(h:IntAt w p z):IntAt w.drew p z:=h
theorem Only.of_drew{ps:List Nat}{w w':World}(h:Only ps w.drew w'):Only ps w w':=⟨h.os,h.tape,h.output,h.size,h.block⟩
theorem cz{w w':World}(h:Below w.drew.heap.size w.drew w'):Below w w w':=⟨h.os,h.tape,h.output,h.size,h.block⟩
theorem IntAt.use{w:World}{p:Nat}{z:Int}(h:IntAt w p z): ∃b a n cap,Hid (b=decide (z<0))/\Hid (n=(rep z.natAbs).length)/\n<=cap/\Lay .u32 w a (rep z.natAbs)/\(∀w',Only [] w w'->w'.cell? ⟨p,0,none⟩=some (.bool b)/\w'.cell? ⟨p,1,none⟩=some (.slice a n cap)):=by
 obtain⟨a,cap,d,f,j⟩:=h;refine⟨_,a,_,cap,rfl,rfl,j,f,fun w' k=>?_⟩;have:=d.only k (by simp);exact⟨this.ae 0,this.ae 1⟩
theorem xM(w:World)(p q:Nat)(y z:Int)(u:IntAt w p y)(v:IntAt w q z)(hs:(rep z.natAbs).length<=68719476736):Calls prog 156 #[E p,E q] w fun e w'=>fD w w' e p (-z):=by
 obtain⟨b,a,n,cap,j,d,x,k,c⟩:=v.use;obtain⟨A,c1⟩:=c w (Only.refl _ _);have f:=hid c;clear c;rw[<-d.out]at hs;go_enter func156,ntmps156;go_wp2;go_region_with (first |(go_at_call 225;refine(mb _ a (rep z.natAbs) n cap ?_ d.out ω).mono ?_;exact k.drew;rintro e w1 ⟨a',c',rfl,h1,h2,h3⟩;have i:=(f.out w1 (Only.of_below (cz h3))).1)|(go_at_call 159;refine(ck _ p y (-z) _ _ n _ ?_ ?_ ?_ ?_ ?_).mono ?_;exact u.drew.below h3;rw[Int.natAbs_neg];assumption;rw[Int.natAbs_neg];exact d.out;assumption;rw[j.out];(constructor<;>intro h<;>simp at h<;>omega);rintro e B ⟨rfl,h4,h5⟩));all_goals go_wp2
 all_goals go_ret
 all_goals exact⟨rfl,h4,(Only.of_below (cz h3)).trans h5 (by simp)⟩
def d8(z:Int):Int:=if z<0 then -1 else if z=0 then 0 else 1
theorem uk(w:World)(q:Nat)(z:Int)(j:IntAt w q z):Calls prog 80 #[E q] w fun e w'=>e= .returned (I (d8 z))/\w=w':=by
 obtain⟨b,a,n,cap,k,l,m,o,d⟩:=j.use;obtain⟨p,c1⟩:=d w (Only.refl _ _);clear d;have f:n=0↔z=0:=by rw[l.out,rep_length_zero];omega
 by_cases c:z<0
 ·have:b=true:=(by rw[k.out];simpa using c);subst this;have e:d8 z= -1:=by unfold d8;rw[if_pos c]
  rw[e];clear f e c;go_enter func80,ntmps80;go_wp2;go_ret;exact⟨rfl,rfl⟩
 ·have:b=false:=(by rw[k.out];simpa using c);subst this;by_cases g:z=0
  ·have i:n=0:=f.2 g;have e:d8 z=0:=by unfold d8;rw[if_neg c,if_pos g]
   rw[e];clear f e c g l;subst i;go_enter func80,ntmps80;go_wp2;go_ret;exact⟨rfl,rfl⟩
  ·have i:n≠0:=fun h=>g (f.1 h)
   have e:d8 z=1:=(by unfold d8;rw[if_neg c,if_neg g]);have j:((n:Int)==0)=false:=nE
   rw[e];clear f e c g;go_enter func80,ntmps80;go_wp2;go_ret;exact⟨rfl,rfl⟩
theorem oK(w:World)(q:Nat)(z:Int)(i:IntAt w q z)(hs:(rep z.natAbs).length<=68719476736):Calls prog 79 #[E q] w fun e w'=>e= .returned (I (dN z.natAbs:Nat))/\w=w':=by
 obtain⟨b,a,n,cap,j,d,k,f,c⟩:=i.use;obtain⟨p,c1⟩:=c w (Only.refl _ _);clear c;rw[<-d.out]at hs;go_enter func79,ntmps79;go_wp2_with fail;refine(oU _ a (rep z.natAbs) n cap f (aB _) (bh _) d.out ω).mono ?_;rw[aE];rintro e w' ⟨rfl,rfl⟩;go_wp2;go_ret;exact⟨rfl,rfl⟩
theorem Bk{N i:Nat}:wd (rep N) (i/32)/2^(i%32)%2=N/2^i%2:=by
 rw[sE,show 4294967296=2^(i%32)*(2*2^(31-i%32))from by rw[<-Nat.pow_succ',<-Nat.pow_add,show i%32+(31-i%32+1)=32 from by omega],Nat.mod_mul_right_div_self,Nat.mod_mul_right_mod,Nat.div_div_eq_div_mul,Nat.mul_comm,<-ma]
theorem Ea(w:World)(q i:Nat)(z:Int)(D:IntAt w q z)(O:i<=9223372036854775807):Calls prog 160 #[E q,I i] w fun e w'=>e= .returned (.int .u64 (z.natAbs/2^i%2:Nat))/\w=w':=by
 obtain⟨b,a,n,cap,H,B,L,C,c⟩:=D.use;obtain⟨M,c1⟩:=c w (Only.refl _ _);clear c;rw[<-Bk];obtain⟨d,s⟩:=ξ (i/32);obtain⟨r,u⟩:=ξ (i%32);have F:(i:Int)/32=d:=ω
 have G:(i:Int)%32=r:=ω
 rw[<-s,<-u];have o:d<=9223372036854775807:=ω
 have p:r<32:=ω
 clear s u;have h1:=(aB z.natAbs).wd d;obtain⟨x,m⟩:=ξ (wd (rep z.natAbs) d);rw[<-m]at h1 ⊢;have f:=ee w a (rep z.natAbs) n cap d C (aB _) B.out ω ω;rw[Int.toNat_natCast,<-m]at f;have v:=hid f;clear f m;have y:(2:Int)^r=((2^r:Nat):Int):=by rw[Int.natCast_pow];rfl
 obtain⟨j,g⟩:=ξ (2^r);have A:0<j:=by rw[g];exact Nat.pow_pos δ
 rw[<-g]at y ⊢;clear g
 have k:bits .and .u64 ((x:Int)/(j:Int)) 1=((x/j%2:Nat):Int):=by
  have h:=Nat.div_le_self x j;rw[<-Int.natCast_ediv];generalize x/j=t at*
  rw[and_one_u64 _ ω ω,Int.natCast_emod];rfl
 obtain⟨N,l⟩:=ξ (x/j%2);rw[<-l]at k ⊢;clear l;go_enter func160,ntmps160;go_wp2_with(go_at_call 227;refine v.out.mono ?_;rintro e w' ⟨rfl,rfl⟩);go_ret;exact⟨rfl,rfl⟩
end Go.Proofs.YtfefijlnbhbplaaGreatDoor

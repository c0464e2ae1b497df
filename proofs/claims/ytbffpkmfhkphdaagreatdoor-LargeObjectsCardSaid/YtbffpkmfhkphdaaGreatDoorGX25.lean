/- The walks of the document's layer 1: Kind, Value, Small, Fits, May, Unpack, Pack, Length. The walk of package heap's Make. -/
import Derived.Test.YtbffpkmfhkphdaaGreatDoorGX24
import Derived.Test.YtbffpkmfhkphdaaGreatDoorGX10
import Derived.Test.YtbffpkmfhkphdaaGreatDoorGX00
import Derived.Laws.CopyOwn
set_option linter.unusedVariables false
set_option linter.unusedSimpArgs false
set_option maxRecDepth 1000000
set_option maxHeartbeats 6400000
namespace Go.Proofs.YtbffpkmfhkphdaaGreatDoor
open Go Lib Go.RowKit Limb
theorem r_kind(w:World)(o:Nat)(ho:o<4294967296):Calls Tryz.prog 133 #[.int .u32 o] w fun e w'=>e= .returned (.int .i64 (kindN o))∧w=w':=by
 by_cases h0:o=0
 ·subst h0;rw[show kindN 0=0 from rfl];go_enter Tryz.func133,Tryz.ntmps133;go_wp2_with fail;go_ret;exact⟨rfl,rfl⟩
 ·have q0:((o:Int)==0)=false:=(by rw[beq_eq_false_iff_ne];omega);have q0':(o==0)=false:=by rw[beq_eq_false_iff_ne];omega
  by_cases h1:o%2=1
  ·have e:kindN o=1:=(by unfold kindN;rw[if_neg h0,if_pos h1]);have q1:((o:Int)%2==1)=true:=by rw[beq_iff_eq];omega
   rw[e];clear h0 h1 e;go_enter Tryz.func133,Tryz.ntmps133;go_wp2_with fail;go_ret;exact⟨rfl,rfl⟩
  ·have e:kindN o=2:=(by unfold kindN;rw[if_neg h0,if_neg h1]);have q1:((o:Int)%2==1)=false:=by rw[beq_eq_false_iff_ne];omega
   rw[e];clear h0 h1 e;go_enter Tryz.func133,Tryz.ntmps133;go_wp2_with fail;go_ret;exact⟨rfl,rfl⟩
theorem r_fits(w:World)(n:Int):Calls Tryz.prog 207 #[.int .i64 n] w fun e w'=>e= .returned (.bool (isSm n))∧w=w':=by
 unfold isSm;by_cases h1: -1073741824≤n
 ·have d1:decide (-1073741824≤n)=true:=decide_eq_true h1;by_cases h2:n≤1073741823
  ·have d2:decide (n≤1073741823)=true:=decide_eq_true h2;rw[d1,d2];go_enter Tryz.func207,Tryz.ntmps207;go_wp2_with fail;go_ret;exact⟨rfl,rfl⟩
  ·have d2:decide (n≤1073741823)=false:=decide_eq_false h2;rw[d1,d2];go_enter Tryz.func207,Tryz.ntmps207;go_wp2_with fail;go_ret;exact⟨rfl,rfl⟩
 ·have d1:decide (-1073741824≤n)=false:=decide_eq_false h1;rw[d1];go_enter Tryz.func207,Tryz.ntmps207;go_wp2_with fail;go_ret;exact⟨rfl,rfl⟩
theorem r_small(w:World)(n:Int)(hn:isSm n=true):Calls Tryz.prog 139 #[.int .i64 n] w fun e w'=>e= .returned (.int .u32 (smallO n))∧w=w':=by
 unfold isSm at hn;simp only[Bool.and_eq_true,decide_eq_true_eq]at hn;obtain⟨h1,h2⟩:=hn;by_cases h0:2*n+1<0
 ·have d1:decide (2*n+1<0)=true:=decide_eq_true h0;have e:((smallO n:Nat):Int)=2*n+1+4294967296:=by unfold smallO;omega
  rw[e];go_enter Tryz.func139,Tryz.ntmps139;go_wp2_with fail;go_ret;exact⟨by first |rfl|(congr 3;omega),rfl⟩
 ·have d1:decide (2*n+1<0)=false:=decide_eq_false h0;have e:((smallO n:Nat):Int)=2*n+1:=by unfold smallO;omega
  rw[e];go_enter Tryz.func139,Tryz.ntmps139;go_wp2_with fail;go_ret;exact⟨by first |rfl|(congr 3;omega),rfl⟩
theorem r_value(w:World)(o:Nat)(ho:o<4294967296)(h1:o%2=1):Calls Tryz.prog 134 #[.int .u32 o] w fun e w'=>e= .returned (.int .i64 (valueO o))∧w=w':=by
 by_cases h0:o<2147483648
 ·have d1:decide (2147483648≤(o:Int))=false:=decide_eq_false (by omega);have d2:decide (2147483648≤o)=false:=decide_eq_false (by omega);have e:valueO o=((o:Int)-1)/2:=by unfold valueO;rw[if_pos h0]
  rw[e];go_enter Tryz.func134,Tryz.ntmps134;go_wp2_with fail;go_ret;exact⟨by first |rfl|(congr 3;omega),rfl⟩
 ·have d1:decide (2147483648≤(o:Int))=true:=decide_eq_true (by omega);have d2:decide (2147483648≤o)=true:=decide_eq_true (by omega);obtain⟨m,hm⟩: ∃m:Nat,o=4294967296-(2*m+1)∧m<1073741824:=⟨(4294967295-o)/2,by omega,by omega⟩;have e:valueO o= -((m:Int)+1):=by unfold valueO;rw[if_neg h0];omega
  rw[e];have Hm:=hid hm;clear hm e h0;go_enter Tryz.func134,Tryz.ntmps134;go_wp2_with fail;rw[show((o:Int)-4294967296-1)=2*(-((m:Int)+1)) by have:=Hm.out;omega,Int.mul_tdiv_cancel_left _ (by decide:(2:Int)≠0)];go_ret;exact⟨rfl,rfl⟩
theorem r_may(w:World)(h:Hd)(k:h.Ok):Calls Tryz.prog 277 #[hdV h] w fun e w'=>e= .returned (.bool true)∧Below w.heap.size w w':=by
 have HE:=hid ((Below.refl w.heap.size w).alloc (Nat.le_refl _) (.cells #[.int .i64 h.size,.int .i64 h.fmt,.int .i64 h.spare,.int .u32 h.cls,.int .u32 h.ser] 159));obtain⟨k1,k2,k3,k4,k5⟩:=k;unfold hdV;obtain⟨sz,fm,sp,cl,se⟩:=h;simp only at k1 k2 k3 k4 k5 HE ⊢;have d1:decide ((sz:Int)<0)=false:=decide_eq_false (by omega);have d2:decide ((65535:Int)<(sz:Int))=false:=decide_eq_false (by omega);have d2':decide (65535<sz)=false:=decide_eq_false (by omega);have d3:decide ((fm:Int)<1)=false:=decide_eq_false (by omega);have d3':decide (fm<1)=false:=decide_eq_false (by omega);have d3'':decide (fm=0)=false:=decide_eq_false (by omega);have d4:decide ((4:Int)<(fm:Int))=false:=decide_eq_false (by omega);have d4':decide (4<fm)=false:=decide_eq_false (by omega);have d5:decide ((sp:Int)<0)=false:=decide_eq_false (by omega);have d6:decide ((3:Int)<(sp:Int))=false:=decide_eq_false (by omega);have d6':decide (3<sp)=false:=decide_eq_false (by omega);by_cases h0:sp=0
 ·subst h0;clear k1 k2 k3 k4 k5;go_enter Tryz.func277,Tryz.ntmps277;go_wp2_with fail;go_ret;exact⟨rfl,HE.out⟩
 ·obtain⟨rfl,h2⟩:fm=2∧0<sz:=(by rcases k5 with x|x;exact absurd x h0;exact x);have q1:((sp:Int)==0)=false:=by rw[beq_eq_false_iff_ne];omega
  have q1':(sp==0)=false:=(by rw[beq_eq_false_iff_ne];omega);have d7:decide ((0:Int)<(sz:Int))=true:=decide_eq_true (by omega);have d7':decide (0<sz)=true:=decide_eq_true h2;clear k1 k2 k3 k4 k5 h0 h2;go_enter Tryz.func277,Tryz.ntmps277;go_wp2_with fail;go_ret;exact⟨rfl,HE.out⟩
theorem r_pack(w:World)(h:Hd)(k:h.Ok):Calls Tryz.prog 212 #[hdV h] w fun e w'=>e= .returned (w3V h.w0 h.cls h.ser)∧Below w.heap.size w w':=by
 have hlt:=Hd.w0_lt k;have e0:h.w0=h.size+h.fmt*16777216+h.spare*134217728:=rfl;unfold hdV w3V;rw[e0]at hlt ⊢;obtain⟨sz,fm,sp,cl,se⟩:=h;simp only at hlt ⊢;clear k e0;have k3:fm≤1000∧sp≤1000∧sz≤600000000:=by omega
 have HB:=hid (((Below.refl w.heap.size w).alloc (Nat.le_refl _) (.cells #[.int .i64 sz,.int .i64 fm,.int .i64 sp,.int .u32 cl,.int .u32 se] 159)).alloc (by rw[World.size_alloc];omega) (.cells #[.int .u32 ((sz+fm*16777216+sp*134217728:Nat):Int),.int .u32 cl,.int .u32 se] 254));go_enter Tryz.func212,Tryz.ntmps212;go_wp2_with fail;go_returns;exact⟨rfl,HB.out⟩
theorem r_unpack(w:World)(h:Hd)(k:h.Ok):Calls Tryz.prog 220 #[w3V h.w0 h.cls h.ser] w fun e w'=>e= .returned (.tuple #[hdV h,.bool true])∧Below w.heap.size w w':=by
 have hM:=fun X=>r_may X h k
 have hlt:=Hd.w0_lt k;have hu:=unp_w0 k;unfold unp at hu;have e1:h.w0%16777216=h.size:=congrArg Hd.size hu;have e2:h.w0/16777216%8=h.fmt:=congrArg Hd.fmt hu;have e3:h.w0/134217728%4=h.spare:=congrArg Hd.spare hu;unfold hdV at hM ⊢;unfold w3V;have f1:((h.w0:Nat):Int)%16777216=(h.size:Int):=by omega
 have f2:((h.w0:Nat):Int)/16777216%8=(h.fmt:Int):=by omega
 have f3:((h.w0:Nat):Int)/134217728%4=(h.spare:Int):=by omega
 have f4:((h.w0:Nat):Int)/536870912=0:=by omega
 have HM:=hid hM;clear hu e1 e2 e3 k hM;generalize h.w0=a at*
 generalize h.size=sz at*
 generalize h.fmt=fm at*
 generalize h.spare=sp at*
 generalize h.cls=c at*
 generalize h.ser=s at*
 obtain⟨W,hW,r1,hb1,hz1⟩:=alloc_row w 254 [.int .u32 a,.int .u32 c,.int .u32 s];obtain⟨V,hV,r2,hb2,hz2⟩:=alloc_row W 159 [.int .i64 0,.int .i64 0,.int .i64 0,.int .u32 0,.int .u32 0];rw[hz1]at r2;obtain⟨U,hU,r3,hb3,hz3⟩:=alloc_row V 159 [.int .i64 sz,.int .i64 fm,.int .i64 sp,.int .u32 c,.int .u32 s];rw[hz2,hz1]at r3;have hB:Below w.heap.size w U:=hb1.trans ((hb2.mono (by omega)).trans (hb3.mono (by omega)));replace r2:=r2.below hb3 r2.lt;have HV:=hid (show U=((w.alloc (.cells #[.int .u32 a,.int .u32 c,.int .u32 s] 254)).alloc (.cells #[.int .i64 0,.int .i64 0,.int .i64 0,.int .u32 0,.int .u32 0] 159)).alloc (.cells #[.int .i64 sz,.int .i64 fm,.int .i64 sp,.int .u32 c,.int .u32 s] 159) by rw[hU,hV,hW]);clear hV hW hU hz1 hz2 hz3 hb1 hb2 hb3 r1;go_enter Tryz.func220,Tryz.ntmps220;go_wp2_with fail;rw[←HV.out];refine(HM.out U).mono ?_;rintro e X ⟨rfl,hb⟩;(try dsimp only);replace r2:=r2.below hb r2.lt;replace r3:=r3.below hb r3.lt;replace hB:=hB.trans (hb.mono hB.size);clear hb HV HM f1 f2 f3 f4;obtain⟨p0,p1,p2,p3,p4⟩:=r3.cells5;obtain⟨q0,q1,q2,q3,q4⟩:=r2.cells5;have z0:=r2.free 0;have z1:=r2.free 1;have z2:=r2.free 2;have z3:=r2.free 3;have z4:=r2.free 4;have rr:=((((r2.store_any 0 (.int .i64 sz)).store_any 1 (.int .i64 fm)).store_any 2 (.int .i64 sp)).store_any 3 (.int .u32 c)).store_any 4 (.int .u32 s);obtain⟨f0,f1,f2,f3,f4⟩:=Row.cells5 rr;clear rr;go_wp2_with fail;refine bodyPost_ret (v:= .tuple #[.agg #[.int .i64 sz,.int .i64 fm,.int .i64 sp,.int .u32 c,.int .u32 s],.bool true]) (by simp[results,Tryz.results220,go_sem,f0,f1,f2,f3,f4]) rfl ⟨rfl,?_⟩;exact below_store (below_store (below_store (below_store (below_store hB (by omega) _) (by omega) _) (by omega) _) (by omega) _) (by omega) _
theorem r_length(w:World)(n:Nat)(hn:n≤300000):Calls Tryz.prog 234 #[.int .i64 n] w fun e w'=>e= .returned (.tuple #[.int .i64 ((n+3)/4:Nat),.int .i64 (4*((n+3)/4)-n:Nat)])∧w=w':=by
 obtain⟨N,hN⟩: ∃N,N=(n+3)/4:=⟨_,rfl⟩;rw[←hN];have HN:=hid hN;clear hN;go_enter Tryz.func234,Tryz.ntmps234;go_wp2_with fail;go_loopw[4] (fun i wr=> ∃k:Nat,k≤N∧i= .int .i64 k∧wr=w) (fun i _=>N-(intOf i).toNat);case atStart=>exact⟨0,Nat.zero_le _,rfl,rfl⟩
 case round=>
  obtain⟨k,hk,rfl,rfl⟩:=hrel;by_cases h0:k<N
  ·have d1:decide (4*(k:Int)<(n:Int))=true:=decide_eq_true (by have:=HN.out;omega);have hk2:k≤100000:=by have:=HN.out;omega
   go_wp2_with fail;go_roundw;case rel=>exact⟨k+1,h0,by simp,trivial⟩
   case measure=>simp[intOf];omega
  ·obtain rfl:k=N:=by omega
   have d1:decide (4*(k:Int)<(n:Int))=false:=decide_eq_false (by have:=HN.out;omega);have hk2:k≤100000:=by have:=HN.out;omega
   have es:4*(k:Int)-(n:Int)=((4*k-n:Nat):Int):=(by have:=HN.out;omega);go_wp2_with fail;go_ret2;exact⟨rfl,rfl⟩
end Go.Proofs.YtbffpkmfhkphdaaGreatDoor
namespace Go.Proofs.YtbffpkmfhkphdaaGreatDoor
open Go Lib Go.RowKit Limb
theorem wp_copy_run{P:Program}(w:World){o:Oper}{a:Act}{K:Act→World→Prop}{Q:Exit→Act→World→Prop}(s x:Operand)(t tn:TypeId)(ho:o.op= .call {callee:= .builtin .copy,args:= #[s,x],argTypes:= #[t,tn]})(vs vx:Value)(hs:a.eval s=vs)(hx:a.eval x=vx)(v':Value)(w':World)(hr:(Builtin.copy_ #[t,tn] o.type #[vs,vx]).run P w= .ok v' w')(h:K (a.put o.dst v') w'):o.wp P a w K Q:=by
 unfold Oper.wp execOp;simp only[ho,resolve,invoke,builtin,Sem.run_bind,Sem.run_pure,Result.andThen_ok,List.map_toArray,List.map_cons,List.map_nil,hs,hx,hr];exact h
theorem only_setRow(w:World)(g:Nat)(cs:Array Value):Only [g] w (w.setRow g cs):=
 ⟨rfl,rfl,rfl,by simp,fun k _ hn=>setRow_other w g k _ (fun e=>hn (by rw[e];simp))⟩
section
variable {w:World} {F:Foot} {h:Hp}
theorem HeapAt.copied{sp c m:Nat}{bs:List Nat}(H:HeapAt w F (addO h 2 sp c (List.replicate m 0)))(hl:bs.length=m)(hG:Limb.Good (addO h 2 sp c bs)){cur:List Value}{cw:Nat}(hr:Row w F.gw 60 cur)(hc:cur.length=cw)(hn:h.ws.length+3+m≤cw)(ht:cur.take (h.ws.length+3+m)=nums .u32 (addO h 2 sp c (List.replicate m 0)).ws)(hcell:w.cell? ⟨F.p,0,none⟩=some (.slice (some ⟨F.gw,0,none⟩) (h.ws.length+3+m) cw)):Step w F (w.setRow F.gw (cur.take (h.ws.length+3)++nums .u32 bs++cur.drop (h.ws.length+3+m)).toArray) F (addO h 2 sp c bs):=by
 obtain⟨cw',cs,rp,sw,ss⟩:=H.row;obtain⟨a1,a2,a3,a4,a5,a6⟩:=H.apart;have hlen:(addO h 2 sp c (List.replicate m 0)).ws.length=h.ws.length+3+m:=by rw[addO_len];simp
 have hlen2:(addO h 2 sp c bs).ws.length=h.ws.length+3+m:=by rw[addO_len,hl]
 obtain⟨k0,-⟩:=rp.cells5;rw[hcell,hlen]at k0;simp only[Option.some.injEq,Value.slice.injEq,true_and]at k0;subst k0;have ho:=only_setRow w F.gw (cur.take (h.ws.length+3)++nums .u32 bs++cur.drop (h.ws.length+3+m)).toArray;have hle:=sw.le;have e1:(addO h 2 sp c bs).st=(addO h 2 sp c (List.replicate m 0)).st:=by unfold addO;simp[hl]
 refine⟨⟨hG,H.spares.only ho (by have:=H.low;simp;omega),⟨cw,cs,?_,?_,?_⟩,?_,H.low⟩,Foot.Next.refl _ _,?_⟩
 ·have:=rp.only ho (by simp;omega);rw[hlen]at this;rw[hlen2];exact this
 ·rw[hlen2];refine⟨cur.take (h.ws.length+3)++nums .u32 bs++cur.drop (h.ws.length+3+m),setRow_heap w F.gw cur.toArray _ _ _ hr,?_,by rw[nums_length,hlen2],hn,hle.2,?_⟩
  ·simp[nums_length,hl];omega
  ·rw[List.take_append_of_le_length (by simp[nums_length,hl];omega),List.take_of_length_le (by simp[nums_length,hl];omega)]
   have h3:cur.take (h.ws.length+3)=(nums .u32 (addO h 2 sp c (List.replicate m 0)).ws).take (h.ws.length+3):=by
    rw[←ht,List.take_take,Nat.min_eq_left (by omega)]
   rw[h3,nums_take,←nums_append];congr 1;unfold addO;simp only[List.length_replicate,hl];rw[List.take_append,List.take_of_length_le (by omega),show h.ws.length+3-h.ws.length=3 by omega];simp
 ·rw[hlen2];have:=ss.only ho (by simp;omega);rw[hlen]at this;rw[e1];exact this
 ·exact H.roots.only ho (by simp;omega)
 ·exact ho.mono (fun q hq=>by rw[List.mem_singleton]at hq;subst hq;exact mem_gw F)
theorem makeP_some{c:Nat}{t:List Nat}{o:Nat}{h':Hp}(e:makeP h c t=some (o,h')):clsO h c=true∧room h ((t.length+3)/4)=true∧o=newO h∧h'=addO h 2 (4*((t.length+3)/4)-t.length) c (packB t):=by
 unfold makeP at e;split at e
 ·rename_i hc;rw[Bool.and_eq_true]at hc;rw[Option.some.injEq,Prod.mk.injEq]at e;exact⟨hc.1,hc.2,e.1.symm,e.2.symm⟩
 ·cases e
theorem heap_Make(H:HeapAt w F h)(c:Nat)(a:Option Addr)(t:List Nat)(n cap o:Nat)(h':Hp)(hlay:Lay .u8 w a t)(ht:B8 t)(hn:n=t.length)(h0:0<n)(hl:n≤262140)(hp:makeP h c t=some (o,h')):Calls Tryz.prog 233 #[.pointer (some ⟨F.p,0,none⟩),.int .u32 c,.slice a n cap] w fun e w'=>e= .returned (.tuple #[.int .u32 o,.int .i64 0])∧Moved w F w' h':=by
 obtain⟨hc,hr,ho,hh⟩:=makeP_some hp;have hcl:=clsO_lt H.good hc;have HPk:=hid (oop_packbytes w a t n cap hlay ht hn hl);obtain⟨m,hm⟩: ∃m,m=(n+3)/4:=⟨_,rfl⟩;obtain⟨sp,hsp⟩: ∃s,s=4*m-n:=⟨_,rfl⟩;have hpk:=HPk.out;rw[←hm,←hsp]at hpk;have HPk:=hid hpk;rw[←hn,←hm]at hr hh;rw[←hsp]at hh;have hbl:(packB t).length=m:=by rw[packB_length,←hn,hm]
 have hG:Limb.Good (addO h 2 sp c (packB t)):=by
  have:=good_make H.good ht (by omega) hc (by rw[←hn,←hm];exact hr);rw[←hn,←hm,←hsp]at this;exact this
 have hG0:Limb.Good (addO h 2 sp c (List.replicate m 0)):=by
  refine H.good.add (by rw[List.length_replicate];exact hr) ⟨?_,?_,?_,?_,?_⟩ hcl (Lim.replicate _ (by decide)) ?_
  ·show(List.replicate m 0).length≤65535;simp;omega
  ·show 1≤2;decide
  ·show 2≤4;decide
  ·show sp≤3;omega
  ·show sp=0∨(2=2∧0<(List.replicate m 0).length);simp;omega
  ·intro _ h3;rw[wd_replicate];exact Nat.two_pow_pos _
 have hA:=fun X (HX:HeapAt X F h)=>heap_alloc HX ⟨m,2,sp,c,0⟩ hc hcl ⟨show m≤65535 by omega,(by decide:1≤2),(by decide:2≤4),show sp≤3 by omega,.inr ⟨rfl,show 0<m by omega⟩⟩ hr 0 rfl hG0
 have ex:hdV ⟨m,2,sp,c,0⟩= .agg #[.int .i64 m,.int .i64 (2:Nat),.int .i64 sp,.int .u32 c,.int .u32 (0:Nat)]:=rfl;have hA2: ∀X,HeapAt X F h→Calls Tryz.prog 123 #[.pointer (some ⟨F.p,0,none⟩),.agg #[.int .i64 m,.int .i64 2,.int .i64 sp,.int .u32 c,.int .u32 0]] X fun e w'=> ∃F',e= .returned (.tuple #[.int .u32 o,.int .i64 0])∧Step X F w' F' (addO h 2 sp c (List.replicate m 0)):=fun X HX=>(hA X HX).mono fun e w' ⟨F',a,b⟩=>⟨F',by rw[ho];exact a,b⟩
 have HA:=hid hA2;have HE:=hid (fun X (hb:Below w.heap.size w X)=>H.below hb);have hFl:=H.lt;have hsm:=H.small;have hpos:=H.good.pos
 have hoi:o<4294967296∧kindN o=2∧o/2=h.ws.length:=by
  have e:o=2*h.ws.length:=ho;exact⟨by omega,kind_two.2 ⟨by omega,by omega⟩,by omega⟩
 have hat:=fun X p=>heap_at o hoi.1 X p
 have e5:idxN o=h.ws.length:=by unfold idxN;rw[if_pos hoi.2.1,hoi.2.2]
 rw[e5]at hat;have HAt:=hid hat;have Hh:=hid hh;have hmn:0<m:=by omega
 have hfit:h.ws.length+3+m≤h.size:=by
  unfold room at hr;rw[Bool.and_eq_true,decide_eq_true_eq]at hr;exact hr.1
 have HBL:=hid hbl;clear hpk hA hA2 ex hp hc hr ho hh hoi hat e5 hlay hsp hm hG0 H hn ht hbl;go_enter Tryz.func233,Tryz.ntmps233;go_wp2_with fail;refine(HPk.out).mono ?_;rintro e W1 ⟨⟨g,rfl,hg,hrow⟩,hB⟩;(try dsimp only);clear HPk;have H1:=HE.out W1 hB;go_wp2_with fail;refine(HA.out W1 H1).mono ?_;rintro e V ⟨F',rfl,hS⟩;(try dsimp only);have hgl:=hrow.lt;have hrow2:Row V g 60 (nums .u32 (packB t)):=hS.beside hrow (fun hm=>by have:=hFl _ hm;omega)
 have hne:g≠F'.gw:=by
  rcases hS.2.1.gw with e|e
  ·have:=hFl _ (mem_gw F);omega
  ·omega
 have HV:=hS.1;have hbl:=HBL.out;have HS:=hid hS;obtain⟨cw,cs,c0,-,-,-,-,sw,-⟩:=HV.cells;have hlen:(addO h 2 sp c (List.replicate m 0)).ws.length=h.ws.length+3+m:=by rw[addO_len];simp
 rw[hlen]at c0 sw;obtain⟨cur,q1,q2,q3,q4,q5,q6⟩:=sw;have hFp:F'.p=F.p:=hS.2.1.p;have hap:F'.p≠F'.gw:=HV.apart.1;have hFpl:F'.p<V.heap.size:=HV.lt _ (mem_p F');rw[hFp]at c0 hap hFpl;have HK:=hid (fun X (hX:Only [F'.gw] V X)=>show X.cell? ⟨F.p,0,none⟩=some (.slice (some ⟨F'.gw,0,none⟩) (h.ws.length+3+m) cw)from by rw[←c0];exact World.cell?_of_block (hX.block _ hFpl (by simp;exact hap)));have hcp:=run_copy_row (P:=Tryz.prog) V.drew 22 22 3 60 F'.gw (h.ws.length+3) m (cw-(h.ws.length+3)) ⟨g,0,none⟩ m m cur.toArray 60 (nums .u32 (packB t)) Tryz.underlying22 (by kernel_rfl) q1 (by rw[nums_length,hbl];simp) (row_news (w:=V.drew) hrow2) (by simp[nums_length,hbl];omega) (by simp[nums,Value.oneCell']);have hbl2:(nums IntKind.u32 (packB t)).length=m:=by rw[nums_length,hbl]
 rw[hbl2]at hcp;have HCP:=hid hcp;have hst:=(HV.drew).copied hbl hG (w:=V.drew) q1 q2 q4 q6 (by rw[hFp];exact c0);rw[List.append_assoc]at hst;have HST:=hid (show Moved w F _ h' from⟨F',by rw[Hh.out];exact Step.of_below hB ((HS.out).trans (Step.of_below (w':=V.drew) (Below.refl _ _).drew hst))⟩);have hXc:Only [F'.gw] V (V.drew.setRow F'.gw (cur.toArray.toList.take (h.ws.length+3)++nums .u32 (packB t)++cur.toArray.toList.drop (h.ws.length+3+m)).toArray):=((Only.refl _ V).drew).trans (only_setRow _ _ _) (fun q hq=> .inl hq);clear hcp hst hrow2 HS q1 q2 q5 q6 hS H1 hrow HA HE hbl hbl2 hlen;go_wp2_with fail;have hX:Only [F'.gw] V V.drew:=(Only.refl _ _).drew;refine wp_region_held (S:=fun X=>Only [F'.gw] V X) (by kernel_rfl) ?_;refine tk 0 (.pointer (some ⟨F.p,0,none⟩)) 34 hX ?_;simp only[Act.put,zA,zB,zC];refine tk 1 (.pointer (some ⟨F.p,0,none⟩)) 35 hX ?_;simp only[Act.put,zA,zB,zC];refine tk 2 (.pointer (some ⟨F.p,0,none⟩)) 36 hX ?_;simp only[Act.put,zA,zB,zC];refine tk 3 (.slice (some ⟨F'.gw,0,none⟩) (h.ws.length+3+m) cw) 37 hX ?_ (y:=fun X hX=>by have c0:=HK.out X hX;go_simp);simp only[Act.put,zA,zB,zC];refine tk 4 (.pointer (some ⟨F.p,0,none⟩)) 38 hX ?_;simp only[Act.put,zA,zB,zC];refine tk 5 (.int .u32 o) 39 hX ?_;simp only[Act.put,zA,zB,zC];refine tk 9 (.slice (some ⟨g,0,none⟩) m m) 43 hX ?_;simp only[Act.put,zA,zB,zC];refine wpAnyH_all (rs:=[6]) (by kernel_rfl) (by decide) (fun i hi=>?_);rw[List.mem_singleton]at hi;subst hi;unfold wpOp;go_simp;refine .inl ((HAt.out _ _).mono ?_);rintro e X1 ⟨rfl,rfl⟩;refine⟨hX,?_⟩;refine tk 7 (.int .i64 ((h.ws.length+3:Nat):Int)) 41 hX ?_ (y:=fun X hX=>by go_simp;all_goals(first |omega|exact i64_self (by omega) (by omega)|(rw[i64_self (by omega) (by omega)];omega)));simp only[Act.put,zA,zB,zC];refine tk 8 (.slice (some ⟨F'.gw,h.ws.length+3,none⟩) m (cw-(h.ws.length+3))) 42 hX ?_ (y:=fun X hX=>by go_simp;rw[if_pos ⟨by omega,by omega⟩,show((h.ws.length:Int)+3).toNat=h.ws.length+3 by omega,if_neg (by omega),Nat.add_sub_cancel_left]);simp only[Act.put,zA,zB,zC];refine wpAnyH_all (rs:=[10]) (by kernel_rfl) (by decide) (fun i hi=>?_);rw[List.mem_singleton]at hi;subst hi;refine wpOp_plain rfl rfl ?_;refine wp_copy_run _ (.tmp 42) (.tmp 43) 22 22 rfl _ _ rfl rfl _ _ HCP.out ?_;replace hX:=hXc;refine⟨hX,?_⟩;simp only[Act.put,zA,zB,zC];refine wpAnyH_done (by kernel_rfl) ?_ _;have HF:=HST;clear HK HCP hXc hX HST;go_wp2_with fail;go_ret2;exact⟨rfl,HF.out⟩
end
end Go.Proofs.YtbffpkmfhkphdaaGreatDoor

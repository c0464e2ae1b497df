/- Walks and laws that LargeData asks for. -/
import Derived.Test.YtfefijlnbhbplaaGreatDoorGX02
import Derived.Test.YtfefijlnbhbplaaGreatDoorGX01
import Derived.Deep.DeepCutAuto
import Derived.Deep.CutBlock
set_option linter.unusedVariables false
set_option linter.unusedSimpArgs false
set_option maxRecDepth 1000000
set_option maxHeartbeats 6400000
namespace Go.Proofs.YtfefijlnbhbplaaGreatDoor
open Go Lib Go.RowKit Limb Tryz
theorem Row.b9{w:World}{g:Nat}{e:TypeId}{k:IntKind}{zs:List Nat}{b:List Value}(h:Row w g e (aC k zs++b)){i:Nat}(a:i<zs.length):w.cell? ⟨g,i,none⟩=some (.int k (wd zs i:Nat)):=by
 rw[h.ae,List.getElem?_append_left (by rw[aD];exact a),aJ a]
theorem Row.ak{w:World}{g:Nat}{e:TypeId}{k:IntKind}{zs:List Nat}{a:List Value}(h:Row w g e (aC k zs++a))(i:Nat)(v:Int)(d:Nat)(b:v=d)(c:i<zs.length):Row (w.setCell ⟨g,i,none⟩ (.int k v)) g e (aC k (zs.set i d)++a):=by
 rw[i6,b,<-List.set_append_left _ _ (by rw[aD];exact c)];exact h.af i _
theorem Row.layX{w:World}{g:Nat}{e:TypeId}{K:IntKind}{zs:List Nat}{b:List Value}(h:Row w g e (aC K zs++b)):Lay K w (some ⟨g,0,none⟩) zs:=
 ⟨g,0,fun _=>⟨rfl,h.lt⟩,fun i a=>by rw[Nat.zero_add];exact h.b9 a⟩
theorem e7{w w':World}{g:Nat}(h:w.grownBy w' (some g))(i:Nat)(v:Value):w.grownBy (w'.setCell ⟨g,i,none⟩ v) (some g):=
 ⟨h.os,h.tape,h.output,by have:=h.size;simpa[World.setCell]using this,fun k b a=>by rw[Below.heap_setCell _ _ _ _ (fun e=>a (by rw[e]))];exact h.block k b a⟩
theorem mB{w w':World}{g:Option Nat}(h:w.grownBy w' g)(n:Nat):w.grownBy (w'.drewN n) g:=⟨h.os,h.tape,h.output,h.size,h.block⟩
theorem Lay.useBut{P:Program}{K:IntKind}{w:World}{a:Option Addr}{l:List Nat}(h:Lay K w a l)(t e:TypeId)(ht:P.underlying t=some (.slice e))(hs: ∀W,(sizeOf e).run P W= .ok 1 W)(cap g:Nat)(v: ∀b d,a=some ⟨b,d,none⟩->b≠g): ∃b d,(∀(W:World) (k:IntKind) (i:Int),0<=i->i<(l.length:Int)->(Instr.indexAt t (.slice a l.length cap) (.int k i)).run P W= .ok (Θ b (d+i.toNat)) W)/\(∀w',w.grownBy w' (some g)->∀i,i<l.length->w'.cell? ⟨b,d+i,none⟩=some (.int K (wd l i:Nat))):=by
 obtain⟨b,d,h1,o⟩:=h;refine⟨b,d,fun W k i f j=>?_,fun w' p i q=>?_⟩
 ·rw[(h1 ω).1];simp[Instr.indexAt,run_underlying ht,asIntOf,f,j,hs,Result.andThen,Addr.add]
 ·have m:=h1 ω;rw[<-o i q];exact World.cell?_of_block (p.block b m.2 (fun e=>v b d m.1 (by injection e)))
theorem Bs(w:World)(g0 o cu cv n:Nat)(a:Option Addr)(p vs:List Nat)(ex:List Value)(Q:Row w g0 25 (aC .u32 p++ex))(hu:Lim p)(hlay:Lay .u32 w a vs)(hv:Lim vs)(hne: ∀b off,a=some ⟨b,off,none⟩->b≠g0)(hn:n=vs.length)(hn2:2<=n)(hol:o+n+1<=p.length)(hmx:p.length<=1099511627776)(htop:2147483648<=wd vs (n-1))(D:seg p o (n+1)<val vs*4294967296):Calls prog 233 #[.slice (some ⟨g0,o,none⟩) (n+1) cu,.slice a n cv] w fun e w'=>e= .returned (.int .u64 (seg p o (n+1)/val vs:Nat))/\∃V,V.length=p.length/\Lim V/\Row w' g0 25 (aC .u32 V++ex)/\V.take o=p.take o/\V.drop (o+n+1)=p.drop (o+n+1)/\seg V o (n+1)=seg p o (n+1)%val vs/\w.grownBy w' (some g0):=by
 obtain⟨b1,off1,a2,a3⟩:=hlay.useBut 192 25 underlying192 aK cv g0 hne;rw[<-hn]at a2 a3;obtain⟨k,rfl⟩: ∃k,n=k+1+1:=⟨n-2,ω⟩;have G:=Guess.make hu hv hn.symm (by simpa using htop) D;have b_u0:=hu.wd (o+(k+1+1));have Z:=hu.wd (o+(k+1));have b_u2:=hu.wd (o+k);have b_v1:=hv.wd (k+1);have b_v2:=hv.wd k;have c_u0:=Q.b9 (i:=o+(k+1+1)) ω;have c_u1:=Q.b9 (i:=o+(k+1)) ω;have c_u2:=Q.b9 (i:=o+k) ω;have c_v1:=a3 w (World.grownBy.refl _ _) (k+1) ω;have c_v2:=a3 w (World.grownBy.refl _ _) k ω;have i_v1:=fun q=>a2 (w.drewN q) .i64 (k+1:Nat) ω ω
 have i_v2:=fun q=>a2 (w.drewN q) .i64 (k:Nat) ω ω
 simp only[Int.toNat_natCast,Int.natCast_add,Int.natCast_one]at i_v1 i_v2;have Hn:=hid hn;clear hn;have HX:=hid a2;clear a2;have HCX:=hid a3;clear a3;have Hlt:=hid D;clear D;clear htop hn2;obtain⟨u0,hu0⟩: ∃x,x=wd p (o+(k+1+1)):=⟨_,rfl⟩;obtain⟨u1,hu1⟩: ∃x,x=wd p (o+(k+1)):=⟨_,rfl⟩;obtain⟨u2,hu2⟩: ∃x,x=wd p (o+k):=⟨_,rfl⟩;obtain⟨u,hv1⟩: ∃x,x=wd vs (k+1):=⟨_,rfl⟩;obtain⟨v2,a4⟩: ∃x,x=wd vs k:=⟨_,rfl⟩;rw[<-hu0]at b_u0 c_u0 G;rw[<-hu1]at Z c_u1 G;rw[<-hu2]at b_u2 c_u2 G;rw[<-hv1]at b_v1 c_v1 G;rw[<-a4]at b_v2 c_v2 G;clear hu0 hu1 hu2 hv1 a4;obtain⟨q,hq⟩: ∃x,x=seg p o (k+1+1+1)/val vs:=⟨_,rfl⟩;have Hq:=hid hq;clear hq;have eo:=oz _ _ Z b_u0;obtain⟨T,hT⟩:=ξ (u0*4294967296+u1);have eT:(u0:Int)*4294967296+(u1:Int)=T:=ω
 rw[eT]at eo;rw[<-hT]at G;have b_T:T<18446744073709551616:=ω
 have HT:=hid hT;clear hT;clear eT;have Y:=hid G;clear G;have g1:=Y.out.hv;have g2:=Y.out.qlt;have g3:=Y.out.first
 rw[<-Hq.out]at g2 g3;have q0:u≠0:=ω
 have t0:(0:Int)<=(T:Int)/(u:Int):=Int.ediv_nonneg ω ω;have t1:(T:Int)/(u:Int)<18446744073709551616:=by rw[<-Int.natCast_ediv];have:=Nat.div_le_self T u;omega
 have t2:(0:Int)<=(T:Int)%(u:Int):=Int.emod_nonneg _ ω;have t3:(T:Int)%(u:Int)<(u:Int):=Int.emod_lt_of_pos _ ω;go_enter func233,ntmps233;go_wp2;go_quiet (fail);go_upto_block 0 with fail
 go_cut [7] (fun g wx=> ∃(gg x:Nat),g= .int .u64 gg/\gg<4294967296/\q<=gg/\gg<=q+1/\wx=w.drewN x)
 case first=>
  go_wp2;go_loopw[7,8] (fun g r wx=> ∃(gg rr x:Nat),g= .int .u64 gg/\r= .int .u64 rr/\rr<4294967296/\gg*u+rr=T/\q<=gg/\gg<18446744073709551616/\wx=w.drewN x) (fun g _ _=>(intOf g).toNat);case atStart=>exact⟨T/u,T%u,_,by rw[Int.natCast_ediv],by rw[Int.natCast_emod],Nat.lt_of_lt_of_le (Nat.mod_lt _ ω) (Nat.le_of_lt b_v1),by rw[Nat.mul_comm];exact Nat.div_add_mod _ _,g3,Nat.lt_of_le_of_lt (Nat.div_le_self _ _) b_T,rfl⟩
  case round=>
   obtain⟨g,r,x,rfl,rfl,hr,hgT,a5,hg64,rfl⟩:=hrel;have HgT:=hid hgT;clear hgT;clear t0 t1 t2 t3 g3 eo;by_cases a0:4294967296<=g
   ·have hA:(((g:Int)/4294967296) != 0)=true:=(by rw[bne_iff_ne];omega);have a1:q<=g-1:=by have:=Y.out.big (g:=g) a0;rw[<-Hq.out]at this;exact this
    have S:Hid ((g-1)*u+(r+u)=T):=by
     unfold Hid;rw[<-HgT.out,Nat.sub_mul,Nat.one_mul];have:=Nat.le_mul_of_pos_left u (show 0<g by omega);omega
    by_cases hbr:4294967296<=r+u
    ·have hC:((((r:Int)+(u:Int))/4294967296) != 0)=true:=(by rw[bne_iff_ne];omega);have hs:g-1<4294967296:=Y.out.small S.out HT.out Z hbr;have f:g-1<=q+1:=by have:=Y.out.broke S.out hs hbr;rw[<-Hq.out]at this;exact this
     go_wp2;go_quiet (fail);go_wp2;go_meet;case rel=>exact⟨g-1,_,by go_num,hs,a1,f,rfl⟩
    ·have hC:((((r:Int)+(u:Int))/4294967296) != 0)=false:=(by rw[bne_eq_false_iff_eq];omega);go_wp2;go_quiet (fail);go_wp2;go_roundw;case rel=>exact⟨g-1,r+u,_,by go_num,by go_num,ω,S.out,a1,ω,rfl⟩
     case measure=>exact μ
   ·have hA:(((g:Int)/4294967296) != 0)=false:=(by rw[bne_eq_false_iff_eq];omega);have hgs:g<=4294967295:=ω
    obtain⟨hp1,hp2⟩:=prod_bound g v2 ω ω ω ω;have eidx:(k:Int)+1+1-2=k:=ω
    have eo:=oz u2 r b_u2 hr;by_cases hhi:r*4294967296+u2<g*v2
    ·have hB:decide ((r:Int)*4294967296+(u2:Int)<(g:Int)*(v2:Int))=true:=by
      rw[decide_eq_true_eq,<-Int.natCast_mul];omega
     have hpos:0<g:=by rcases Nat.eq_zero_or_pos g with h|h;· subst h;omega
                       ·exact h
     have a1:q<=g-1:=by have:=Y.out.high HgT.out hhi;rw[<-Hq.out]at this;exact this
     have S:Hid ((g-1)*u+(r+u)=T):=by
      unfold Hid;rw[<-HgT.out,Nat.sub_mul,Nat.one_mul];have:=Nat.le_mul_of_pos_left u hpos;omega
     clear a0 hhi;by_cases hbr:4294967296<=r+u
     ·have hC:((((r:Int)+(u:Int))/4294967296) != 0)=true:=(by rw[bne_iff_ne];omega);have hs:g-1<4294967296:=ω
      have f:g-1<=q+1:=(by have:=Y.out.broke S.out hs hbr;rw[<-Hq.out]at this;exact this);go_wp2;go_quiet (fail);go_wp2;go_meet;case rel=>exact⟨g-1,_,by go_num,hs,a1,f,rfl⟩
     ·have hC:((((r:Int)+(u:Int))/4294967296) != 0)=false:=(by rw[bne_eq_false_iff_eq];omega);go_wp2;go_quiet (fail);go_wp2;go_roundw;case rel=>exact⟨g-1,r+u,_,by go_num,by go_num,ω,S.out,a1,ω,rfl⟩
      case measure=>exact μ
    ·have hB:decide ((r:Int)*4294967296+(u2:Int)<(g:Int)*(v2:Int))=false:=by
      rw[decide_eq_false_iff_not,<-Int.natCast_mul];omega
     have f:g<=q+1:=(by have:=Y.out.near HgT.out ω ω;rw[<-Hq.out]at this;exact this);have hs:g<4294967296:=ω
     clear a0 hhi;go_wp2;go_quiet (fail);go_wp2;go_meet;case rel=>exact⟨g,_,rfl,hs,a5,f,by first |rfl|exact World.drewN_drewN _ _ _⟩
 case rest=>
  obtain⟨g,x,rfl,hg,a5,f,rfl⟩:=hcut;clear t0 t1 t2 t3 g3 eo i_v1 i_v2 c_u0 c_u1 c_u2 c_v1 c_v2 q0 g1 g2 b_T;go_wp2
  go_loopw[9,10,83] (fun c b i wr=> ∃(j cc bb:Nat) (zs:List Nat),j<=k+1+1/\i= .int .i64 j/\c= .int .u64 cc/\b= .int .u64 bb/\cc<4294967296/\bb<=1/\zs.length=p.length/\Lim zs/\Row wr g0 25 (aC .u32 zs++ex)/\
    (∀i,o+j<=i->wd zs i=wd p i)/\zs.take o=p.take o/\zs.drop (o+(k+1+1)+1)=p.drop (o+(k+1+1)+1)/\
    seg zs o j+g*val (vs.take j)=seg p o j+(cc+bb)*W j/\w.grownBy wr (some g0)) (fun _ _ i _=>k+1+1-(intOf i).toNat)
  case atStart=>exact⟨0,0,0,p,ω,rfl,rfl,rfl,ω,ω,rfl,hu,Q.drewN _,fun _ _=>rfl,rfl,rfl,by simp[vk,val],mB (World.grownBy.refl _ _) _⟩
  case round=>
   obtain⟨j,c,b,zs,hj,rfl,rfl,rfl,hc,hb,a6,y,hr,z,a7,a8,a4,a9⟩:=hrel;have d:=hid a6;clear a6;have Hv2:=hid a4;clear a4;have m:=hid z;clear z;have E:=hid a7;clear a7;have F:=hid a8;clear a8;have z1:=y.wd (o+j);have z2:=hv.wd j;have H:=hr.b9 (i:=o+j) (by rw[d.out];omega);have hfk:=hr.free (o+j);by_cases D:j<k+1+1
   ·have ix:=HX.out wr .i64 j ω ω;rw[Int.toNat_natCast]at ix;have cx:=HCX.out wr a9 j D;obtain⟨hp1,hp2⟩:=prod_bound g (wd vs j) ω ω ω ω
    have hx64:c+g*wd vs j<4294967296*4294967296:=by
     have:=Nat.mul_le_mul (show g<=4294967295 by omega) (show wd vs j<=4294967295 by omega);omega
    have ean:bits .and .u64 ((c:Int)+(g:Int)*(wd vs j:Nat)) 4294967295=(((c+g*wd vs j)%4294967296:Nat):Int):=by
     rw[and_low32 _ ω ω,Int.natCast_emod,Int.natCast_add,Int.natCast_mul];rfl
    obtain⟨lo,hlo⟩:=ξ ((c+g*wd vs j)%4294967296);rw[<-hlo]at ean;have b_lo:lo<4294967296:=ω
    have Hlo:=hid hlo;clear hlo;have I:=Br (g:=g) (vs:=vs) (us0:=p) (by rw[d.out];omega) (m.out (o+j) ι) hb z1 Hv2.out;rw[<-Hlo.out]at I;have Hst:=hid I;clear I;go_wp2;go_roundw
    case rel=>exact⟨j+1,(c+g*wd vs j)/4294967296,if wd zs (o+j)<lo+b then 1 else 0,zs.set (o+j) ((wd zs (o+j)+4294967296-lo-b)%4294967296),ω,by go_num,by rw[Int.natCast_ediv,Int.natCast_add,Int.natCast_mul];rfl,
     by rw[kE _ _ _ z1 b_lo hb],ω,by split<;>omega,by rw[List.length_set,d.out],y.set ω,hr.ak _ _ _ (rC _ _ _ z1 b_lo hb) (by rw[d.out];omega),
     fun i hi=>by rw[cm (by rw[d.out];omega),if_neg ω];exact m.out i ω,by rw[dZ _ _ ω];exact E.out,by rw[List.drop_set_of_lt ω];exact F.out,Hst.out,e7 a9 _ _⟩
    case measure=>exact μ
   ·obtain rfl:j=k+1+1:=ω
    clear z2 hj D;obtain⟨un,hun⟩:=ξ (wd zs (o+(k+1+1)));rw[<-hun]at H z1;have Hun:=hid hun;clear hun;have hsb:=kE un c b z1 hc hb;have U:=rC un c b z1 hc hb;have hwn:=m.out (o+(k+1+1)) ι;have Hwn:=hid hwn;clear hwn;by_cases hd:c+b<=un
    ·rw[if_neg ω]at hsb;rw[show(un+4294967296-c-b)%4294967296=un-c-b from by omega]at U;have B:=vX (g:=g) (vs:=vs) (us0:=p) Hn.out.symm (by rw[d.out];omega) Hwn.out (by rw[<-Hun.out];exact hd) Hv2.out (by rw[<-Hq.out];exact a5) Y.out.vpos;rw[<-Hun.out]at B;have He:=hid B;clear B;have L:=hr.ak (o+(k+1+1)) _ _ U (by rw[d.out];omega);have C:=e7 a9 (o+(k+1+1)) (Ψ (IntKind.u64.wrap (IntKind.u64.wrap ((un:Int)-(c:Int))-(b:Int))%4294967296));simp only[U]at L C;clear f a5 hd;go_wp2;go_ret;refine⟨congrArg (fun x:Nat=>Ending.returned (.int .u64 x)) He.out.1,zs.set (o+(k+1+1)) (un-c-b),by rw[List.length_set,d.out],y.set ω,L,by rw[dZ _ _ ω];exact E.out,by rw[List.drop_set_of_lt ω];exact F.out,He.out.2,C⟩
    ·rw[if_pos ω]at hsb;have B:=tA (g:=g) (vs:=vs) (us0:=p) y Hn.out.symm (by rw[d.out];omega) Hwn.out (by rw[<-Hun.out];omega) hc hb Hv2.out (by rw[<-Hq.out];exact f) Y.out.vpos;rw[<-Hun.out]at B;obtain⟨M,O⟩:=B;rw[<-Hq.out]at M;have hgpos:0<g:=ω
     have He1:=hid M;clear M;obtain⟨P,A⟩:=ξ (zs.set (o+(k+1+1)) ((un+4294967296-c-b)%4294967296));rw[<-A]at O;have He2:=hid O;clear O;have L:=hr.ak (o+(k+1+1)) _ _ U (by rw[d.out];omega);have C:=e7 a9 (o+(k+1+1)) (Ψ (IntKind.u64.wrap (IntKind.u64.wrap ((un:Int)-(c:Int))-(b:Int))%4294967296));rw[<-A]at L;have hl1:P.length=p.length:=by rw[A,List.length_set,d.out]
     have hlim1:Lim P:=(by rw[A];exact y.set ω);have htk1:P.take o=p.take o:=by rw[A,dZ _ _ ω];exact E.out
     have hdr1:P.drop (o+(k+1+1)+1)=p.drop (o+(k+1+1)+1):=(by rw[A,List.drop_set_of_lt ω];exact F.out);have Hl1:=hid hl1;clear hl1;have Htk1:=hid htk1;clear htk1;have Hdr1:=hid hdr1;clear hdr1;simp only[U]at L C;clear f a5 hd A E F d Hv2 m Hwn;go_wp2
     go_loopw[9,134] (fun c i wr=> ∃(j cc:Nat) (zs:List Nat),j<=k+1+1/\i= .int .i64 j/\c= .int .u64 cc/\cc<=1/\zs.length=p.length/\Lim zs/\Row wr g0 25 (aC .u32 zs++ex)/\
       (∀i,o+j<=i->wd zs i=wd P i)/\zs.take o=p.take o/\zs.drop (o+(k+1+1)+1)=p.drop (o+(k+1+1)+1)/\
       seg zs o j+cc*W j=seg P o j+val (vs.take j)/\w.grownBy wr (some g0)) (fun _ i _=>k+1+1-(intOf i).toNat)
     case atStart=>exact⟨0,0,P,ω,rfl,rfl,ω,Hl1.out,hlim1,L,fun _ _=>rfl,Htk1.out,Hdr1.out,by simp[vk,val],C⟩
     case round=>
      obtain⟨j,cc,zz,hj,rfl,rfl,hcc,a6,v,hr3,z,a7,a8,hv3,hgr3⟩:=hrel;clear H hfk hr L a9 C hsb U;have d:=hid a6;clear a6;have Hv3:=hid hv3;clear hv3;have m:=hid z;clear z;have E:=hid a7;clear a7;have F:=hid a8;clear a8;have z3:=v.wd (o+j);have z2:=hv.wd j;have H:=hr3.b9 (i:=o+j) (by rw[d.out];omega);have hfk:=hr3.free (o+j);by_cases D:j<k+1+1
      ·have ix:=fun q=>HX.out (wr.drewN q) .i64 j ω ω
       simp only[Int.toNat_natCast]at ix;have cx:=HCX.out wr hgr3 j D;go_wp2;go_quiet (fail);go_wp2;go_roundw
       case rel=>exact⟨j+1,(cc+(wd zz (o+j)+wd vs j))/4294967296,zz.set (o+j) ((cc+(wd zz (o+j)+wd vs j))%4294967296),ω,by go_num,by go_num,ω,by rw[List.length_set,d.out],v.set ω,(hr3.drewN _).ak _ _ _ ω (by rw[d.out];omega),
        fun i hi=>by rw[cm (by rw[d.out];omega),if_neg ω];exact m.out i ω,by rw[dZ _ _ ω];exact E.out,by rw[List.drop_set_of_lt ω];exact F.out,Af (by rw[d.out];omega) (m.out _ ι) Hv3.out,e7 (mB hgr3 _) _ _⟩
       case measure=>exact μ
      ·obtain rfl:j=k+1+1:=ω
       have hfin:=CQ (vs:=vs) (R:=seg p o (k+1+1+1)%val vs) v Hn.out.symm (by rw[d.out];omega) (m.out _ ι) Hv3.out He2.out (Nat.lt_of_lt_of_le (Nat.mod_lt _ Y.out.vpos) (by have:=cC hv;rw[<-Hn.out]at this;omega));have Hf:=hid hfin;clear hfin;go_wp2;go_ret;exact⟨congrArg (fun x:Int=>Ending.returned (.int .u64 x)) (by rw[<-Hq.out];have:=He1.out;omega),zz.set (o+(k+1+1)) ((wd zz (o+(k+1+1))+cc)%4294967296),by rw[List.length_set,d.out],v.set ω,hr3.ak _ _ _ ω (by rw[d.out];omega),by rw[dZ _ _ ω];exact E.out,by rw[List.drop_set_of_lt ω];exact F.out,Hf.out,e7 hgr3 _ _⟩
end Go.Proofs.YtfefijlnbhbplaaGreatDoor

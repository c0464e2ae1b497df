/- The walk of big.step: one step of a long division. The kernel's boot, evaluated in packed form; what it is over lists. -/
import Derived.Test.YtbffpkmfhkphdaaGreatDoorGX02
import Derived.Test.YtbffpkmfhkphdaaGreatDoorGX03
import Derived.Deep.DeepCutAuto
import Derived.Deep.CutBlock
set_option linter.unusedVariables false
set_option linter.unusedSimpArgs false
set_option maxRecDepth 1000000
set_option maxHeartbeats 6400000
namespace Go.Proofs.YtbffpkmfhkphdaaGreatDoor
open Go Lib Go.RowKit Limb
theorem Row.cellX{w:World}{g:Nat}{e:TypeId}{k:IntKind}{zs:List Nat}{ex:List Value}(h:Row w g e (nums k zs++ex)){i:Nat}(hi:i<zs.length):w.cell? ⟨g,i,none⟩=some (.int k (wd zs i:Nat)):=by
 rw[h.cell_at,List.getElem?_append_left (by rw[nums_length];exact hi),nums_get hi]
theorem Row.storeX{w:World}{g:Nat}{e:TypeId}{k:IntKind}{zs:List Nat}{ex:List Value}(h:Row w g e (nums k zs++ex))(i:Nat)(v:Int)(d:Nat)(hv:v=d)(hi:i<zs.length):Row (w.setCell ⟨g,i,none⟩ (.int k v)) g e (nums k (zs.set i d)++ex):=by
 rw[nums_set,hv,←List.set_append_left _ _ (by rw[nums_length];exact hi)];exact h.store_any i _
theorem Row.layX{w:World}{g:Nat}{e:TypeId}{K:IntKind}{zs:List Nat}{ex:List Value}(h:Row w g e (nums K zs++ex)):Lay K w (some ⟨g,0,none⟩) zs:=
 ⟨g,0,fun _=>⟨rfl,h.lt⟩,fun i hi=>by rw[Nat.zero_add];exact h.cellX hi⟩
theorem grown_store{w w':World}{g:Nat}(h:w.grownBy w' (some g))(i:Nat)(v:Value):w.grownBy (w'.setCell ⟨g,i,none⟩ v) (some g):=
 ⟨h.os,h.tape,h.output,by have:=h.size;simpa[World.setCell]using this,fun k hk hne=>by rw[Below.heap_setCell _ _ _ _ (fun e=>hne (by rw[e]))];exact h.block k hk hne⟩
theorem grown_drewN{w w':World}{g:Option Nat}(h:w.grownBy w' g)(n:Nat):w.grownBy (w'.drewN n) g:=⟨h.os,h.tape,h.output,h.size,h.block⟩
theorem Lay.useBut{P:Program}{K:IntKind}{w:World}{a:Option Addr}{l:List Nat}(h:Lay K w a l)(t e:TypeId)(ht:P.underlying t=some (.slice e))(hs: ∀W,(sizeOf e).run P W= .ok 1 W)(cap g:Nat)(hg: ∀b off,a=some ⟨b,off,none⟩→b≠g): ∃b off,(∀(W:World) (k:IntKind) (i:Int),0≤i→i<(l.length:Int)→(Instr.indexAt t (.slice a l.length cap) (.int k i)).run P W= .ok (.pointer (some ⟨b,off+i.toNat,none⟩)) W)∧(∀w',w.grownBy w' (some g)→∀i,i<l.length→w'.cell? ⟨b,off+i,none⟩=some (.int K (wd l i:Nat))):=by
 obtain⟨b,off,h1,h2⟩:=h;refine⟨b,off,fun W k i hi0 hi1=>?_,fun w' hb i hi=>?_⟩
 ·rw[(h1 (by omega)).1];simp[Instr.indexAt,run_underlying ht,asIntOf,hi0,hi1,hs,Result.andThen,Addr.add]
 ·have h3:=h1 (by omega);rw[←h2 i hi];exact World.cell?_of_block (hb.block b h3.2 (fun e=>hg b off h3.1 (by injection e)))
theorem big_step(w:World)(g0 o cu cv n:Nat)(a:Option Addr)(us vs:List Nat)(ex:List Value)(hrow:Row w g0 60 (nums .u32 us++ex))(hu:Lim us)(hlay:Lay .u32 w a vs)(hv:Lim vs)(hne: ∀b off,a=some ⟨b,off,none⟩→b≠g0)(hn:n=vs.length)(hn2:2≤n)(hol:o+n+1≤us.length)(hmx:us.length≤1099511627776)(htop:2147483648≤wd vs (n-1))(hlt:seg us o (n+1)<val vs*4294967296):Calls Tryz.prog 243 #[.slice (some ⟨g0,o,none⟩) (n+1) cu,.slice a n cv] w fun e w'=>e= .returned (.int .u64 (seg us o (n+1)/val vs:Nat))∧∃us',us'.length=us.length∧Lim us'∧Row w' g0 60 (nums .u32 us'++ex)∧us'.take o=us.take o∧us'.drop (o+n+1)=us.drop (o+n+1)∧seg us' o (n+1)=seg us o (n+1)%val vs∧w.grownBy w' (some g0):=by
 obtain⟨b1,off1,hix,hcx⟩:=hlay.useBut 115 60 Tryz.underlying115 size32 cv g0 hne;rw[←hn]at hix hcx;obtain⟨k,rfl⟩: ∃k,n=k+1+1:=⟨n-2,by omega⟩;have G:=Guess.make hu hv hn.symm (by simpa using htop) hlt;have b_u0:=hu.wd (o+(k+1+1));have b_u1:=hu.wd (o+(k+1));have b_u2:=hu.wd (o+k);have b_v1:=hv.wd (k+1);have b_v2:=hv.wd k;have c_u0:=hrow.cellX (i:=o+(k+1+1)) (by omega);have c_u1:=hrow.cellX (i:=o+(k+1)) (by omega);have c_u2:=hrow.cellX (i:=o+k) (by omega);have c_v1:=hcx w (World.grownBy.refl _ _) (k+1) (by omega);have c_v2:=hcx w (World.grownBy.refl _ _) k (by omega);have i_v1:=fun q=>hix (w.drewN q) .i64 (k+1:Nat) (by omega) (by omega)
 have i_v2:=fun q=>hix (w.drewN q) .i64 (k:Nat) (by omega) (by omega)
 simp only[Int.toNat_natCast,Int.natCast_add,Int.natCast_one]at i_v1 i_v2;have Hn:=hid hn;clear hn;have HX:=hid hix;clear hix;have HCX:=hid hcx;clear hcx;have Hlt:=hid hlt;clear hlt;clear htop hn2;obtain⟨u0,hu0⟩: ∃x,x=wd us (o+(k+1+1)):=⟨_,rfl⟩;obtain⟨u1,hu1⟩: ∃x,x=wd us (o+(k+1)):=⟨_,rfl⟩;obtain⟨u2,hu2⟩: ∃x,x=wd us (o+k):=⟨_,rfl⟩;obtain⟨v1,hv1⟩: ∃x,x=wd vs (k+1):=⟨_,rfl⟩;obtain⟨v2,hv2⟩: ∃x,x=wd vs k:=⟨_,rfl⟩;rw[←hu0]at b_u0 c_u0 G;rw[←hu1]at b_u1 c_u1 G;rw[←hu2]at b_u2 c_u2 G;rw[←hv1]at b_v1 c_v1 G;rw[←hv2]at b_v2 c_v2 G;clear hu0 hu1 hu2 hv1 hv2;obtain⟨q,hq⟩: ∃x,x=seg us o (k+1+1+1)/val vs:=⟨_,rfl⟩;have Hq:=hid hq;clear hq;have eo:=or_hi_lo _ _ b_u1 b_u0;obtain⟨T,hT⟩: ∃T,T=u0*4294967296+u1:=⟨_,rfl⟩;have eT:(u0:Int)*4294967296+(u1:Int)=T:=by omega
 rw[eT]at eo;rw[←hT]at G;have b_T:T<18446744073709551616:=by omega
 have HT:=hid hT;clear hT;clear eT;have HG:=hid G;clear G;have g1:=HG.out.hv;have g2:=HG.out.qlt;have g3:=HG.out.first
 rw[←Hq.out]at g2 g3;have q0:v1≠0:=by omega
 have t0:(0:Int)≤(T:Int)/(v1:Int):=Int.ediv_nonneg (by omega) (by omega);have t1:(T:Int)/(v1:Int)<18446744073709551616:=by rw[←Int.natCast_ediv];have:=Nat.div_le_self T v1;omega
 have t2:(0:Int)≤(T:Int)%(v1:Int):=Int.emod_nonneg _ (by omega);have t3:(T:Int)%(v1:Int)<(v1:Int):=Int.emod_lt_of_pos _ (by omega);go_enter Tryz.func243,Tryz.ntmps243;go_wp2;go_quiet (fail);go_upto_block 0 with fail
 go_cut [7] (fun g wx=> ∃(gg x:Nat),g= .int .u64 gg∧gg<4294967296∧q≤gg∧gg≤q+1∧wx=w.drewN x)
 case first=>
  go_wp2_with fail;go_loopw[7,8] (fun g r wx=> ∃(gg rr x:Nat),g= .int .u64 gg∧r= .int .u64 rr∧rr<4294967296∧gg*v1+rr=T∧q≤gg∧gg<18446744073709551616∧wx=w.drewN x) (fun g _ _=>(intOf g).toNat);case atStart=>exact⟨T/v1,T%v1,_,by rw[Int.natCast_ediv],by rw[Int.natCast_emod],Nat.lt_of_lt_of_le (Nat.mod_lt _ (by omega)) (Nat.le_of_lt b_v1),by rw[Nat.mul_comm];exact Nat.div_add_mod _ _,g3,Nat.lt_of_le_of_lt (Nat.div_le_self _ _) b_T,rfl⟩
  case round=>
   obtain⟨g,r,x,rfl,rfl,hr,hgT,hqg,hg64,rfl⟩:=hrel;have HgT:=hid hgT;clear hgT;clear t0 t1 t2 t3 g3 eo;by_cases hbig:4294967296≤g
   ·have hA:(((g:Int)/4294967296) != 0)=true:=(by rw[bne_iff_ne];omega);have hq':q≤g-1:=by have:=HG.out.big (g:=g) hbig;rw[←Hq.out]at this;exact this
    have hT':Hid ((g-1)*v1+(r+v1)=T):=by
     unfold Hid;rw[←HgT.out,Nat.sub_mul,Nat.one_mul];have:=Nat.le_mul_of_pos_left v1 (show 0<g by omega);omega
    by_cases hbr:4294967296≤r+v1
    ·have hC:((((r:Int)+(v1:Int))/4294967296) != 0)=true:=(by rw[bne_iff_ne];omega);have hs:g-1<4294967296:=HG.out.small hT'.out HT.out b_u1 hbr;have hnear:g-1≤q+1:=by have:=HG.out.broke hT'.out hs hbr;rw[←Hq.out]at this;exact this
     go_wp2;go_quiet (fail);go_wp2;go_meet;case rel=>exact⟨g-1,_,by go_num,hs,hq',hnear,rfl⟩
    ·have hC:((((r:Int)+(v1:Int))/4294967296) != 0)=false:=(by rw[bne_eq_false_iff_eq];omega);go_wp2;go_quiet (fail);go_wp2;go_roundw;case rel=>exact⟨g-1,r+v1,_,by go_num,by go_num,by omega,hT'.out,hq',by omega,rfl⟩
     case measure=>simp[intOf];omega
   ·have hA:(((g:Int)/4294967296) != 0)=false:=(by rw[bne_eq_false_iff_eq];omega);have hgs:g≤4294967295:=by omega
    obtain⟨hp1,hp2⟩:=prod_bound g v2 (by omega) (by omega) (by omega) (by omega);have eidx:(k:Int)+1+1-2=k:=by omega
    have eo:=or_hi_lo u2 r b_u2 hr;by_cases hhi:r*4294967296+u2<g*v2
    ·have hB:decide ((r:Int)*4294967296+(u2:Int)<(g:Int)*(v2:Int))=true:=by
      rw[decide_eq_true_eq,←Int.natCast_mul];omega
     have hpos:0<g:=by rcases Nat.eq_zero_or_pos g with h|h;·subst h;omega
                       ·exact h
     have hq':q≤g-1:=by have:=HG.out.high HgT.out hhi;rw[←Hq.out]at this;exact this
     have hT':Hid ((g-1)*v1+(r+v1)=T):=by
      unfold Hid;rw[←HgT.out,Nat.sub_mul,Nat.one_mul];have:=Nat.le_mul_of_pos_left v1 hpos;omega
     clear hbig hhi;by_cases hbr:4294967296≤r+v1
     ·have hC:((((r:Int)+(v1:Int))/4294967296) != 0)=true:=(by rw[bne_iff_ne];omega);have hs:g-1<4294967296:=by omega
      have hnear:g-1≤q+1:=(by have:=HG.out.broke hT'.out hs hbr;rw[←Hq.out]at this;exact this);go_wp2;go_quiet (fail);go_wp2;go_meet;case rel=>exact⟨g-1,_,by go_num,hs,hq',hnear,rfl⟩
     ·have hC:((((r:Int)+(v1:Int))/4294967296) != 0)=false:=(by rw[bne_eq_false_iff_eq];omega);go_wp2;go_quiet (fail);go_wp2;go_roundw;case rel=>exact⟨g-1,r+v1,_,by go_num,by go_num,by omega,hT'.out,hq',by omega,rfl⟩
      case measure=>simp[intOf];omega
    ·have hB:decide ((r:Int)*4294967296+(u2:Int)<(g:Int)*(v2:Int))=false:=by
      rw[decide_eq_false_iff_not,←Int.natCast_mul];omega
     have hnear:g≤q+1:=(by have:=HG.out.near HgT.out (by omega) (by omega);rw[←Hq.out]at this;exact this);have hs:g<4294967296:=by omega
     clear hbig hhi;go_wp2;go_quiet (fail);go_wp2;go_meet;case rel=>exact⟨g,_,rfl,hs,hqg,hnear,by first |rfl|exact World.drewN_drewN _ _ _⟩
 case rest=>
  obtain⟨g,x,rfl,hg,hqg,hnear,rfl⟩:=hcut;clear t0 t1 t2 t3 g3 eo i_v1 i_v2 c_u0 c_u1 c_u2 c_v1 c_v2 q0 g1 g2 b_T;go_wp2
  go_loopw[9,10,83] (fun c b i wr=> ∃(j cc bb:Nat) (zs:List Nat),j≤k+1+1∧i= .int .i64 j∧c= .int .u64 cc∧b= .int .u64 bb∧cc<4294967296∧bb≤1∧zs.length=us.length∧Lim zs∧Row wr g0 60 (nums .u32 zs++ex)∧
    (∀i,o+j≤i→wd zs i=wd us i)∧zs.take o=us.take o∧zs.drop (o+(k+1+1)+1)=us.drop (o+(k+1+1)+1)∧
    seg zs o j+g*val (vs.take j)=seg us o j+(cc+bb)*W j∧w.grownBy wr (some g0)) (fun _ _ i _=>k+1+1-(intOf i).toNat)
  case atStart=>exact⟨0,0,0,us,by omega,rfl,rfl,rfl,by omega,by omega,rfl,hu,hrow.drewN _,fun _ _=>rfl,rfl,rfl,by simp[seg_zero,val],grown_drewN (World.grownBy.refl _ _) _⟩
  case round=>
   obtain⟨j,c,b,zs,hj,rfl,rfl,rfl,hc,hb,hzl,hzlim,hr,hsame,htk,hdr,hv2,hgr⟩:=hrel;have Hzl:=hid hzl;clear hzl;have Hv2:=hid hv2;clear hv2;have Hsame:=hid hsame;clear hsame;have Htk:=hid htk;clear htk;have Hdr:=hid hdr;clear hdr;have z1:=hzlim.wd (o+j);have z2:=hv.wd j;have hcell:=hr.cellX (i:=o+j) (by rw[Hzl.out];omega);have hfk:=hr.free (o+j);by_cases hlt:j<k+1+1
   ·have ix:=HX.out wr .i64 j (by omega) (by omega);rw[Int.toNat_natCast]at ix;have cx:=HCX.out wr hgr j hlt;obtain⟨hp1,hp2⟩:=prod_bound g (wd vs j) (by omega) (by omega) (by omega) (by omega)
    have hx64:c+g*wd vs j<4294967296*4294967296:=by
     have:=Nat.mul_le_mul (show g≤4294967295 by omega) (show wd vs j≤4294967295 by omega);omega
    have ean:bits .and .u64 ((c:Int)+(g:Int)*(wd vs j:Nat)) 4294967295=(((c+g*wd vs j)%4294967296:Nat):Int):=by
     rw[and_low32 _ (by omega) (by omega),Int.natCast_emod,Int.natCast_add,Int.natCast_mul];rfl
    obtain⟨lo,hlo⟩: ∃lo,lo=(c+g*wd vs j)%4294967296:=⟨_,rfl⟩;rw[←hlo]at ean;have b_lo:lo<4294967296:=by omega
    have Hlo:=hid hlo;clear hlo;have hstep:=mul_step (g:=g) (vs:=vs) (us0:=us) (by rw[Hzl.out];omega) (Hsame.out (o+j) (Nat.le_refl _)) hb z1 Hv2.out;rw[←Hlo.out]at hstep;have Hst:=hid hstep;clear hstep;go_wp2;go_roundw
    case rel=>exact⟨j+1,(c+g*wd vs j)/4294967296,if wd zs (o+j)<lo+b then 1 else 0,zs.set (o+j) ((wd zs (o+j)+4294967296-lo-b)%4294967296),by omega,by go_num,by rw[Int.natCast_ediv,Int.natCast_add,Int.natCast_mul];rfl,
     by rw[sub_borrow _ _ _ z1 b_lo hb],by omega,by split<;>omega,by rw[List.length_set,Hzl.out],hzlim.set (by omega),hr.storeX _ _ _ (sub_low _ _ _ z1 b_lo hb) (by rw[Hzl.out];omega),
     fun i hi=>by rw[wd_set (by rw[Hzl.out];omega),if_neg (by omega)];exact Hsame.out i (by omega),by rw[take_set_gt _ _ (by omega)];exact Htk.out,by rw[List.drop_set_of_lt (by omega)];exact Hdr.out,Hst.out,grown_store hgr _ _⟩
    case measure=>simp[intOf];omega
   ·obtain rfl:j=k+1+1:=by omega
    clear z2 hj hlt;obtain⟨un,hun⟩: ∃un,un=wd zs (o+(k+1+1)):=⟨_,rfl⟩;rw[←hun]at hcell z1;have Hun:=hid hun;clear hun;have hsb:=sub_borrow un c b z1 hc hb;have hsl:=sub_low un c b z1 hc hb;have hwn:=Hsame.out (o+(k+1+1)) (Nat.le_refl _);have Hwn:=hid hwn;clear hwn;by_cases hd:c+b≤un
    ·rw[if_neg (by omega)]at hsb;rw[show(un+4294967296-c-b)%4294967296=un-c-b from by omega]at hsl;have hend:=mul_end_ok (g:=g) (vs:=vs) (us0:=us) Hn.out.symm (by rw[Hzl.out];omega) Hwn.out (by rw[←Hun.out];exact hd) Hv2.out (by rw[←Hq.out];exact hqg) HG.out.vpos;rw[←Hun.out]at hend;have He:=hid hend;clear hend;have hr2:=hr.storeX (o+(k+1+1)) _ _ hsl (by rw[Hzl.out];omega);have hgr2:=grown_store hgr (o+(k+1+1)) (.int .u32 (IntKind.u64.wrap (IntKind.u64.wrap ((un:Int)-(c:Int))-(b:Int))%4294967296));simp only[hsl]at hr2 hgr2;clear hnear hqg hd;go_wp2;go_ret;refine⟨congrArg (fun x:Nat=>Ending.returned (.int .u64 x)) He.out.1,zs.set (o+(k+1+1)) (un-c-b),by rw[List.length_set,Hzl.out],hzlim.set (by omega),hr2,by rw[take_set_gt _ _ (by omega)];exact Htk.out,by rw[List.drop_set_of_lt (by omega)];exact Hdr.out,He.out.2,hgr2⟩
    ·rw[if_pos (by omega)]at hsb;have hend:=mul_end_neg (g:=g) (vs:=vs) (us0:=us) hzlim Hn.out.symm (by rw[Hzl.out];omega) Hwn.out (by rw[←Hun.out];omega) hc hb Hv2.out (by rw[←Hq.out];exact hnear) HG.out.vpos;rw[←Hun.out]at hend;obtain⟨hend1,hend2⟩:=hend;rw[←Hq.out]at hend1;have hgpos:0<g:=by omega
     have He1:=hid hend1;clear hend1;obtain⟨z1l,hz1l⟩: ∃z1l,z1l=zs.set (o+(k+1+1)) ((un+4294967296-c-b)%4294967296):=⟨_,rfl⟩;rw[←hz1l]at hend2;have He2:=hid hend2;clear hend2;have hr2:=hr.storeX (o+(k+1+1)) _ _ hsl (by rw[Hzl.out];omega);have hgr2:=grown_store hgr (o+(k+1+1)) (.int .u32 (IntKind.u64.wrap (IntKind.u64.wrap ((un:Int)-(c:Int))-(b:Int))%4294967296));rw[←hz1l]at hr2;have hl1:z1l.length=us.length:=by rw[hz1l,List.length_set,Hzl.out]
     have hlim1:Lim z1l:=(by rw[hz1l];exact hzlim.set (by omega));have htk1:z1l.take o=us.take o:=by rw[hz1l,take_set_gt _ _ (by omega)];exact Htk.out
     have hdr1:z1l.drop (o+(k+1+1)+1)=us.drop (o+(k+1+1)+1):=(by rw[hz1l,List.drop_set_of_lt (by omega)];exact Hdr.out);have Hl1:=hid hl1;clear hl1;have Htk1:=hid htk1;clear htk1;have Hdr1:=hid hdr1;clear hdr1;simp only[hsl]at hr2 hgr2;clear hnear hqg hd hz1l Htk Hdr Hzl Hv2 Hsame Hwn;go_wp2
     go_loopw[9,134] (fun c i wr=> ∃(j cc:Nat) (zs:List Nat),j≤k+1+1∧i= .int .i64 j∧c= .int .u64 cc∧cc≤1∧zs.length=us.length∧Lim zs∧Row wr g0 60 (nums .u32 zs++ex)∧
       (∀i,o+j≤i→wd zs i=wd z1l i)∧zs.take o=us.take o∧zs.drop (o+(k+1+1)+1)=us.drop (o+(k+1+1)+1)∧
       seg zs o j+cc*W j=seg z1l o j+val (vs.take j)∧w.grownBy wr (some g0)) (fun _ i _=>k+1+1-(intOf i).toNat)
     case atStart=>exact⟨0,0,z1l,by omega,rfl,rfl,by omega,Hl1.out,hlim1,hr2,fun _ _=>rfl,Htk1.out,Hdr1.out,by simp[seg_zero,val],hgr2⟩
     case round=>
      obtain⟨j,cc,zz,hj,rfl,rfl,hcc,hzl,hzlim3,hr3,hsame,htk,hdr,hv3,hgr3⟩:=hrel;clear hcell hfk hr hr2 hgr hgr2 hsb hsl;have Hzl:=hid hzl;clear hzl;have Hv3:=hid hv3;clear hv3;have Hsame:=hid hsame;clear hsame;have Htk:=hid htk;clear htk;have Hdr:=hid hdr;clear hdr;have z3:=hzlim3.wd (o+j);have z2:=hv.wd j;have hcell:=hr3.cellX (i:=o+j) (by rw[Hzl.out];omega);have hfk:=hr3.free (o+j);by_cases hlt:j<k+1+1
      ·have ix:=fun q=>HX.out (wr.drewN q) .i64 j (by omega) (by omega)
       simp only[Int.toNat_natCast]at ix;have cx:=HCX.out wr hgr3 j hlt;go_wp2;go_quiet (fail);go_wp2;go_roundw
       case rel=>exact⟨j+1,(cc+(wd zz (o+j)+wd vs j))/4294967296,zz.set (o+j) ((cc+(wd zz (o+j)+wd vs j))%4294967296),by omega,by go_num,by go_num,by omega,by rw[List.length_set,Hzl.out],hzlim3.set (by omega),(hr3.drewN _).storeX _ _ _ (by omega) (by rw[Hzl.out];omega),
        fun i hi=>by rw[wd_set (by rw[Hzl.out];omega),if_neg (by omega)];exact Hsame.out i (by omega),by rw[take_set_gt _ _ (by omega)];exact Htk.out,by rw[List.drop_set_of_lt (by omega)];exact Hdr.out,back_step (by rw[Hzl.out];omega) (Hsame.out _ (Nat.le_refl _)) Hv3.out,grown_store (grown_drewN hgr3 _) _ _⟩
       case measure=>simp[intOf];omega
      ·obtain rfl:j=k+1+1:=by omega
       have hfin:=back_end (vs:=vs) (R:=seg us o (k+1+1+1)%val vs) hzlim3 Hn.out.symm (by rw[Hzl.out];omega) (Hsame.out _ (Nat.le_refl _)) Hv3.out He2.out (Nat.lt_of_lt_of_le (Nat.mod_lt _ HG.out.vpos) (by have:=val_lt hv;rw[←Hn.out]at this;omega));have Hf:=hid hfin;clear hfin;go_wp2;go_ret;exact⟨congrArg (fun x:Int=>Ending.returned (.int .u64 x)) (by rw[←Hq.out];have:=He1.out;omega),zz.set (o+(k+1+1)) ((wd zz (o+(k+1+1))+cc)%4294967296),by rw[List.length_set,Hzl.out],hzlim3.set (by omega),hr3.storeX _ _ _ (by omega) (by rw[Hzl.out];omega),by rw[take_set_gt _ _ (by omega)];exact Htk.out,by rw[List.drop_set_of_lt (by omega)];exact Hdr.out,Hf.out,grown_store hgr3 _ _⟩
end Go.Proofs.YtbffpkmfhkphdaaGreatDoor
namespace Go.Proofs.YtbffpkmfhkphdaaGreatDoor.Limb
def Up{α:Type}(x:Option (α×Hp))(y:Option (α×Pk)):Prop:= ∀a p,y=some (a,p)→∃h,x=some (a,h)∧pk h=p∧Good h
def Up1(x:Option Hp)(y:Option Pk):Prop:= ∀p,y=some p→∃h,x=some h∧pk h=p∧Good h
theorem clsO_lt{h:Hp}(k:Good h){c:Nat}(hc:clsO h c=true):c<4294967296:=by
 unfold clsO at hc;simp only[Bool.or_eq_true,decide_eq_true_eq]at hc;rcases hc with rfl|hc
 ·decide
 ·have:=isO_iff.1 hc;have h1:=begins_lt this.2.2;have:=k.len;have:=k.fits;have:=k.sM;omega
theorem packB_last: ∀t:List Nat,B8 t→wd (packB t) ((packB t).length-1)<2^(32-8*(4*((t.length+3)/4)-t.length))
 |[],_=>by decide
 |[a],h=>by
  rw[show 4*(([a].length+3)/4)-[a].length=3 by simp];show a<256;exact h.head
 |[a,b],h=>by
  rw[show 4*(([a,b].length+3)/4)-[a,b].length=2 by simp];show a+256*b<65536;have:=h.head;have:=h.tail.head;omega
 |[a,b,c],h=>by
  rw[show 4*(([a,b,c].length+3)/4)-[a,b,c].length=1 by simp];show a+256*b+65536*c<16777216;have:=h.head;have:=h.tail.head;have:=h.tail.tail.head;omega
 |a :: b :: c :: d :: t,h=>by
  have e:4*(((a :: b :: c :: d :: t).length+3)/4)-(a :: b :: c :: d :: t).length=4*((t.length+3)/4)-t.length:=by
   simp only[List.length_cons];omega
  rw[e];have ih:=packB_last t h.tail.tail.tail.tail;by_cases h0:t=[]
  ·subst h0;show a+256*b+65536*c+16777216*d<4294967296
   have:=h.head;have:=h.tail.head;have:=h.tail.tail.head;have:=h.tail.tail.tail.head;omega
  ·have hp:0<(packB t).length:=(by rw[packB_length];have:=List.length_pos_iff.2 h0;omega);obtain⟨n,hn⟩: ∃n,(packB t).length=n+1:=⟨(packB t).length-1,by omega⟩;rw[hn,Nat.add_sub_cancel]at ih;show wd (_ :: packB t) ((packB t).length+1-1)<_
   rw[hn,Nat.add_sub_cancel,wd_succ];exact ih
theorem good_make{h:Hp}(k:Good h){c:Nat}{t:List Nat}(ht:B8 t)(hl:t.length≤262140)(hc:clsO h c=true)(hr:room h ((t.length+3)/4)=true):Good (addO h 2 (4*((t.length+3)/4)-t.length) c (packB t)):=by
 have e:=packB_length t;refine k.add (by rw[e];exact hr) ⟨?_,?_,?_,?_,?_⟩ (clsO_lt k hc) (packB_lim t ht) ?_
 ·show(packB t).length≤65535;omega
 ·show 1≤2;decide
 ·show 2≤4;decide
 ·show 4*((t.length+3)/4)-t.length≤3;omega
 ·show 4*((t.length+3)/4)-t.length=0∨(2=2∧0<(packB t).length)
  rw[e];omega
 ·intro _ _;exact packB_last t ht
theorem good_alloc{h:Hp}(k:Good h){c f n v:Nat}(hf:1≤f)(hf4:f≤4)(hn:n≤65535)(hv:v<4294967296)(hc:clsO h c=true)(hr:room h n=true):Good (addO h f 0 c (List.replicate n v)):=by
 refine k.add (by rw[List.length_replicate];exact hr) ⟨?_,hf,hf4,?_,.inl rfl⟩ (clsO_lt k hc) (Lim.replicate _ hv) (fun _ h=>absurd h (by decide))
 ·show(List.replicate n v).length≤65535;rw[List.length_replicate];exact hn
 ·show 0≤3;decide
def qalloc(p:Pk)(c f n:Nat):Option (Nat×Pk):=
 if qC p c&&qroom p n&&decide (1≤f)&&decide (f≤4)&&decide (n≤65535)then some (2*p.n,qadd p f 0 c n (val (List.replicate n (if f=1∨f=4 then rd p.R 0 else 0))))else none
theorem up_alloc{h:Hp}(k:Good h)(c f n:Nat):Up (allocP h c f n) (qalloc (pk h) c f n):=by
 intro a p hp;unfold qalloc at hp;split at hp
 ·rename_i hc;simp only[Bool.and_eq_true,decide_eq_true_eq]at hc;obtain⟨⟨⟨⟨c1,c2⟩,c3⟩,c4⟩,c5⟩:=hc;rw[qC_eq]at c1;rw[qroom_eq]at c2;rw[Option.some.injEq,Prod.mk.injEq]at hp;obtain⟨rfl,rfl⟩:=hp;refine⟨_,by unfold allocP;rw[if_pos (by rw[c1,c2];rfl)];rfl,?_,?_⟩
  ·rw[qadd_eq k,List.length_replicate,rd_root k]
  ·refine good_alloc k c3 c4 c5 ?_ c1 c2;split
   ·exact k.rlim.wd 0
   ·decide
 ·cases hp
def qmake(p:Pk)(c:Nat)(t:List Nat):Option (Nat×Pk):=
 if qC p c&&qroom p ((t.length+3)/4)then some (2*p.n,qadd p 2 (4*((t.length+3)/4)-t.length) c ((t.length+3)/4) (val (packB t)))else none
theorem up_make{h:Hp}(k:Good h)(c:Nat){t:List Nat}(ht:B8 t)(hl:t.length≤262140):Up (makeP h c t) (qmake (pk h) c t):=by
 intro a p hp;unfold qmake at hp;split at hp
 ·rename_i hc;simp only[Bool.and_eq_true]at hc;rw[qC_eq,qroom_eq]at hc;rw[Option.some.injEq,Prod.mk.injEq]at hp;obtain⟨rfl,rfl⟩:=hp;refine⟨_,by unfold makeP;rw[if_pos (by rw[hc.1,hc.2];rfl)];rfl,?_,good_make k ht hl hc.1 hc.2⟩;rw[qadd_eq k,packB_length]
 ·cases hp
def qput(p:Pk)(o i v:Nat):Option Pk:=if qF p o 1 (i+1)&&decide (v<4294967296)then some (qset p (o/2+3+i) v)else none
theorem good_put{h:Hp}(k:Good h){o i v f:Nat}(hf:isF h o f (i+1)=true)(h2:f≠2)(hv:v<4294967296):Good (putF h o i v):=by
 unfold isF at hf;simp only[Bool.and_eq_true,decide_eq_true_eq]at hf;obtain⟨⟨h1,h3⟩,h4⟩:=hf;exact k.putW (isO_iff.1 h1).2.2 (show i<(hd h (o/2)).size from h4) hv (fun e=>absurd (h3.symm.trans e) h2)
theorem put_lt{h:Hp}(k:Good h){o i f:Nat}(hf:isF h o f (i+1)=true):o/2+3+i<h.ws.length:=by
 unfold isF at hf;simp only[Bool.and_eq_true,decide_eq_true_eq]at hf;have:=k.inside _ (isO_iff.1 hf.1.1).2.2;have h4:i+1≤(hd h (o/2)).size:=hf.2;omega
theorem up_put{h:Hp}(k:Good h)(o i v:Nat):Up1 (some (putF h o i v)) (qput (pk h) o i v):=by
 intro p hp;unfold qput at hp;split at hp
 ·rename_i hc;simp only[Bool.and_eq_true,decide_eq_true_eq]at hc;rw[qF_eq k]at hc;obtain⟨h1,h2⟩:=hc;exact⟨_,rfl,by rw[←Option.some.inj hp];exact qset_eq k (put_lt k h1),good_put k h1 (by decide) h2⟩
 ·cases hp
def qcls(p:Pk)(o c:Nat):Option Pk:=if qO p o&&qC p c then some (qset p (o/2+1) c)else none
theorem up_cls{h:Hp}(k:Good h)(o c:Nat):Up1 (some (setC h o c)) (qcls (pk h) o c):=by
 intro p hp;unfold qcls at hp;split at hp
 ·rename_i hc;simp only[Bool.and_eq_true]at hc;rw[qO_eq,qC_eq]at hc;have hb:=(isO_iff.1 hc.1).2.2;have:=k.inside _ hb;exact⟨_,rfl,by rw[←Option.some.inj hp];exact qset_eq k (by omega),k.setC hb (clsO_lt k hc.2)⟩
 ·cases hp
def qsetr(p:Pk)(i v:Nat):Option Pk:=if decide (i<64)&&decide (v<4294967296)then some (qroot p i v)else none
theorem up_setr{h:Hp}(k:Good h)(i v:Nat):Up1 (some (setR h i v)) (qsetr (pk h) i v):=by
 intro p hp;unfold qsetr at hp;split at hp
 ·rename_i hc;simp only[Bool.and_eq_true,decide_eq_true_eq]at hc;exact⟨_,rfl,by rw[←Option.some.inj hp];exact qroot_eq k hc.1,k.setR hc.2⟩
 ·cases hp
def qputL(p:Pk)(r o:Nat):Option Pk:=qput p (rd p.R r) (qent p r).length o
theorem up_putL{h:Hp}(k:Good h)(r o:Nat):Up1 (putL h r o) (qputL (pk h) r o):=by
 intro p hp;unfold qputL at hp;rw[rd_root k,qent_eq k]at hp;obtain⟨h1,e,h2,h3⟩:=up_put k _ _ _ p hp;refine⟨h1,?_,h2,h3⟩;unfold putL;unfold qput at hp;split at hp
 ·rename_i hc;simp only[Bool.and_eq_true]at hc;rw[qF_eq k]at hc;simp only[if_pos hc.1];exact e
 ·cases hp
theorem Up.bind{α β:Type}{x:Option (α×Hp)}{y:Option (α×Pk)}{f:α×Hp→Option (β×Hp)}{g:α×Pk→Option (β×Pk)}(h:Up x y)(hf: ∀a h1,Good h1→Up (f (a,h1)) (g (a,pk h1))):Up (x.bind f) (y.bind g):=by
 intro b p hp;obtain⟨⟨a,q⟩,e1,e2⟩:=Option.bind_eq_some_iff.1 hp;obtain⟨h1,e3,rfl,k⟩:=h a q e1;obtain⟨h2,e4,e5,k2⟩:=hf a h1 k b p e2;exact⟨h2,by rw[e3];exact e4,e5,k2⟩
theorem Up.bind1{α:Type}{x:Option (α×Hp)}{y:Option (α×Pk)}{f:α×Hp→Option Hp}{g:α×Pk→Option Pk}(h:Up x y)(hf: ∀a h1,Good h1→Up1 (f (a,h1)) (g (a,pk h1))):Up1 (x.bind f) (y.bind g):=by
 intro p hp;obtain⟨⟨a,q⟩,e1,e2⟩:=Option.bind_eq_some_iff.1 hp;obtain⟨h1,e3,rfl,k⟩:=h a q e1;obtain⟨h2,e4,e5,k2⟩:=hf a h1 k p e2;exact⟨h2,by rw[e3];exact e4,e5,k2⟩
theorem Up1.bind{β:Type}{x:Option Hp}{y:Option Pk}{f:Hp→Option (β×Hp)}{g:Pk→Option (β×Pk)}(h:Up1 x y)(hf: ∀h1,Good h1→Up (f h1) (g (pk h1))):Up (x.bind f) (y.bind g):=by
 intro b p hp;obtain⟨q,e1,e2⟩:=Option.bind_eq_some_iff.1 hp;obtain⟨h1,e3,rfl,k⟩:=h q e1;obtain⟨h2,e4,e5,k2⟩:=hf h1 k b p e2;exact⟨h2,by rw[e3];exact e4,e5,k2⟩
theorem Up1.bind1{x:Option Hp}{y:Option Pk}{f:Hp→Option Hp}{g:Pk→Option Pk}(h:Up1 x y)(hf: ∀h1,Good h1→Up1 (f h1) (g (pk h1))):Up1 (x.bind f) (y.bind g):=by
 intro p hp;obtain⟨q,e1,e2⟩:=Option.bind_eq_some_iff.1 hp;obtain⟨h1,e3,rfl,k⟩:=h q e1;obtain⟨h2,e4,e5,k2⟩:=hf h1 k p e2;exact⟨h2,by rw[e3];exact e4,e5,k2⟩
theorem Up1.map{β:Type}{x:Option Hp}{y:Option Pk}(h:Up1 x y)(b:β):Up (x.map fun z=>(b,z)) (y.map fun z=>(b,z)):=by
 intro c p hp;obtain⟨q,e1,e2⟩:=Option.map_eq_some_iff.1 hp;obtain⟨h1,e3,rfl,k⟩:=h q e1;rw[Prod.mk.injEq]at e2;obtain⟨rfl,rfl⟩:=e2;exact⟨h1,by rw[e3];rfl,rfl,k⟩
theorem Up.map{α β:Type}{x:Option (α×Hp)}{y:Option (α×Pk)}(h:Up x y)(f:α→β):Up (x.map fun z=>(f z.1,z.2)) (y.map fun z=>(f z.1,z.2)):=by
 intro c p hp;obtain⟨⟨a,q⟩,e1,e2⟩:=Option.map_eq_some_iff.1 hp;obtain⟨h1,e3,rfl,k⟩:=h a q e1;rw[Prod.mk.injEq]at e2;obtain⟨rfl,rfl⟩:=e2;exact⟨h1,by rw[e3];rfl,rfl,k⟩
theorem Up.ret{α:Type}{h:Hp}(k:Good h)(a:α):Up (some (a,h)) (some (a,pk h)):=by
 intro b p hp;rw[Option.some.injEq,Prod.mk.injEq]at hp;exact⟨h,by rw[hp.1],hp.2,k⟩
theorem Up1.ret{h:Hp}(k:Good h):Up1 (some h) (some (pk h)):=fun p hp=>⟨h,rfl,Option.some.inj hp,k⟩
def qsym(p:Pk)(t:List Nat):Nat:=((qent p 3).find? (qreads p t)).getD 0
def qglobo(p:Pk)(t:List Nat):Nat:=((qent p 4).find? (qglob p t)).getD 0
theorem qsym_eq{h:Hp}(k:Good h){t:List Nat}(ht:B8 t):qsym (pk h) t=symP h t:=by
 unfold qsym symP;rw[qent_eq k,show qreads (pk h) t=readsO h t from funext (qreads_eq k ht)]
theorem qglobo_eq{h:Hp}(k:Good h){t:List Nat}(ht:B8 t):qglobo (pk h) t=globP h t:=by
 unfold qglobo globP;rw[qent_eq k,show qglob (pk h) t=isGlob h t from funext (qglob_eq k ht)]
def qintern(p:Pk)(t:List Nat):Option (Nat×Pk):=
 if qsym p t=0 then(qmake p (rd p.R 18) t).bind fun x=>(qputL x.2 3 x.1).map fun h2=>(x.1,h2)else some (qsym p t,p)
theorem up_intern{h:Hp}(k:Good h){t:List Nat}(ht:B8 t)(hl:t.length≤262140):Up (internP h t) (qintern (pk h) t):=by
 unfold internP qintern;rw[qsym_eq k ht,rd_root k];by_cases h0:symP h t=0
 ·simp only[if_pos h0];exact(up_make k _ ht hl).bind fun a h1 k1=>(up_putL k1 3 a).map a
 ·simp only[if_neg h0];exact Up.ret k _
def qsetg(p:Pk)(t:List Nat)(v:Nat):Option (Nat×Pk):=
 if qglobo p t=0 then(qintern p t).bind fun x=>(qalloc x.2 (rd x.2.R 23) 1 2).bind fun a=>(qput a.2 a.1 0 x.1).bind fun h1=>(qput h1 a.1 1 v).bind fun h2=>(qputL h2 4 a.1).map fun h3=>(a.1,h3)else none
theorem up_setg{h:Hp}(k:Good h){t:List Nat}(ht:B8 t)(hl:t.length≤262140)(v:Nat):Up (setGlobP h t v) (qsetg (pk h) t v):=by
 unfold setGlobP qsetg;rw[qglobo_eq k ht];by_cases h0:globP h t=0
 ·simp only[if_pos h0];refine(up_intern k ht hl).bind fun a h1 k1=>?_
  simp only[rd_root k1];refine(up_alloc k1 _ _ _).bind fun b h2 k2=>?_
  show Up ((some (putF h2 b 0 a)).bind fun h3=>(some (putF h3 b 1 v)).bind fun h4=>(putL h4 4 b).map fun h5=>(b,h5)) _
  exact(up_put k2 _ _ _).bind fun h3 k3=>(up_put k3 _ _ _).bind fun h4 k4=>(up_putL k4 4 b).map b
 ·simp only[if_neg h0];intro a p hp;cases hp
def okT(t:List Nat):Bool:=t.all (fun x=>decide (x<256))&&decide (t.length≤262140)
theorem okT_iff{t:List Nat}(h:okT t=true):B8 t∧t.length≤262140:=by
 unfold okT at h;simp only[Bool.and_eq_true,decide_eq_true_eq,List.all_eq_true]at h;exact h
def qnameAll:Nat→List Plan→Pk→Option Pk
 |_,[],h=>some h
 |i,p :: t,h=>(qintern h p.name).bind fun s=>(qput s.2 (rd s.2.R (10+i)) 0 s.1).bind fun x=>(qsetg x p.name (rd s.2.R (10+i))).bind fun x=>qnameAll (i+1) t x.2
theorem up_nameAll: ∀(l:List Plan) (i:Nat) (h:Hp),Good h→l.all (fun p=>okT p.name)=true→Up1 (nameAll i l h) (qnameAll i l (pk h))
 |[],_,h,k,_=>Up1.ret k
 |p :: t,i,h,k,hl=>by
  simp only[List.all_cons,Bool.and_eq_true]at hl;obtain⟨b,l⟩:=okT_iff hl.1;refine(up_intern k b l).bind1 fun a h1 k1=>?_
  simp only[rd_root k1];show Up1 ((some (putF h1 (wd h1.rt (10+i)) 0 a)).bind fun x=>(setGlobP x p.name (wd h1.rt (10+i))).bind fun x=>nameAll (i+1) t x.2) _
  exact(up_put k1 _ _ _).bind1 fun h2 k2=>(up_setg k2 b l _).bind1 fun c h3 k3=>up_nameAll t (i+1) h3 k3 hl.2
def qselAll:Nat→List (List Nat)→Pk→Option Pk
 |_,[],h=>some h
 |i,p :: t,h=>(qintern h p).bind fun s=>(qput s.2 (rd s.2.R 8) i s.1).bind fun x=>qselAll (i+1) t x
theorem up_selAll: ∀(l:List (List Nat)) (i:Nat) (h:Hp),Good h→l.all okT=true→Up1 (selAll i l h) (qselAll i l (pk h))
 |[],_,h,k,_=>Up1.ret k
 |p :: t,i,h,k,hl=>by
  simp only[List.all_cons,Bool.and_eq_true]at hl;obtain⟨b,l⟩:=okT_iff hl.1;refine(up_intern k b l).bind1 fun a h1 k1=>?_
  simp only[rd_root k1];show Up1 ((some (putF h1 (wd h1.rt 8) i a)).bind fun x=>selAll (i+1) t x) _
  exact(up_put k1 _ _ _).bind1 fun h2 k2=>up_selAll t (i+1) h2 k2 hl.2
def qinternAll:List (List Nat)→Pk→Option (List Nat×Pk)
 |[],h=>some ([],h)
 |s :: t,h=>(qintern h s).bind fun x=>(qinternAll t x.2).map fun y=>(x.1 :: y.1,y.2)
theorem up_internAll: ∀(l:List (List Nat)) (h:Hp),Good h→l.all okT=true→Up (internAll l h) (qinternAll l (pk h))
 |[],h,k,_=>Up.ret k _
 |p :: t,h,k,hl=>by
  simp only[List.all_cons,Bool.and_eq_true]at hl;obtain⟨b,l⟩:=okT_iff hl.1;exact(up_intern k b l).bind fun a h1 k1=>(up_internAll t h1 k1 hl.2).map (fun y=>a :: y)
def qputAll(a:Nat):Nat→List Nat→Pk→Option Pk
 |_,[],h=>some h
 |i,v :: t,h=>(qput h a i v).bind fun x=>qputAll a (i+1) t x
theorem up_putAll(a:Nat): ∀(l:List Nat) (i:Nat) (h:Hp),Good h→Up1 (some (putAll a i l h)) (qputAll a i l (pk h))
 |[],_,h,k=>Up1.ret k
 |v :: t,i,h,k=>by
  show Up1 ((some (putF h a i v)).bind fun x=>some (putAll a (i+1) t x)) _
  exact(up_put k _ _ _).bind1 fun h2 k2=>up_putAll a t (i+1) h2 k2
def qownF(h:Pk)(c:Nat)(fs:List (List Nat)):Option Pk:=
 (qinternAll fs h).bind fun x=>(qalloc x.2 (rd x.2.R 20) 1 fs.length).bind fun a=>(qputAll a.1 0 x.1 a.2).bind fun y=>qput y c 3 a.1
theorem up_ownF{h:Hp}(k:Good h)(c:Nat)(fs:List (List Nat))(hl:fs.all okT=true):Up1 (ownF h c fs) (qownF (pk h) c fs):=by
 refine(up_internAll fs h k hl).bind1 fun l h1 k1=>?_
 simp only[rd_root k1]
 have e:((allocP h1 (wd h1.rt 20) 1 fs.length).map fun a=>putF (putAll a.1 0 l a.2) c 3 a.1)=(allocP h1 (wd h1.rt 20) 1 fs.length).bind fun a=>(some (putAll a.1 0 l a.2)).bind fun y=>some (putF y c 3 a.1):=by
  cases allocP h1 (wd h1.rt 20) 1 fs.length<;>rfl
 rw[e];exact(up_alloc k1 _ _ _).bind1 fun a h2 k2=>(up_putAll a l 0 h2 k2).bind1 fun h3 k3=>up_put k3 _ _ _
def qfieldAll:Nat→List Plan→Pk→Option Pk
 |_,[],h=>some h
 |i,p :: t,h=>if p.fields=[]then qfieldAll (i+1) t h else(qownF h (rd h.R (10+i)) p.fields).bind (qfieldAll (i+1) t)
theorem up_fieldAll: ∀(l:List Plan) (i:Nat) (h:Hp),Good h→l.all (fun p=>p.fields.all okT)=true→Up1 (fieldAll i l h) (qfieldAll i l (pk h))
 |[],_,h,k,_=>Up1.ret k
 |p :: t,i,h,k,hl=>by
  simp only[List.all_cons,Bool.and_eq_true]at hl;unfold fieldAll qfieldAll;by_cases h0:p.fields=[]
  ·rw[if_pos h0,if_pos h0];exact up_fieldAll t (i+1) h k hl.2
  ·rw[if_neg h0,if_neg h0,rd_root k];exact(up_ownF k _ _ hl.1).bind1 fun h2 k2=>up_fieldAll t (i+1) h2 k2 hl.2
end Go.Proofs.YtbffpkmfhkphdaaGreatDoor.Limb

/- Walks and laws that LargeData asks for. -/
import Derived.Test.YtfefijlnbhbplaaGreatDoorGX05
set_option linter.unusedVariables false
set_option linter.unusedSimpArgs false
set_option maxRecDepth 1000000
set_option maxHeartbeats 6400000
namespace Go.Proofs.YtfefijlnbhbplaaGreatDoor
open Go Lib Go.RowKit Limb Tryz
theorem fJ(W:World):(sizeOf 5).run prog W= .ok 1 W:=κ
theorem iT:(prog.info? 5).map (fun i=>(i.zero,i.size,i.bytes))=some (some (.int .u8 0),1,1):=κ
theorem aX{P:Program}{t e:TypeId}(ht:P.underlying t=some (.slice e))(hs: ∀W,(sizeOf e).run P W= .ok 1 W)(g n cap:Nat)(k:IntKind)(i:Int)(d:Nat)(a:i=d)(b:d<n)(W:World):(Instr.indexAt t (M g n cap) (.int k i)).run P W= .ok (Θ g d) W:=by
 subst a;simp[Instr.indexAt,run_underlying ht,asIntOf,b,hs,Result.andThen,Addr.add];intro h;omega
theorem Ds(r:Nat):(2:Nat)^(8*r)=256^r:=by rw[Nat.pow_mul]
theorem E5{z b r:Nat}(c:r<4)(d:z<256^r)(f:b<256):bits .or .u32 (z:Int) ((b*256^r:Nat):Int)=((z+b*256^r:Nat):Int)/\b*256^r<4294967296:=by
 have h:=lK c;have e:=Nat.mul_le_mul_right (256^r) (show b<=255 by omega);rw[Nat.pow_succ]at h;have a:b*256^r<4294967296:=by have:0<256^r:=Nat.pow_pos δ;omega
 refine⟨?_,a⟩;rw[u32_or_nat _ _ ω a,Nat.or_comm,<-Ds,nat_join (8*r) _ _ (Nat.mul_mod_left _ _) (by rw[Ds];exact d),Nat.add_comm]
theorem rN(w:World)(p:Nat)(v:Int)(a:Option Addr)(bs:List Nat)(L cap:Nat)(hp:IntAt w p v)(hlay:Lay .u8 w a bs)(hL:L=bs.length)(hlim: ∀i,wd bs i<256)(hm:L<=1099511627776):Calls prog 155 #[E p,.slice a L cap] w fun e w'=>fD w w' e p (ke (fun i=>wd bs (L-1-i)) L:Nat):=by
 obtain⟨b1,off1,hix,hcx,_⟩:=hlay.use 50 5 underlying50 fJ cap;rw[<-hL]at hix hcx;have HL:=hid hL;clear hL;have HX:=hid hix;clear hix;have HCX:=hid hcx;clear hcx;obtain⟨m,hm1,hm2⟩: ∃m,4*m<=L+3/\L<=4*m:=⟨(L+3)/4,ω,ω⟩;have em:((L:Int)+3)/4=m:=ω
 go_enter func155,ntmps155;go_wp2_with(at_make;refine aI rfl _ _ _ rfl 25 (Ψ 0) 4 underlying192 bz rfl _ _ _ _ m m rfl rfl ω ω ω ω ω ?_;intro w1 g hg1 hg2 hrow hbel);go_loopw[14] (fun i wr=> ∃(k:Nat) (xs:List Nat),k<=L/\i= .int .i64 k/\Laid (fun i=>wd bs (L-1-i)) xs m k/\Row wr g 25 (aC .u32 xs)/\Below w w wr) (fun i _=>L-(intOf i).toNat);case atStart=>exact⟨0,List.replicate m 0,ω,rfl,Laid.start _ _,by rw[aG];exact hrow,hbel⟩
 case round=>
  obtain⟨k,xs,hk,rfl,hD,hr,hbl⟩:=hrel;have HD:=hid hD;clear hD;by_cases hlt:k<L
  ·obtain⟨d,hd⟩:=ξ (k/4);obtain⟨r,hrr⟩:=ξ (k%4);have e1:(k:Int)/4=d:=ω
   have e2:(k:Int)%4=r:=ω;have d_lt:d<m:=ω
   have r_lt:r<4:=ω;have hstep:=HD.out.step (hlim _) ω;have hnew:=HD.out.new_lt (hlim _);have hhere:=HD.out.here;rw[<-hd,<-hrr]at hstep hnew hhere;have hpl:=lK r_lt;obtain⟨eor,hsm⟩:=E5 r_lt hhere (hlim (L-1-k));have Hd:=hid hd;clear hd;have Hr:=hid hrr;clear hrr;have HS:=hid hstep;clear hstep;have ix:=HX.out wr.drew .i64 ((L:Int)-1-k) ω ω;rw[show((L:Int)-1-k).toNat=L-1-k from by omega]at ix;have cx:=HCX.out wr hbl (L-1-k) ω;have hcell:=hr.cell (i:=d) (by rw[HD.out.len];omega);have hfk:=hr.free d;have b_b:=hlim (L-1-k);obtain⟨bv,hbv⟩:=ξ (wd bs (L-1-k));rw[<-hbv]at cx b_b eor hsm HS hnew;clear hbv;have ep:(2:Int)^(8*r)=((256^r:Nat):Int):=by rw[<-Ds,Int.natCast_pow];rfl
   have esh:(bv:Int)*2^(8*r)=((bv*256^r:Nat):Int):=(by rw[ep,Int.natCast_mul]);obtain⟨t,ht⟩:=ξ (bv*256^r);rw[<-ht]at eor hsm HS hnew esh;clear ep ht;have ig:=aX (P:=prog) underlying192 aK g m m .i64 ((k:Int)/4) d e1 d_lt;clear e1;go_wp2;go_region;go_wp2;go_roundw;case rel=>exact⟨k+1,xs.set d (wd xs d+t),ω,by go_num,HS.out,(hr.store _ _ _ ω).drew,(aw hbl hg1 _).drew⟩
   case measure=>exact μ
  ·obtain rfl:k=L:=ω
   have hl2:=hr.lay;have hlim2:=HD.out.lim;have hlen:=HD.out.len;have hle2:=aQ hlim2;have heq:=HD.out.eq;have Heq:=hid heq;clear heq;have Hlen:=hid hlen;clear hlen;go_wp2_with fail;refine(dA _ _ xs _ _ hl2 hlim2 Hlen.out.symm ω ω).mono ?_;rintro e w' ⟨rfl,rfl⟩;rw[Heq.out]at hle2 ⊢;rw[Hlen.out]at hle2;have hln:=hl2.norm hlim2;rw[Heq.out]at hln;go_wp2_with fail;refine(ck _ p v _ _ _ _ _ (hp.only (ps:=[]) (Only.of_below hbl) (by simp) (IntBlocks.nil _)) (by rw[Int.natAbs_natCast];exact hln) (by rw[Int.natAbs_natCast]) hle2 ⟨fun h=>(by simp at h),fun _=>Int.natCast_nonneg _⟩).mono ?_;rintro e w2 ⟨rfl,h5,h6⟩;go_wp2;go_ret;exact⟨rfl,h5,(Only.of_below hbl).trans h6 (by simp)⟩
theorem Lay.notRow{w:World}{a:Option Addr}{l bs:List Nat}{g:Nat}{e:TypeId}{K o:IntKind}(h:Lay K w a l)(q:Row w g e (aC o bs))(r:K≠o):0<l.length->∀b c,a=some ⟨b,c,none⟩->b∉[g]:=by
 intro m b c e n;rw[List.mem_singleton]at n;subst n;obtain⟨s,j,h1,p⟩:=h;have d:=(h1 m).1;rw[e]at d;simp only[Option.some.injEq,Addr.mk.injEq,and_true]at d;obtain⟨rfl,rfl⟩:=d;have i:=p 0 m;rw[q.ae]at i;obtain⟨f,k⟩:=List.getElem?_eq_some_iff.1 i;rw[aD]at f;simp only[aC,List.getElem_map]at k;injection k with h6
 exact r h6.symm
theorem pg(w:World)(q g:Nat)(z:Int)(bs:List Nat)(L cap:Nat)(hq:IntAt w q z)(hr:Row w g 5 (aC .u8 bs))(hL:bs.length=L)(hqg:q≠g)(hm:L<=1099511627776)(hs:(rep z.natAbs).length<=68719476736):Calls prog 158 #[E q,M g L cap] w fun e w'=>e= .returned (M g L cap)/\Only [g] w w'/\∃bs',Row w' g 5 (aC .u8 bs')/\bs'.length=L/\∀j,j<L->wd bs' (L-1-j)=byt (rep z.natAbs) j:=by
 obtain⟨b,a,n,cap1,Hb,Hn,hc,hl,hcells⟩:=hq.use;have hng:=hl.notRow hr δ
 have h1: ∀w',Only [g] w w'->w'.cell? ⟨q,1,none⟩=some (.slice a n cap1)/\Lay .u32 w' a (rep z.natAbs):=by
  intro w' ho;rw[World.cell?_of_block (a:=⟨q,1,none⟩) (ho.block q hq.lt (by simp;exact hqg))];exact⟨(hcells w (Only.refl _ _)).2,hl.only ho hng⟩
 rw[<-Hn.out]at hs;have H1:=hid h1;clear h1 hcells hng;have HL:=hid hL;clear hL;go_enter func158,ntmps158;go_wp2;go_loopw[8] (fun i wr=> ∃(k:Nat) (bs':List Nat),k<=L/\i= .int .i64 k/\bs'.length=L/\Row wr g 5 (aC .u8 bs')/\(∀j,j<k->wd bs' (L-1-j)=byt (rep z.natAbs) j)/\Only [g] w wr) (fun i _=>L-(intOf i).toNat);case atStart=>exact⟨0,bs,ω,rfl,HL.out,hr,fun j hj=>absurd hj ω,Only.refl _ _⟩
 case round=>
  obtain⟨k,bs',hk,rfl,hl',hr',hd,ho⟩:=hrel;obtain⟨c1,hlr⟩:=H1.out wr ho;have HL':=hid hl';clear hl';have HD:=hid hd;clear hd;by_cases hlt:k<L
  ·obtain⟨d,hd⟩:=ξ (k/4);obtain⟨r,hrr⟩:=ξ (k%4);have e1:(k:Int)/4=d:=ω
   have e2:(k:Int)%4=r:=ω;have r_lt:r<4:=ω
   have b_x:=(aB z.natAbs).wd d;have hby:byt (rep z.natAbs) k=wd (rep z.natAbs) d/256^r%256:=by unfold byt;rw[<-hd,<-hrr]
   have HB:=hid hby;clear hby;have Hd:=hid hd;clear hd;clear hrr;have hdig:=ee wr a (rep z.natAbs) n cap1 ((k:Int)/4) hlr (aB _) Hn.out ω ω;rw[e1,Int.toNat_natCast]at hdig;obtain⟨x,hx⟩:=ξ (wd (rep z.natAbs) d);rw[<-hx]at b_x hdig HB;have HDg:=hid hdig;clear hdig hx;have ep:(2:Int)^(8*r)=((256^r:Nat):Int):=by rw[<-Ds,Int.natCast_pow];rfl
   obtain⟨pw,hpw⟩:=ξ (256^r);have hp0:0<pw:=by rw[hpw];exact Nat.pow_pos δ
   rw[<-hpw]at ep HB;clear hpw;have ig:=aX (P:=prog) underlying50 fJ g L cap .i64 ((L:Int)-1-k) (L-1-k) ω ω;have hcell:=hr'.cell (i:=L-1-k) (by rw[HL'.out];omega);have hfk:=hr'.free (L-1-k);have q0:(0:Int)<=(x:Int)/(pw:Int):=by rw[<-Int.natCast_ediv];exact Int.natCast_nonneg _
   go_wp2_with(go_at_call 227;(try simp only[e1]);refine HDg.out.mono ?_;rintro e w' ⟨rfl,rfl⟩);go_roundw
   case rel=>exact⟨k+1,bs'.set (L-1-k) (x/pw%256),ω,by go_num,by rw[List.length_set,HL'.out],hr'.store _ _ _ (by rw[Int.natCast_emod,Int.natCast_ediv];rfl),fun j hj=>by
    rw[cm (by rw[HL'.out];omega)];by_cases hjk:j=k
    ·rw[hjk,if_pos rfl,HB.out]
    ·rw[if_neg ω];exact HD.out j ω,ho.setCell (by simp) _⟩
   case measure=>exact μ
  ·obtain rfl:k=L:=ω
   go_wp2;go_ret;exact⟨rfl,ho,bs',hr',HL'.out,HD.out⟩
theorem D0{zs ys:List Nat}{i j c a S:Nat}(f:i+j<zs.length)(h:val (zs.take (i+j))+c*W (i+j)=S+a*val (ys.take j)*W i):val ((zs.set (i+j) ((a*wd ys j+wd zs (i+j)+c)%4294967296)).take (i+(j+1)))+(a*wd ys j+wd zs (i+j)+c)/4294967296*W (i+(j+1))=S+wd zs (i+j)*W (i+j)+a*val (ys.take (j+1))*W i:=by
 rw[<-Nat.add_assoc,bK _ f,aN,bP];have b:=Nat.div_add_mod (a*wd ys j+wd zs (i+j)+c) 4294967296;generalize(a*wd ys j+wd zs (i+j)+c)/4294967296=q at*
 generalize(a*wd ys j+wd zs (i+j)+c)%4294967296=r at*
 have d:=congrArg (fun t=>W (i+j)*t) b;simp only[Nat.mul_add]at d;have g:W (i+j)*(4294967296*q)=q*(4294967296*W (i+j)):=by rw[Nat.mul_comm,Nat.mul_right_comm,Nat.mul_comm (4294967296*_)]
 have l:a*(val (ys.take j)+W j*wd ys j)*W i=a*val (ys.take j)*W i+W (i+j)*(a*wd ys j):=by
  rw[Nat.mul_add,Nat.add_mul,oA];congr 1;rw[Nat.mul_left_comm a,Nat.mul_right_comm,Nat.mul_comm (W j) (W i)]
 have m:W (i+j)*c=c*W (i+j):=Nat.mul_comm _ _;have n:W (i+j)*wd zs (i+j)=wd zs (i+j)*W (i+j):=Nat.mul_comm _ _;omega
theorem qQ{zs b ys:List Nat}{i j c a:Nat}(d:i+j<zs.length)(f:wd zs (i+j)=wd b (i+j))(h:val (zs.take (i+j))+c*W (i+j)=val (b.take (i+j))+a*val (ys.take j)*W i):val ((zs.set (i+j) ((a*wd ys j+wd zs (i+j)+c)%4294967296)).take (i+(j+1)))+(a*wd ys j+wd zs (i+j)+c)/4294967296*W (i+(j+1))=val (b.take (i+(j+1)))+a*val (ys.take (j+1))*W i:=by
 rw[D0 d h,<-Nat.add_assoc,aN b,f,Nat.mul_comm (wd b _)]
theorem zW{zs b xs ys:List Nat}{i m c:Nat}(d:m=ys.length)(f:i+m<zs.length)(g:i<xs.length)(h0:val (b.take (i+m))=val (xs.take i)*val ys)(h:val (zs.take (i+m))+c*W (i+m)=val (b.take (i+m))+wd xs i*val (ys.take m)*W i):val ((zs.set (i+m) c).take (i+1+m))=val (xs.take (i+1))*val ys:=by
 rw[show i+1+m=i+m+1 from ω,bK _ f,Nat.mul_comm (W _),h,h0,d,List.take_length,aN xs,Nat.add_mul,Nat.mul_comm (W i),Nat.mul_right_comm]
theorem yO(w:World)(a b:Option Addr)(xs ys:List Nat)(n m ca cb:Nat)(ha:Lay .u32 w a xs)(hb:Lay .u32 w b ys)(hx:Lim xs)(hy:Lim ys)(hn:n=xs.length)(hm:m=ys.length)(ln:n<=1099511627776)(lm:m<=1099511627776):Calls prog 164 #[.slice a n ca,.slice b m cb] w fun e w'=>lW w w' e (val xs*val ys):=by
 obtain⟨b1,off1,hix,hcx,_⟩:=ha.use 192 25 underlying192 aK ca;obtain⟨b2,off2,hiy,hcy,_⟩:=hb.use 192 25 underlying192 aK cb;rw[<-hn]at hix hcx;rw[<-hm]at hiy hcy;by_cases h0:n=0∨m=0
 ·have hv:Hid (val xs*val ys=0):=by
   unfold Hid;rcases h0 with h|h
   ·rw[List.eq_nil_of_length_eq_zero (hn.symm.trans h)];simp[val]
   ·rw[List.eq_nil_of_length_eq_zero (hm.symm.trans h)];simp[val]
  have hres:lW w w (.returned (.slice none 0 0)) (val xs*val ys):=(by rw[hv.out];exact⟨none,0,rfl,by simp[eE],δ,Lay.nil _ _ _,Below.refl _ _⟩);clear hix hiy hcx hcy hn hm;rcases h0 with h|h
  ·subst h;go_enter func164,ntmps164;go_wp2;go_ret;exact hres
  ·subst h;go_enter func164,ntmps164;go_wp2;all_goals go_ret
   all_goals exact hres
 ·have p1:0<n:=ω;have p2:0<m:=ω
  have q1:((n:Int)==0)=false:=nE;have q2:((m:Int)==0)=false:=nE
  have Hn:=hid hn;clear hn;have Hm:=hid hm;clear hm;have HX:=hid hix;clear hix;have HCX:=hid hcx;clear hcx;have HY:=hid hiy;clear hiy;have HCY:=hid hcy;clear hcy;clear h0;go_enter func164,ntmps164;go_wp2_with(at_make;refine aI rfl _ _ _ rfl 25 (Ψ 0) 4 underlying192 bz rfl _ _ _ _ (n+m) (n+m) rfl rfl (by simp) (by simp) ω ω ω ?_;intro w1 g hg1 hg2 hrow hbel);go_loopw[28] (fun i wr=> ∃(k:Nat) (zs:List Nat),k<=n/\i= .int .i64 k/\zs.length=n+m/\Lim zs/\Row wr g 25 (aC .u32 zs)/\val (zs.take (k+m))=val (xs.take k)*val ys/\Below w w wr) (fun i _=>n-(intOf i).toNat);case atStart=>exact⟨0,List.replicate (n+m) 0,ω,rfl,by simp,Lim.replicate _ δ,by rw[aG];exact hrow,by simp[val,List.take_replicate,cH],hbel⟩
  case round=>
   obtain⟨k,zs0,hk,rfl,hzl,hzlim,hr,hv,hbl⟩:=hrel;have h1:=hx.wd k;have Hzl:=hid hzl;clear hzl;have Hv:=hid hv;clear hv;by_cases hlt:k<n
   ·have ix:=HX.out wr .i64 k ω ω;rw[Int.toNat_natCast]at ix;have cx:=HCX.out wr hbl k hlt;obtain⟨wo,hwo⟩: ∃wo:World,wo=wr:=⟨_,rfl⟩;subst hwo;go_wp2;go_loopw[8,35] (fun c j wr=> ∃(jj cc:Nat) (zs:List Nat),jj<=m/\j= .int .i64 jj/\c= .int .u64 cc/\cc<4294967296/\zs.length=n+m/\Lim zs/\Row wr g 25 (aC .u32 zs)/\(∀i,k+jj<=i->wd zs i=wd zs0 i)/\val (zs.take (k+jj))+cc*W (k+jj)=val (zs0.take (k+jj))+wd xs k*val (ys.take jj)*W k/\Below w w wr) (fun _ j _=>m-(intOf j).toNat);case atStart=>exact⟨0,0,zs0,ω,rfl,rfl,ω,Hzl.out,hzlim,hr,fun _ _=>rfl,by simp[val],hbl⟩
    case round=>
     obtain⟨j,c,zs,hj,rfl,rfl,hc,hzl2,hzlim2,hr2,hsame,hv2,hbl2⟩:=hrel;have h2:=hy.wd j;have h3:=hzlim2.wd (k+j);have Hzl2:=hid hzl2;clear hzl2;have Hv2:=hid hv2;clear hv2;have Hsame:=hid hsame;clear hsame;by_cases hjt:j<m
     ·have iy:=HY.out wr .i64 j ω ω;rw[Int.toNat_natCast]at iy;have cy:=HCY.out wr hbl2 j hjt;have hcell:=hr2.cell (i:=k+j) (by rw[Hzl2.out];omega);have hfk:=hr2.free (k+j);have hp:=prod_bound (wd xs k) (wd ys j) ω ω ω ω;obtain⟨hp1,hp2⟩:=hp;go_wp2
      have hb3:wd xs k*wd ys j+wd zs (k+j)+c<4294967296*4294967296:=by
       have:=Nat.mul_le_mul (show wd xs k<=4294967295 by omega) (show wd ys j<=4294967295 by omega);omega
      go_roundw
      case rel=>exact⟨j+1,(wd xs k*wd ys j+wd zs (k+j)+c)/4294967296,zs.set (k+j) ((wd xs k*wd ys j+wd zs (k+j)+c)%4294967296),ω,by go_num,by go_num,ω,by rw[List.length_set,Hzl2.out],
       hzlim2.set ω,hr2.store _ _ _ (by rw[Int.natCast_emod,Int.natCast_add,Int.natCast_add,Int.natCast_mul];rfl),fun i hi=>by rw[cm (by rw[Hzl2.out];omega),if_neg ω];exact Hsame.out i ω,
       qQ (by rw[Hzl2.out];omega) (Hsame.out _ ω) Hv2.out,aw hbl2 hg1 _⟩
      case measure=>exact μ
     ·obtain rfl:j=m:=ω
      have hcell:=hr2.cell (i:=k+j) (by rw[Hzl2.out];omega);have hfk:=hr2.free (k+j);go_wp2;go_roundw
      case rel=>exact⟨k+1,zs.set (k+j) c,ω,by go_num,by rw[List.length_set,Hzl2.out],hzlim2.set hc,hr2.store _ _ _ rfl,
       zW Hm.out (by rw[Hzl2.out];omega) (by rw[<-Hn.out];exact hlt) Hv.out Hv2.out,aw hbl2 hg1 _⟩
      case measure=>exact μ
   ·obtain rfl:k=n:=ω
    have hl2:=hr.lay;have hle2:=aQ hzlim
    have hval:Hid (val zs0=val xs*val ys):=by
     have h:=Hv.out;rw[List.take_of_length_le (by rw[Hzl.out];omega),List.take_of_length_le (by rw[Hn.out];omega)]at h;exact h
    go_wp2_with(go_at_call 224;refine(dA _ _ zs0 _ _ (by assumption) (by assumption) (by rw[Hzl.out]) ω ω).mono ?_;rintro e w' ⟨rfl,rfl⟩);go_ret;rw[Hzl.out]at hle2;rw[<-hval.out];exact⟨_,_,rfl,hle2,ω,hl2.norm hzlim,hbl⟩
end Go.Proofs.YtfefijlnbhbplaaGreatDoor

/- Walks and laws that LargeData asks for. -/
import Derived.Test.YtfefijlnbhbplaaGreatDoorGX46
import Derived.Test.YtfefijlnbhbplaaGreatDoorGX27
import Derived.Test.YtfefijlnbhbplaaGreatDoorGX35
set_option linter.unusedVariables false
set_option linter.unusedSimpArgs false
set_option maxRecDepth 1000000
set_option maxHeartbeats 25600000
namespace Go.Proofs.YtfefijlnbhbplaaGreatDoor
open Go Lib Go.RowKit Limb Go.Proofs.Tryz
set_option linter.unusedSectionVars false
variable [Old]
structure RIn (w:World) (x:Int) (a:Option Addr) (n c:Nat):Prop where
 i:In w x a n
 c:CapB Old.top a n c
theorem RIn.api{w:World}{x:Int}{a:Option Addr}{n c:Nat}(h:RIn w x a n c):ApiV w (Ω (decide (x<0)) a n c) x:=⟨a,c,by rw[<-h.i.len],by rw[<-h.i.len];exact h.c,h.i.lay⟩
def FW(m:Nat×Nat×Hp)(h:Hp)(X:World)(b:Bool)(a:Option Addr)(n c:Nat)(s:ByteArray)(t:Bool)(kd:Int):Prop:=
 (kd=0/\m=(0,0,h))∨(kd=1/\∃z,m=iP (mkI h z)/\b=decide (z<0)/\CapB Old.top a n c/\In X z a n)∨(kd=2/\m=iP (mkT h s.data.toList)/\0<s.size/\s.size<=262140)∨(kd=3/\m=(wd h.rt (if t=true then 1 else 2),1,h))
def DRet(m:Nat×Nat×Hp)(h:Hp)(w w':World)(e:Ending):Prop:= ∃b a n c s t kd,e=Rt #[Ω b a n c,.string s,.bool t,I kd]/\Hid (FW m h w' b a n c s t kd)/\Below w w w'
section
variable {m:Nat×Nat×Hp} {h:Hp} {w Z:World} {b:Bool} {a:Option Addr} {n c g:Nat} {z:Int} {ok:Bool}
theorem DRet.int(hm:m=fP h (ofZ z))(hu:ApiV Z (Ω b a n c) z)(hl:n<=1024)(hb:Below w w Z):DRet m h w Z (.returned (.tuple #[Ω b a n c,.string ⟨#[]⟩,.bool false,I 1])):=by
 obtain⟨a',c',e,h2,h3⟩:=hu;simp only[Value.agg.injEq,List.toArray_inj,List.cons.injEq,Array.mk.injEq,Value.bool.injEq,Value.slice.injEq,and_true]at e;obtain⟨rfl,rfl,rfl,rfl⟩:=e;refine⟨_,_,_,_,_,_,_,rfl,hid (.inr (.inl ⟨rfl,z,?_,rfl,h2,⟨rfl,hl,h3⟩⟩)),hb⟩;rw[hm];unfold ofZ;rw[if_pos hl];rfl
theorem DRet.no(hm:m=(0,0,h))(hb:Below w w Z):DRet m h w Z (.returned (.tuple #[Ω b a n c,.string ⟨#[]⟩,.bool false,I 0])):=
 ⟨_,_,_,_,_,_,_,rfl,hid (.inl ⟨rfl,hm⟩),hb⟩
theorem DRet.truth{t:Bool}(hm:m=(wd h.rt (if t=true then 1 else 2),1,h))(hb:Below w w Z):DRet m h w Z (.returned (.tuple #[Ω b a n c,.string ⟨#[]⟩,.bool t,I 3])):=
 ⟨_,_,_,_,_,_,_,rfl,hid (.inr (.inr (.inr ⟨rfl,hm⟩))),hb⟩
theorem DRet.text{s:ByteArray}{l:List UInt8}(hm:m=n9 h (some l))(hs:s.data.toList=l)(hl:0<l.length/\l.length<=262140)(hb:Below w w Z):DRet m h w Z (.returned (.tuple #[Ω b a n c,.string s,.bool false,I 2])):=by
 subst hs;have hsz:s.size=s.data.toList.length:=by rw[Array.length_toList];rfl
 exact⟨_,_,_,_,_,_,_,rfl,hid (.inr (.inr (.inl ⟨rfl,hm,ω,ω⟩))),hb⟩
def RX(m:Nat×Nat×Hp)(h:Hp)(w:World)(g:Nat)(Z:World)(b:Bool)(a:Option Addr)(n c:Nat)(ok:Bool):Prop:=
 Row Z g 24 [.bool b,.slice a n c]/\Below w w Z/\((ok=true/\∃z,m=fP h (ofZ z)/\ApiV Z (Ω b a n c) z)∨(ok=false/\m=(0,0,h)))
theorem RX.put{Y:World}{b0:Bool}{a0:Option Addr}{n0 c0:Nat}(r:Row Y g 24 [.bool b0,.slice a0 n0 c0])(hY:Below w w Y)(hg:w.heap.size<=g)(hz:(ok=true/\∃z,m=fP h (ofZ z)/\ApiV Y (Ω b a n c) z)∨(ok=false/\m=(0,0,h))):RX m h w g ((Y.setCell ⟨g,0,none⟩ (.bool b)).setCell ⟨g,1,none⟩ (.slice a n c)) b a n c ok:=
 ⟨(r.af 0 _).af 1 _,aw (aw hY hg _) hg _,by
  rcases hz with⟨e,z,hm,hu⟩|k
  ·exact .inl ⟨e,z,hm,hu.to (fun _ _ hl=>hl.pair r _ _)⟩
  ·exact .inr k⟩
def DV(w:World)(g2 g:Nat)(q r:Int)(U:World)(b:Bool)(a:Option Addr)(n c:Nat)(b':Bool)(a':Option Addr)(n' c':Nat):Prop:=
 Row U g 24 [.bool b,.slice a n c]/\Row U (g+1) 24 [.bool b',.slice a' n' c']/\Row U g2 24 [.bool false,.slice none 0 0]/\Below w w U/\ApiV U (Ω b a n c) q/\ApiV U (Ω b' a' n' c') r
theorem DV.put{V:World}{g2:Nat}{q r:Int}{b0 b1 b':Bool}{a0 a1 a':Option Addr}{n0 n1 n' c0 c1 c':Nat}(ra:Row V g 24 [.bool b0,.slice a0 n0 c0])(rb:Row V (g+1) 24 [.bool b1,.slice a1 n1 c1])(r2:Row V g2 24 [.bool false,.slice none 0 0])(hU:Below w w V)(hu:ApiV V (Ω b a n c) q)(hv:ApiV V (Ω b' a' n' c') r)(h2:w.heap.size<=g2)(hl:g2<g):DV w g2 g q r ((((V.setCell ⟨g,0,none⟩ (.bool b)).setCell ⟨g,1,none⟩ (.slice a n c)).setCell ⟨g+1,0,none⟩ (.bool b')).setCell ⟨g+1,1,none⟩ (.slice a' n' c')) b a n c b' a' n' c':=by
 have hp0:g≠g+1:=ω
 have hne:g2≠g:=ω
 have hne':g2≠g+1:=ω
 have rb1:=(rb.other (a:=⟨g,0,none⟩) hp0.symm (.bool b)).other (a:=⟨g,1,none⟩) hp0.symm (.slice a n c);exact⟨(((ra.af 0 _).af 1 _).other hp0 _).other hp0 _,(rb1.af 0 _).af 1 _,(((r2.other hne _).other hne _).other hne' _).other hne' _,aw (aw (aw (aw hU ω _) ω _) ω _) ω _,hu.to (fun _ _ hl=>(hl.pair ra _ _).pair rb1 _ _),hv.to (fun _ _ hl=>(hl.pair ra _ _).pair rb1 _ _)⟩
end
def OkRes(r:Option Int)(w w':World)(e:Ending):Prop:= ∃b a n c ok,e=Rt #[Ω b a n c,.bool ok]/\Hid ((ok=true->∃z,r=ofZ z/\ApiV w' (Ω b a n c) z)/\(ok=false->r=none))/\Below w w w'
theorem OkRes.shift{w w':World}{e:Ending}{x n:Int}(h:ve w w' e x n):OkRes (ofZ (cf x n)) w w' e:=by
 obtain⟨b,a,m,c,e1,h1,hb⟩:=h;exact⟨b,a,m,c,true,e1,hid ⟨fun _=>⟨_,rfl,h1⟩,fun e=>by cases e⟩,hb⟩
theorem OkRes.pow{w w':World}{e:Ending}{z:Int}(h:lV w w' e z):OkRes (ofZ z) w w' e:=by
 obtain⟨b,a,n,c,e1,h1,hb⟩:=h;refine⟨b,a,n,c,_,e1,hid ⟨fun e=>⟨z,rfl,h1 (of_decide_eq_true e)⟩,fun e=>jd ?_⟩,hb⟩;have:=of_decide_eq_false e;omega
theorem AY{w:World}{v:Value}{x n:Int}(hv:ApiV w v x)(lx:(rep x.natAbs).length<=1024)(hs:bC n=true)(ho:Old.top<=w.heap.size):Calls prog 131 #[v,I n] w fun e w'=>OkRes (ofZ (cf x n)) w w' e:=by
 have hn:=hs;unfold bC at hn;simp only[Bool.and_eq_true,decide_eq_true_eq]at hn;have hn1: -9223372036854775808<=n:=ω
 have hn2:n<=9223372036854775807:=ω
 exact(zo w v x n hv lx hn1 hn2 ho).mono fun e w' h=>by
  rcases h with h|⟨h0,h1,b,a,m,c,e1,hb⟩
  ·exact .shift h
  ·rw[jd (qN h0 h1)];exact⟨b,a,m,c,false,e1,hid ⟨fun e=>(by cases e),fun _=>rfl⟩,hb⟩
theorem Fp{w:World}{v:Value}{x n:Int}(hv:ApiV w v x)(lx:(rep x.natAbs).length<=1024)(hs:bC n=true)(hn0:0<=n)(ho:Old.top<=w.heap.size):Calls prog 134 #[v,I n] w fun e w'=>OkRes (ofZ (x^n.toNat)) w w' e:=by
 have hn:=hs;unfold bC at hn;simp only[Bool.and_eq_true,decide_eq_true_eq]at hn;obtain⟨k,rfl⟩: ∃k:Nat,n=(k:Int):=⟨n.toNat,ω⟩;rw[Int.toNat_natCast];have hk:k<=9223372036854775807:=ω
 by_cases hx0:x=0
 ·subst hx0;by_cases hk0:k=0
  ·subst hk0;exact(si w v hv ho).mono fun e X' he=>by rw[Int.pow_zero];exact .pow he
  ·exact(nZ w v hv k ω hk).mono fun e w' h=> .pow h
 ·by_cases hx1:x.natAbs=1
  ·exact(rx w v x hv hx1 k hk ho).mono fun e X' he=>by rw[<-Bl hx1];exact .pow he
  ·by_cases hf:32768<k
   ·exact(rK w v x hv ω lx k hf hk).mono fun e w' h=> .pow h
   ·exact(sP w v x hv ω lx k ω ho).mono fun e w' h=> .pow h
theorem C9{w:World}{x y:Int}{a1 a2:Option Addr}{n1 n2 c1 c2:Nat}(h1:RIn w x a1 n1 c1)(h2:RIn w y a2 n2 c2)(ho:Old.top<=w.heap.size)(h:Hp)(number:Int):Calls prog 51 #[I number,Ω (decide (x<0)) a1 n1 c1,Ω (decide (y<0)) a2 n2 c2] w fun e w'=>DRet (opP h number.toNat x y) h w w' e:=by
 have l1:(rep x.natAbs).length<=1024:=by rw[<-h1.i.len];exact h1.i.le
 have l2:(rep y.natAbs).length<=1024:=by rw[<-h2.i.len];exact h2.i.le
 have hI:=fun X (hb:Below w w X)=>yn X (decide (y<0)) a2 (rep y.natAbs) n2 c2 ⟨h2.i.lay.below hb,aB _,h2.i.len,h2.i.b63⟩
 unfold sV at hI;rw[aZ,h2.i.may]at hI;have HF:=hid (fun X z=>show Calls prog 91 #[I z] X fun e w'=>e= .returned (.bool (bC z))/\X=w' from CR X z);have HA1:=hid (fun X (hb:Below w w X)=>h1.api.below hb);have HA2:=hid (fun X (hb:Below w w X)=>h2.api.below hb);have hC:=fun X (hb:Below w w X)=>ux X _ _ x y (h1.api.below hb) (h2.api.below hb) ω ω
 have HO:=hid ho;have HN:=hid (show n2=0↔y=0 from by rw[h2.i.len,List.length_eq_zero_iff,xA,Int.natAbs_eq_zero]);obtain⟨m,hm⟩:=ξ (opP h number.toNat x y);rw[<-hm];have HM:=hid hm;obtain⟨b1,hb1⟩: ∃b,b=decide (x<0):=⟨_,rfl⟩;obtain⟨b2,hb2⟩: ∃b,b=decide (y<0):=⟨_,rfl⟩;rw[<-hb1,<-hb2]at hC ⊢;rw[<-hb2]at hI HA2;rw[<-hb1]at HA1;have HI:=hid hI;have HC:=hid hC;obtain⟨r0,r1,r2,hW,hsz⟩:=fI w 24 (.bool b1) (.slice a1 n1 c1) (.bool b2) (.slice a2 n2 c2) (.bool false) (.slice none 0 0);obtain⟨W,hWe⟩:=ξ (((w.alloc (.cells #[.bool b1,.slice a1 n1 c1] 24)).alloc (.cells #[.bool b2,.slice a2 n2 c2] 24)).alloc (.cells #[.bool false,.slice none 0 0] 24));rw[<-hWe]at r0 r1 r2 hW hsz;obtain⟨g2,hg2⟩: ∃g,g=w.heap.size+1+1:=⟨_,rfl⟩;rw[<-hg2]at r2;have HG2:=hid hg2;have hle:w.heap.size+1<g2:=ω
 have HWe:=hid hWe;obtain⟨k0,k1⟩:=r0.two;obtain⟨j0,j1⟩:=r1.two;obtain⟨cv,hcv⟩:=ξ (fO x y);rw[<-hcv]at HC;have HCv:=hid hcv;have HL1:=hid l1;have HL2:=hid l2;clear hg2 hWe hI hC hb1 hb2 h1 h2 ho hsz l1 l2 hm hcv;go_enter func51,ntmps51;obtain⟨BP,hBP⟩: ∃B,bodyPost prog f51 (fun e w'=>DRet m h w w' e)=B:=⟨_,rfl⟩;rw[hBP];go_upto_region 1 with fail
 rw[<-HWe.out,<-HG2.out];go_wp2_with fail;refine(HI.out W hW).mono ?_;rintro e V ⟨v,ok,rfl,HR,hb⟩;(try dsimp only);have hV:=τ hW hb;have r0:=r0.below hb r0.lt;have r1:=r1.below hb r1.lt;have r2:=r2.below hb r2.lt;clear k0 k1 j0 j1 hb hW HI HWe;obtain⟨k0,k1⟩:=r0.two;obtain⟨j0,j1⟩:=r1.two;have HSm:=hid (show bC y=true->v=y from fun h=>HR.out.2 ((HR.out.1 (by trivial)).trans (y7 h)));go_upto_region 2 with fail
 go_cut [11]from 11 to 25 (fun s11 wx=>s11= .bool (bC y)/\V=wx)
 case first=>
  cases ok with
  |false=>
   have HE:=hid (show false=bC y from by
    have:=HR.out.1 (by trivial)
    cases e:bC y with
    |false=>rfl
    |true=>rw[y7 e]at this;cases this)
   clear HR HSm;go_wp2_with fail;go_meet;exact⟨by rw[<-HE.out],rfl⟩
  |true=>
   obtain rfl:=HR.out.2 rfl;clear HR HSm;go_wp2_with fail;refine(HF.out V v).mono ?_;rintro e V2 ⟨rfl,rfl⟩;(try dsimp only);go_wp2_with fail;go_meet;exact⟨rfl,rfl⟩
 case rest=>
 obtain⟨rfl,rfl⟩:=hcut;go_wp2_with fail;refine(HC.out V hV).mono ?_;rintro e X ⟨rfl,hb⟩;(try dsimp only);have hX:=hV.trans (hb.mono hV.size);have r0:=r0.below hb r0.lt;have r1:=r1.below hb r1.lt;have r2:=r2.below hb r2.lt;clear k0 k1 j0 j1 hb hV HC HR HF;obtain⟨k0,k1⟩:=r0.two;obtain⟨j0,j1⟩:=r1.two;obtain⟨q0,q1,q2,q3⟩:=r2.four;have HBb:=hid (show(rep x.natAbs).length<=1048576/\(rep y.natAbs).length<=1048576/\(rep x.natAbs).length<=1073741824/\(rep y.natAbs).length<=1073741824 from by have:=HL1.out;have:=HL2.out;omega);have HOx:=hid (Nat.le_trans HO.out hX.size)
 have HBi:=hid (fun(k:Nat) (hk:k=1∨k=2∨k=3) (j:Int) (hj:(k:Int)=j)=>show Calls prog 130 #[I j,Ω b1 a1 n1 c1,Ω b2 a2 n2 c2] X fun e w'=> ∃u,e= .returned u/\ApiV w' u (kK k (max (rep x.natAbs).length (rep y.natAbs).length+1) x y)/\Below X.heap.size X w' from by
  rw[<-hj];exact Cw X k hk _ _ x y (HA1.out X hX) (HA2.out X hX) HL1.out HL2.out _ rfl HOx.out)
 go_upto_block 0 with fail
 go_cut [11,13]from 7 to 171 (fun _ s13 wx=> ∃(Z:World) (b:Bool) (a:Option Addr) (n c:Nat) (okv:Bool),Z=wx/\s13= .bool okv/\Hid (RX m h w (g2) Z b a n c okv))
 case first=>
  obtain⟨s0,s1⟩:=r2.selfs;have HFin:=hid hX;have HX:=hid hX;by_cases hn:number<20∨39<number
  ·have HMn:=hid (show m=(0,0,h)from HM.out.trans (Bi ω));have D: ∀k:Int,20<=k->k<=39->(number==k)=false:=fun k _ _=>by rw[beq_eq_false_iff_ne];omega
   clear hX r0 r1 r2 hn;go_wp2_with fail;(try simp only[Exit.inBlock,Exit.then]);rw[<-hBP];exact bodyPost_ret (v:= .tuple #[Ω false none 0 0,.string ⟨#[]⟩,.bool false,I 0]) (by simp[results,results51,go_sem,q0,q1]) rfl (DRet.no HMn.out HFin.out)
  ·have hc:(number=20∨number=21∨number=22∨number=33∨number=34∨number=35∨number=37)∨(number=27∨number=28∨number=29∨number=30∨number=31∨number=32)∨(number=23∨number=24∨number=25∨number=26)∨number=36∨number=38∨number=39:=ω;clear hn;rcases hc with hc|hc|hc|rfl|rfl|rfl
   ·rcases hc with rfl|rfl|rfl|rfl|rfl|rfl|rfl
    all_goals
     have HMk:=hid (HM.out.trans (eQ δ δ));go_wp2_with fail;refine Calls.mono (by first |with_reducible exact sD X _ _ x y (HA1.out X HX.out) (HA2.out X HX.out) HBb.out.2.2.1 HBb.out.2.2.2 HOx.out|with_reducible exact xO X _ _ x y (HA1.out X HX.out) (HA2.out X HX.out) HBb.out.2.2.1 HBb.out.2.2.2 HOx.out|with_reducible exact ri X _ _ x y (HA1.out X HX.out) (HA2.out X HX.out) HBb.out.2.2.1 HBb.out.2.2.2 HOx.out|with_reducible exact Ev X _ _ x y (HA1.out X HX.out) (HA2.out X HX.out) HBb.out.1 HBb.out.2.1 HOx.out|with_reducible exact HBi.out 1 δ 1 rfl|with_reducible exact HBi.out 2 δ 2 rfl|with_reducible exact HBi.out 3 δ 3 rfl) ?_;rintro e Y ⟨u,rfl,hu,hb⟩;(try dsimp only);obtain⟨b,a,n,c,rfl,-⟩:=hu.open;replace r2:=r2.below hb r2.lt;have HRx:=hid (RX.put r2 (τ hX hb) ω (.inl ⟨rfl,_,HMk.out,hu⟩));clear k0 k1 j0 j1 hb hX r0 r1 q0 q1 q2 q3 s0 s1;obtain⟨q0,q1,q2,q3⟩:=r2.four;clear r2;go_wp2_with fail;go_meet;exact⟨_,b,a,n,c,true,rfl,rfl,HRx⟩
   ·have hT:m=(wd h.rt (if opT number.toNat cv=true then 1 else 2),1,h):=(by rw[HCv.out];exact HM.out.trans (oB ω));obtain⟨tt,htt⟩: ∃t,t=opT number.toNat cv:=⟨_,rfl⟩;rw[<-htt]at hT;have HT:=hid hT;clear hT;rcases hc with rfl|rfl|rfl|rfl|rfl|rfl
    all_goals
     simp[opT]at htt;have HTt:=hid htt;clear htt hX r0 r1 r2;go_wp2_with fail;(try simp only[Exit.inBlock,Exit.then]);rw[<-hBP];exact bodyPost_ret (v:= .tuple #[Ω false none 0 0,.string ⟨#[]⟩,.bool tt,I 3]) (by simp[results,results51,go_sem,q0,q1,HTt.out]) rfl (DRet.truth HT.out HFin.out)
   ·obtain⟨fl,hfl⟩: ∃fl:Bool,fl=decide (number<25):=⟨_,rfl⟩;obtain⟨zq,hzq⟩: ∃z,z=fb fl x y:=⟨_,rfl⟩;obtain⟨zr,hzr⟩: ∃z,z=fE fl x y:=⟨_,rfl⟩;have HMk:=hid (show m=fP h (opD fl y (if number%2=1 then zq else zr))from HM.out.trans ((eQ ω ω).trans (by rw[hzq,hzr,hfl];rcases hc with rfl|rfl|rfl|rfl<;>rfl)));rcases hc with rfl|rfl|rfl|rfl
    all_goals
     simp at hfl;subst hfl;have HZq:=hid hzq;have HZr:=hid hzr;clear hzq hzr;by_cases hy:y=0
     ·have HMn:=hid (show m=(0,0,h)from HMk.out.trans (by unfold opD;rw[if_pos hy];rfl));have hn:=HN.out.2 hy;have d:((n2:Int)==0)=true:=by rw[beq_iff_eq];omega
      have d':(n2==0)=true:=(by rw[beq_iff_eq];exact hn);clear hX r0 r1 r2 hy hn;go_wp2_with fail;(try simp only[Exit.inBlock,Exit.then]);rw[<-hBP];exact bodyPost_ret (v:= .tuple #[Ω false none 0 0,.string ⟨#[]⟩,.bool false,I 0]) (by simp[results,results51,go_sem,q0,q1]) rfl (DRet.no HMn.out HFin.out)
     ·have HMz:=hid (HMk.out.trans (by unfold opD;rw[if_neg hy]));have hn:n2≠0:=fun e=>hy (HN.out.1 e)
      have d:((n2:Int)==0)=false:=nE;have d':(n2==0)=false:=by rw[beq_eq_false_iff_ne];exact hn
      have HQ:=hid (fun U (hU:Below w w U)=>xq U _ _ x y (HA1.out U hU) (HA2.out U hU) HBb.out.2.2.1 HBb.out.2.2.2 hy (Nat.le_trans HO.out hU.size));have HY:=hid hy;clear hn hy q0 q1 q2 q3 s0 s1 HFin HMk;go_wp2_with fail;refine(yf X _ _ x y (HA1.out X hX) (HA2.out X hX) HBb.out.1 HBb.out.2.1 HY.out HOx.out).mono ?_;rintro e V1 ⟨b,a,n,c,b',a',n',c',rfl,hu,hv,hb⟩;(try dsimp only);obtain⟨U,hU,ra,rb,hbU,hUs⟩:=fG V1 24 (.bool b) (.slice a n c) (.bool b') (.slice a' n' c');have HU:=hid hU;obtain⟨g,hg⟩:=ξ V1.heap.size;have HG:=hid hg;rw[<-hg]at ra rb;have hXU:=hb.trans (hbU.mono hb.size);have HLt:=hid (show g2<g from by rw[hg];have:=r2.lt;have:=hb.size;omega);have HDv:=hid (show DV w g2 g (x.fdiv y) (x.fmod y) U b a n c b' a' n' c' from⟨ra,rb,r2.below hXU r2.lt,τ hX hXU,hu.below hbU,hv.below hbU⟩);have HK:=hid (fun U' (hU':Below U.heap.size U U')=>show Row U' w 24 [.bool b1,.slice a1 n1 c1]/\Row U' (N1 w) 24 [.bool b2,.slice a2 n2 c2]from⟨(r0.below hXU r0.lt).below hU' (r0.below hXU r0.lt).lt,(r1.below hXU r1.lt).below hU' (r1.below hXU r1.lt).lt⟩);clear k0 k1 j0 j1 hb hX hU hbU hUs hXU hg ra rb r0 r1 r2 hu hv d d' HOx HX;go_upto_if 63 with fail
      rw[<-HU.out,<-HG.out];clear HU HG;go_cut [63]from 56 to 69 (fun _ wx=> ∃(U2:World) (b:Bool) (a:Option Addr) (n c:Nat) (b':Bool) (a':Option Addr) (n' c':Nat),U2=wx/\Hid (DV w g2 g zq zr U2 b a n c b' a' n' c'))
      case first=>
       first
        |(go_wp2_with fail;go_meet;exact⟨_,b,a,n,c,b',a',n',c',rfl,by rw[HZq.out,HZr.out];exact HDv⟩)
        |(obtain⟨ra,rb,r2,hU,hu,hv⟩:=HDv.out
          obtain⟨r0,r1⟩:=HK.out U (Below.refl _ _);obtain⟨k0,k1⟩:=r0.two;obtain⟨j0,j1⟩:=r1.two;have HQ1:=hid (HQ.out U hU);clear ra rb r2 hU hu hv r0 r1;go_wp2_with fail;refine HQ1.out.mono ?_;rintro e V2 ⟨b2',a2',n2',c2',b3,a3,n3,c3,rfl,hu2,hv2,hb⟩;(try dsimp only);obtain⟨ra,rb,r2,hU,hu,hv⟩:=HDv.out;replace ra:=ra.below hb ra.lt;replace rb:=rb.below hb rb.lt;have HDw:=hid (DV.put ra rb (r2.below hb r2.lt) (hU.trans (hb.mono hU.size)) hu2 hv2 ω HLt.out);clear k0 k1 j0 j1 r2 hU hu hv hu2 hv2 hb;obtain⟨t0,t1⟩:=ra.two;obtain⟨t2,t3⟩:=rb.two;have f0:=ra.free 0;have f1:=ra.free 1;have f2:=rb.free 0;have f3:=rb.free 1;have hp0:g≠g+1:=ω
          clear ra rb;go_wp2_with fail;go_meet;exact⟨_,b2',a2',n2',c2',b3,a3,n3,c3,rfl,by rw[HZq.out,HZr.out];exact HDw⟩)
      case rest=>
       clear HDv HQ HK;obtain⟨U2,b,a,n,c,b',a',n',c',rfl,HDv⟩:=hcut;obtain⟨ra,rb,r2,hU,hu,hv⟩:=HDv.out;obtain⟨t0,t1⟩:=ra.two;obtain⟨q0,q1,q2,q3⟩:=r2.four;have hg2:g2≠g+1:=by have:=HLt.out;omega
       obtain⟨Z1,hZ1⟩:=ξ ((U2.setCell ⟨g2,0,none⟩ (.bool b)).setCell ⟨g2,1,none⟩ (.slice a n c))
       have HR1:=hid (show Row Z1 (g2) 24 [.bool b,.slice a n c]/\Row Z1 (g+1) 24 [.bool b',.slice a' n' c']/\Below w w Z1/\ApiV Z1 (Ω b a n c) zq/\ApiV Z1 (Ω b' a' n' c') zr from by
        rw[hZ1];exact⟨(r2.af 0 _).af 1 _,(rb.other hg2.symm _).other hg2.symm _,aw (aw hU ω _) ω _,hu.to (fun _ _ hl=>hl.pair r2 _ _),hv.to (fun _ _ hl=>hl.pair r2 _ _)⟩)
       have HZ1:=hid hZ1;clear hZ1 r2 ra rb hu hv hU hg2 HDv;go_upto_region 23 with fail
       rw[<-HZ1.out];clear t0 t1 q0 q1 q2 q3 HZ1;obtain⟨r2,rb,hY,hu,hv⟩:=HR1.out;obtain⟨t2,t3⟩:=rb.two;obtain⟨q0,q1,q2,q3⟩:=r2.four;clear r2 rb hY hu hv;go_wp2_with fail;go_meet;obtain⟨r2,rb,hY,hu,hv⟩:=HR1.out
       first
        |exact⟨_,b,a,n,c,true,rfl,rfl,hid ⟨r2,hY,.inl ⟨rfl,zq,by simpa using HMz.out,hu⟩⟩⟩
        |exact⟨_,b',a',n',c',true,rfl,rfl,hid (RX.put r2 hY ω (.inl ⟨rfl,zr,by simpa using HMz.out,hv⟩))⟩
   ·have HMk:=hid (HM.out.trans (eQ δ δ))
    cases hsm:bC y with
    |false=>
     have HMn:=hid (show m=(0,0,h)from HMk.out.trans (by show fP h (if bC y=true then _ else none)=_;rw[hsm];rfl));clear hX r0 r1 r2 hsm HSm;go_wp2_with fail;(try simp only[Exit.inBlock,Exit.then]);rw[<-hBP];exact bodyPost_ret (v:= .tuple #[Ω false none 0 0,.string ⟨#[]⟩,.bool false,I 0]) (by simp[results,results51,go_sem,q0,q1]) rfl (DRet.no HMn.out HFin.out)
    |true=>
     obtain rfl:=HSm.out hsm;have HMz:=hid (show m=fP h (ofZ (cf x v))from HMk.out.trans (by show fP h (if bC v=true then _ else none)=_;rw[hsm];rfl));have HOp:=hid (AY (HA1.out X hX) HL1.out hsm HOx.out);clear hsm HSm HMk;go_wp2_with fail;refine HOp.out.mono ?_;rintro e Y ⟨b,a,n,c,ok,rfl,hok,hb⟩;(try dsimp only);replace r2:=r2.below hb r2.lt
     have HRx:=hid (RX.put (m:=m) (h:=h) (ok:=ok) (b:=b) (a:=a) (n:=n) (c:=c) r2 (τ hX hb) ω (by
      cases ok with
      |true=>
       obtain⟨z,e1,e2⟩:=hok.out.1 rfl;exact .inl ⟨rfl,z,HMz.out.trans (by rw[e1]),e2⟩
      |false=>exact .inr ⟨rfl,HMz.out.trans (by rw[hok.out.2 rfl];rfl)⟩))
     clear k0 k1 j0 j1 hb hX r0 r1 q0 q1 q2 q3 s0 s1 hok;obtain⟨q0,q1,q2,q3⟩:=r2.four;clear r2;go_wp2_with fail;go_meet;exact⟨_,b,a,n,c,ok,rfl,rfl,HRx⟩
   ·have HMk:=hid (HM.out.trans EA)
    cases hsm:bC y with
    |false=>
     have HMn:=hid (show m=(0,0,h)from HMk.out.trans (by show n9 h (if 2<=y/\y<=36 then _ else none)=_;rw[if_neg (fun e=>by rw[xS e.1 e.2]at hsm;cases hsm)];rfl));clear hX r0 r1 r2 hsm HSm;go_wp2_with fail;(try simp only[Exit.inBlock,Exit.then]);rw[<-hBP];exact bodyPost_ret (v:= .tuple #[Ω false none 0 0,.string ⟨#[]⟩,.bool false,I 0]) (by simp[results,results51,go_sem,q0,q1]) rfl (DRet.no HMn.out HFin.out)
    |true=>
     obtain rfl:=HSm.out hsm;by_cases h0:2<=v/\v<=36
     ·have d:decide (v<2)=false:=dF;have d3:decide (36<v)=false:=dF;have HMz:=hid (show m=n9 h (some (oO v.toNat x))from HMk.out.trans (by show n9 h (if 2<=v/\v<=36 then _ else none)=_;rw[if_pos h0]));have HTl:=hid (vo (show 2<=v.toNat by omega) ω x HL1.out)
      have HPr:=hid (fun Y (hb:Below w w Y)=>show Calls prog 133 #[Ω b1 a1 n1 c1,I v] Y fun e w'=>(∃s,e= .returned (.string s)/\s.data.toList=oO v.toNat x)/\Below Y.heap.size Y w' from by
       have:=yL Y _ x v.toNat (HA1.out Y hb) HL1.out ω ω;rw[Int.toNat_of_nonneg ω]at this;exact this)
      have hS:Below w w X.drew/\Row X.drew w 24 [.bool b1,.slice a1 n1 c1]/\Row X.drew (g2) 24 [.bool false,.slice none 0 0]:=⟨hX.drew,r0,r2⟩;clear HMk hsm HSm h0 r0 r1 r2 hX k0 k1 j0 j1 q0 q1 q2 q3 s0 s1 HFin;subst hBP;go_upto_region 50 with fail
      have hX:=hS;clear hS;refine wp_region_held (S:=fun Y=>Below w w Y/\Row Y w 24 [.bool b1,.slice a1 n1 c1]/\Row Y (g2) 24 [.bool false,.slice none 0 0]) κ ?_;refine tk 0 (Ω false none 0 0) ?_ (y:=fun X hX=>by have q0:=hX.2.2.ae 0;have q1:=hX.2.2.ae 1;simp only[yB,yC]at q0 q1;go_simp);refine tk 1 (Ω b1 a1 n1 c1) ?_ (y:=fun X hX=>by have q0:=hX.2.1.ae 0;have q1:=hX.2.1.ae 1;simp only[yB,yC]at q0 q1;go_simp);refine tk 2 (I v) ?_;refine wo 3 ?_;unfold wpOp;go_simp;refine .inl ((HPr.out _ hX.1).mono ?_);rintro e X1 ⟨⟨s,rfl,hs⟩,hb⟩;replace hX:=And.intro (hX.1.trans (hb.mono hX.1.size)) (And.intro (hX.2.1.below hb hX.2.1.lt) (hX.2.2.below hb hX.2.2.lt));clear hb HPr;have HSs:=hid hs;clear hs;refine⟨hX,?_⟩;refine wo 4 ?_;obtain⟨q0,q1,q2,q3⟩:=hX.2.2.four;unfold wpOp;go_simp;replace hX:=And.intro (aw (aw hX.1 (g:=g2) (i:=0) ω (.bool false)) (g:=g2) (i:=1) ω (.slice none 0 0)) (And.intro ((hX.2.1.other (a:=⟨g2,0,none⟩) (show w.heap.size≠g2 by omega) (.bool false)).other (a:=⟨g2,1,none⟩) (show w.heap.size≠g2 by omega) (.slice none 0 0)) ((hX.2.2.af 0 (.bool false)).af 1 (.slice none 0 0)));clear q0 q1 q2 q3;refine .inl ⟨hX,?_⟩;refine tk 5 (.string s) ?_;refine tk 6 (.bool false) ?_;refine tk 7 (I 2) ?_;refine wpAnyH_done κ ?_ _;have hr:Row _ (g2) 24 [.bool false,.slice none 0 0]:=hX.2.2;obtain⟨q0,q1⟩:=hr.two;clear hr;have HEnd:=hid hX.1;clear hX;generalize hBP:bodyPost prog f51 (fun e w'=>DRet m h w w' e)=BP;go_wp2_with fail;(try simp only[Exit.inBlock,Exit.then]);(try rw[<-hBP]);exact bodyPost_ret (v:= .tuple #[Ω false none 0 0,.string s,.bool false,I 2]) (by simp[results,results51,go_sem,q0,q1]) rfl (DRet.text HMz.out HSs.out HTl.out HEnd.out)
     ·have HMn:=hid (show m=(0,0,h)from HMk.out.trans (by show n9 h (if 2<=v/\v<=36 then _ else none)=_;rw[if_neg h0];rfl));clear hX r0 r1 r2 hsm HSm;by_cases h1:v<2
      ·have d:decide (v<2)=true:=decide_eq_true h1;clear h0 h1;go_wp2_with fail;(try simp only[Exit.inBlock,Exit.then]);rw[<-hBP];exact bodyPost_ret (v:= .tuple #[Ω false none 0 0,.string ⟨#[]⟩,.bool false,I 0]) (by simp[results,results51,go_sem,q0,q1]) rfl (DRet.no HMn.out HFin.out)
      ·have d:decide (v<2)=false:=decide_eq_false h1;have d3:decide (36<v)=true:=dT;clear h0 h1;go_wp2_with fail;(try simp only[Exit.inBlock,Exit.then]);rw[<-hBP];exact bodyPost_ret (v:= .tuple #[Ω false none 0 0,.string ⟨#[]⟩,.bool false,I 0]) (by simp[results,results51,go_sem,q0,q1]) rfl (DRet.no HMn.out HFin.out)
   ·have HMk:=hid (HM.out.trans (eQ δ δ))
    cases hsm:bC y with
    |false=>
     have HMn:=hid (show m=(0,0,h)from HMk.out.trans (by show fP h (if bC y=true/\0<=y then _ else none)=_;rw[if_neg (fun e=>by rw[hsm]at e;cases e.1)];rfl));clear hX r0 r1 r2 hsm HSm;go_wp2_with fail;(try simp only[Exit.inBlock,Exit.then]);rw[<-hBP];exact bodyPost_ret (v:= .tuple #[Ω false none 0 0,.string ⟨#[]⟩,.bool false,I 0]) (by simp[results,results51,go_sem,q0,q1]) rfl (DRet.no HMn.out HFin.out)
    |true=>
     obtain rfl:=HSm.out hsm;by_cases h0:v<0
     ·have d:decide (v<0)=true:=decide_eq_true h0;have HMn:=hid (show m=(0,0,h)from HMk.out.trans (by show fP h (if bC v=true/\0<=v then _ else none)=_;rw[if_neg (fun e=>absurd e.2 (Int.not_le.2 h0))];rfl));clear hX r0 r1 r2 hsm HSm h0;go_wp2_with fail;(try simp only[Exit.inBlock,Exit.then]);rw[<-hBP];exact bodyPost_ret (v:= .tuple #[Ω false none 0 0,.string ⟨#[]⟩,.bool false,I 0]) (by simp[results,results51,go_sem,q0,q1]) rfl (DRet.no HMn.out HFin.out)
     ·have d:decide (v<0)=false:=decide_eq_false h0;have HMz:=hid (show m=fP h (ofZ (x^v.toNat))from HMk.out.trans (by show fP h (if bC v=true/\0<=v then _ else none)=_;rw[if_pos ⟨hsm,Int.not_lt.1 h0⟩]));have HOp:=hid (Fp (HA1.out X hX) HL1.out hsm (Int.not_lt.1 h0) HOx.out);clear hsm HSm HMk h0;go_wp2_with fail;refine HOp.out.mono ?_;rintro e Y ⟨b,a,n,c,ok,rfl,hok,hb⟩;(try dsimp only);replace r2:=r2.below hb r2.lt
      have HRx:=hid (RX.put (m:=m) (h:=h) (ok:=ok) (b:=b) (a:=a) (n:=n) (c:=c) r2 (τ hX hb) ω (by
       cases ok with
       |true=>
        obtain⟨z,e1,e2⟩:=hok.out.1 rfl;exact .inl ⟨rfl,z,HMz.out.trans (by rw[e1]),e2⟩
       |false=>exact .inr ⟨rfl,HMz.out.trans (by rw[hok.out.2 rfl];rfl)⟩))
      clear k0 k1 j0 j1 hb hX r0 r1 q0 q1 q2 q3 s0 s1 hok;obtain⟨q0,q1,q2,q3⟩:=r2.four;clear r2;go_wp2_with fail;go_meet;exact⟨_,b,a,n,c,ok,rfl,rfl,HRx⟩
 case rest=>
  obtain⟨Z,b,a,n,c,okv,rfl,rfl,HRx⟩:=hcut;obtain⟨rz,hbZ,hres⟩:=HRx.out;obtain⟨q0,q1,q2,q3⟩:=rz.four;go_upto_region 55 with fail
  go_cut [169]from 162 to 169 (fun s wx=>s= .bool (!(okv&&decide (n<=1024)))/\Z=wx)
  case first=>
   cases okv with
   |false=>
    go_wp2_with fail;go_meet;exact⟨rfl,rfl⟩
   |true=>
    have d:decide ((1024:Int)<(n:Int))=!decide (n<=1024):=(by rw[<-decide_not];exact decide_eq_decide.2 ω);have d':decide (1024<n)=!decide (n<=1024):=by rw[<-decide_not];exact decide_eq_decide.2 ω
    go_wp2_with fail;go_meet;exact⟨by first |rfl|simp,rfl⟩
  case rest=>
   obtain⟨rfl,rfl⟩:=hcut
   cases hg:(okv&&decide (n<=1024))with
   |true=>
    rw[Bool.and_eq_true,decide_eq_true_eq]at hg
    obtain⟨z,hm,hz⟩: ∃z,m=fP h (ofZ z)/\ApiV Z (Ω b a n c) z:=by
     rcases hres with⟨-,k⟩|⟨k,-⟩
     ·exact k
     ·rw[k]at hg;cases hg.1
    obtain⟨s0,s1⟩:=rz.selfs;have HFin:=hid (DRet.int (w:=w) hm hz hg.2 hbZ);clear hz hbZ rz hm hres hg HRx;go_wp2_with fail;(try simp only[Exit.inBlock,Exit.then]);rw[<-hBP];exact bodyPost_ret (v:= .tuple #[Ω b a n c,.string ⟨#[]⟩,.bool false,I 1]) (by simp[results,results51,go_sem,q0,q1]) rfl HFin.out
   |false=>
    have HMn:=hid (show m=(0,0,h)from by
     rcases hres with⟨k,z,hm,hz⟩|⟨-,k⟩
     ·obtain⟨-,e2,-,-⟩:=hz.parts;rw[k,Bool.true_and,decide_eq_false_iff_not]at hg;rw[hm,jd ω];rfl
     ·exact k)
    clear q0 q1 q2 q3;obtain⟨k0,k1,k2,k3,q0,q1,HFin⟩:=rz.fin hbZ ω (.bool false) (.slice none 0 0);clear hbZ rz hres HRx hg;go_wp2_with fail;(try simp only[Exit.inBlock,Exit.then]);rw[<-hBP];exact bodyPost_ret (v:= .tuple #[Ω false none 0 0,.string ⟨#[]⟩,.bool false,I 0]) (by simp[results,results51,go_sem,q0,q1]) rfl (DRet.no HMn.out HFin.out)
end Go.Proofs.YtfefijlnbhbplaaGreatDoor

/- LargeData: for every number, every two integers, every oop and every two ints the law answers true, and they read behind the call as they read before. Conditions: the package-level variables effigy/oop.spares, unicode.CaseRanges, unicode/utf8.first and unicode/utf8.acceptRanges hold what the program's text lays in them (the card ties this to the text). -/
import Derived.Test.YtfefijlnbhbplaaGreatDoorGX50
import Derived.Test.YtfefijlnbhbplaaGreatDoorGX45
set_option linter.unusedVariables false
set_option linter.unusedSimpArgs false
set_option maxRecDepth 1000000
set_option maxHeartbeats 6400000
namespace Go.Proofs.YtfefijlnbhbplaaGreatDoor
open Go Go.ChangeShapes Go.WideShapes Go.ChangeAt Go.RowKit Limb
theorem BA:ownKnob Tryz.prog.godebug=none:=κ
theorem fT:laidOutB Tryz.prog=true:=κ
theorem vi(os:Os)(started:os.Started)(H:Type)(enc:TypeId×Value->H):ReturnsInHanded {} Tryz.checked os 3 .any (fun w args=>(Rows.largeDataSpec.pre enc Tryz.prog Tryz.f3 [] false w args/\laidMetH Tryz.prog Rows.largeDataRow.laid w)/\sizedMet enc Tryz.prog Tryz.f3 (OpenSpec.ofChange Rows.largeDataSpec) false w args) (Rows.largeDataSpec.post enc Tryz.prog Tryz.f3 false true false false):=by
 refine returnsInHanded_of_change_and (C:=Tryz.checked) (X:=fun w _=>laidMetH Tryz.prog Rows.largeDataRow.laid w) (fun _ _ _ hh h=>h.of_heap hh) BA started κ Tryz.func3
  (ChangeSpec.witness_shaped (enc:=enc) (C:=Tryz.checked) (os:=os) (X:=fun w _=>laidMetH Tryz.prog Rows.largeDataRow.laid w) false (World.laidAll Tryz.prog os Rows.largeDataRow.laid) #[I 0,Ω false none 0 0,Ω false none 0 0,Ψ 0,I 0,I 0] 8 (World.laidAll_os _ _ _)
   (World.shaped_of_ZipB κ κ) κ κ κ
   (by rw[MakeChecks.laidMetH_plain _ _ _ κ];exact laidMet_laidAll _ κ κ)) ?_
 intro W base args ds gs before hval0 hW _ _ hX _;have hval: ∀(j:Nat) t v,Tryz.f3.params[j]? =some t->args[j]? =some v->Value.okWide Tryz.prog W .any base t v:=hval0;have hW':=hW;have hlt: ∀p∈before,p.block<W.heap.size:=fun p hp=>hW.lt p hp
 obtain⟨p,q,hA0,hV,rfl,_,_⟩:=hW;have hA:DataW.TrodAll enc Tryz.prog W 0 (fun _=>true) true Tryz.f3.params.toList args.toList ds p:=hA0;rw[Tryz.params3]at hA hval;obtain⟨vs,hvs⟩:=ξ args.toList;rw[<-hvs]at hA;obtain⟨v0,vs0,d0,ds0,p0,q0,rfl,rfl,rfl,h0,hA⟩:=trodAll_cons hA;obtain⟨v1,vs1,d1,ds1,p1,q1,rfl,rfl,rfl,h1,hA⟩:=trodAll_cons hA;obtain⟨v2,vs2,d2,ds2,p2,q2,rfl,rfl,rfl,h2,hA⟩:=trodAll_cons hA;obtain⟨v3,vs3,d3,ds3,p3,q3,rfl,rfl,rfl,h3,hA⟩:=trodAll_cons hA;obtain⟨v4,vs4,d4,ds4,p4,q4,rfl,rfl,rfl,h4,hA⟩:=trodAll_cons hA;obtain⟨v5,vs5,d5,ds5,p5,q5,rfl,rfl,rfl,h5,hA⟩:=trodAll_cons hA;obtain⟨rfl,rfl,rfl⟩:=trodAll_nil hA;obtain rfl:args= #[v0,v1,v2,v3,v4,v5]:=by cases args;simp at hvs;subst hvs;rfl
 obtain⟨rfl,rfl⟩:=trodVars_none hV;obtain⟨m,rfl,rfl,rfl,-⟩:=open_int (k:= .i64) Tryz.underlying3 (hval 0 3 _ rfl rfl) h0;obtain⟨b1,a1,n1,c1,l1,rfl,k1,hc1⟩:=tp (hval 1 24 _ rfl rfl) h1;obtain⟨b2,a2,n2,c2,l2,rfl,k2,hc2⟩:=tp (hval 2 24 _ rfl rfl) h2;obtain⟨op,rfl,rfl,rfl,hwo⟩:=open_int (k:= .u32) Tryz.underlying26 (hval 3 26 _ rfl rfl) h3;obtain⟨how,rfl,rfl,rfl,-⟩:=open_int (k:= .i64) Tryz.underlying3 (hval 4 3 _ rfl rfl) h4;obtain⟨de,rfl,rfl,rfl,hwr⟩:=open_int (k:= .i64) Tryz.underlying3 (hval 5 3 _ rfl rfl) h5;have hbo:=bounds_u32 hwo;have hbr:=bounds_i64 hwr;obtain⟨o,rfl⟩: ∃o:Nat,op=(o:Int):=⟨op.toNat,ω⟩;simp only[List.append_nil,List.nil_append]at hW' hlt;refine(CM W (Am hX) m b1 a1 l1 n1 c1 k1 b2 a2 l2 n2 c2 k2 o ω how de hbr.2).mono fun e W' ⟨he,hb⟩=>?_
 subst he;have hall:DataW.TrodAll enc Tryz.prog W' 0 (fun b=>decide (b<W.heap.size)) true [3,24,24,26,3,3] [I m,Ω b1 a1 n1 c1,Ω b2 a2 n2 c2,Ψ o,I how,I de] [_,d1,d2,_,_,_] ([]++(p1++(p2++([]++([]++([]++[])))))):=trodAll_cons_mk (Below.trod fT κ (of_decide_eq_true κ) h0 hb (fun x hx=>by simp at hx)) (trodAll_cons_mk (Below.trod fT κ (of_decide_eq_true κ) h1 hb (fun x hx=>hlt x (by simp[hx]))) (trodAll_cons_mk (Below.trod fT κ (of_decide_eq_true κ) h2 hb (fun x hx=>hlt x (by simp[hx]))) (trodAll_cons_mk (Below.trod fT κ (of_decide_eq_true κ) h3 hb (fun x hx=>by simp at hx)) (trodAll_cons_mk (Below.trod fT κ (of_decide_eq_true κ) h4 hb (fun x hx=>by simp at hx)) (trodAll_cons_mk (Below.trod fT κ (of_decide_eq_true κ) h5 hb (fun x hx=>by simp at hx)) trodAll_mk0)))));simp only[List.append_nil,List.nil_append]at hall;exact⟨_,rfl,_,_,_,[],p1++p2,[],hW',trodAll_mk1 (shut_bool Tryz.underlying4 _),hall,rfl,hb.frame _,fun h=>by cases h⟩
theorem wD:Rows.LargeDataSaid:=
 OpenClaim.holds_of_wide 3 Tryz.f3 rfl rfl rfl rfl rfl rfl rfl ⟨rfl,rfl,rfl,rfl,rfl⟩ rfl rfl rfl rfl rfl κ Tryz.func3 tL
  (of_decide_eq_true (by as_aux_lemma=>kernel_rfl)) (by as_aux_lemma=>unfold Func.isWrapper;first |(rw[if_pos (by decide+kernel)];kernel_rfl)|(rw[if_neg (by decide+kernel)];exact⟨rfl,rfl⟩))
  (fun os started H enc _=>vi os started H enc)
theorem data_card:Rows.LargeDataCardSaid:=
 Claim7.holds_tied_plain_at .later [] [.data,.data,.pinned,.pinned] true _ false wD (fun _ h=>by cases h) (by as_aux_lemma=>kernel_rfl) (fun _ h=>by cases h) largeData_row_tie rfl ⟨rfl,rfl⟩ (by as_aux_lemma=>kernel_rfl) rfl
  (fun f fn hf hfn=>by
   obtain rfl:f=3:=Option.some.inj ((show Tryz.prog.funcNamed "effigy/effigylaw09.LargeData" =some 3 by as_aux_lemma=>kernel_rfl).symm.trans hf) |>.symm
   obtain rfl:fn=Tryz.f3:=(Option.some.inj (Tryz.func3.symm.trans hfn)).symm
   exact⟨by as_aux_lemma=>kernel_rfl,fun j t ht=>by
    rw[Tryz.params3]at ht;have hm:t∈[3,24,24,26,3,3]:=by simpa using Array.mem_of_getElem? ht
    have hall:([3,24,24,26,3,3].all fun u=>!Tryz.prog.wantsStandIn u)=true:=(by as_aux_lemma=>kernel_rfl);exact(show Tryz.prog.wantsStandIn t=false by simpa using List.all_eq_true.1 hall t hm)⟩)
  (by as_aux_lemma=>kernel_rfl)
#print axioms data_card
end Go.Proofs.YtfefijlnbhbplaaGreatDoor

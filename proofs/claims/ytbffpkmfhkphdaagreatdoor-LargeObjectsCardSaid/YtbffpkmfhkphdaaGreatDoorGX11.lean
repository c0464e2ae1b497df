/- The walk of large.narrow. -/
import Derived.Test.YtbffpkmfhkphdaaGreatDoorGX00
import Derived.Test.YtbffpkmfhkphdaaGreatDoorGX10
import Derived.Test.YtbffpkmfhkphdaaGreatDoorGX09
import Derived.Deep.DeepCutAuto
import Derived.Deep.CutBlock
set_option linter.unusedVariables false
set_option linter.unusedSimpArgs false
set_option maxRecDepth 1000000
set_option maxHeartbeats 6400000
namespace Go.Proofs.YtbffpkmfhkphdaaGreatDoor
open Go Lib Go.RowKit Limb
def Api(w:World)(v:Value)(neg:Bool)(l:List Nat):Prop:= ∃a n cap,v= .agg #[.bool neg,.slice a n cap]∧n=l.length∧n≤cap∧Lay .u32 w a l
def ApiRes(w w':World)(e:Ending)(z:Int):Prop:=
 Below w.heap.size w w'∧((1024<(rep z.natAbs).length∧e= .returned (.tuple #[.agg #[.bool false,.slice none 0 0],.int .i64 2]))∨((rep z.natAbs).length≤1024∧∃v,e= .returned (.tuple #[v,.int .i64 0])∧Api w' v (decide (z<0)) (rep z.natAbs)))
theorem IntAt.only_row{w w':World}{p g:Nat}{z:Int}{e:TypeId}{bs:List Nat}(h:IntAt w p z)(hr:Row w g e (nums .u8 bs))(ho:Only [g] w w')(hp:p≠g):IntAt w' p z:=by
 obtain⟨a,cap,h1,h2,h3⟩:=h;exact⟨a,cap,h1.only ho (by simp;exact hp),h2.only ho (h2.notRow hr (by decide)),h3⟩
theorem sgn_neg(z:Int):decide (sgnI z<0)=decide (z<0):=by
 unfold sgnI;split
 ·simp;omega
 ·split<;>simp<;>omega
theorem made32(n:Nat):madeCells #[Value.int .u32 0] n=(List.replicate n (Value.int .u32 0)).toArray:=by
 rw[←toList_madeCells_one]
theorem two_a(w:World)(b:Bool)(n:Nat): ∃pb g2,Value.pointer (some ⟨w.heap.size+1,0,none⟩)= .pointer (some ⟨pb,0,none⟩)∧Row ((w.alloc (.cells (madeCells #[.int .u32 0] n) 60)).alloc (.cells #[.bool b,.slice (some ⟨w.heap.size,0,none⟩) n n] 24)).drew pb 24 [.bool b,.slice (some ⟨g2,0,none⟩) n n]∧Row ((w.alloc (.cells (madeCells #[.int .u32 0] n) 60)).alloc (.cells #[.bool b,.slice (some ⟨w.heap.size,0,none⟩) n n] 24)).drew g2 60 (List.replicate n (.int .u32 0))∧w.heap.size≤pb∧w.heap.size≤g2∧pb≠g2∧Below w.heap.size w ((w.alloc (.cells (madeCells #[.int .u32 0] n) 60)).alloc (.cells #[.bool b,.slice (some ⟨w.heap.size,0,none⟩) n n] 24)).drew:=by
 refine⟨w.heap.size+1,w.heap.size,rfl,?_,?_,by omega,by omega,by omega,(((Below.refl _ _).alloc (Nat.le_refl _) _).alloc (by rw[World.size_alloc];omega) _).drew⟩
 ·apply Row.drew;unfold Row;rw[←World.size_alloc w (.cells (madeCells #[.int .u32 0] n) 60)];exact heap_alloc_new _ _
 ·apply Row.drew;apply Row.alloc;unfold Row;rw[←made32];exact heap_alloc_new _ _
theorem two_b(w:World)(b:Bool)(n:Nat): ∃pb g2,Value.pointer (some ⟨w.heap.size,0,none⟩)= .pointer (some ⟨pb,0,none⟩)∧Row ((w.alloc (.cells #[.bool b,.slice (some ⟨w.heap.size+1,0,none⟩) n n] 24)).alloc (.cells (madeCells #[.int .u32 0] n) 60)).drew pb 24 [.bool b,.slice (some ⟨g2,0,none⟩) n n]∧Row ((w.alloc (.cells #[.bool b,.slice (some ⟨w.heap.size+1,0,none⟩) n n] 24)).alloc (.cells (madeCells #[.int .u32 0] n) 60)).drew g2 60 (List.replicate n (.int .u32 0))∧w.heap.size≤pb∧w.heap.size≤g2∧pb≠g2∧Below w.heap.size w ((w.alloc (.cells #[.bool b,.slice (some ⟨w.heap.size+1,0,none⟩) n n] 24)).alloc (.cells (madeCells #[.int .u32 0] n) 60)).drew:=by
 refine⟨w.heap.size,w.heap.size+1,rfl,?_,?_,by omega,by omega,by omega,(((Below.refl _ _).alloc (Nat.le_refl _) _).alloc (by rw[World.size_alloc];omega) _).drew⟩
 ·apply Row.drew;apply Row.alloc;unfold Row;exact heap_alloc_new _ _
 ·apply Row.drew;unfold Row;rw[←made32];have h:=heap_alloc_new (w.alloc (.cells #[.bool b,.slice (some ⟨w.heap.size+1,0,none⟩) n n] 24)) (.cells (madeCells #[.int .u32 0] n) 60);rw[World.size_alloc]at h;exact h
theorem or8{a b:Nat}(ha:a<256)(hb:b<256):bits .or .u32 (a:Int) ((b:Int)*256)=(a:Int)+(b:Int)*256:=by
 rw[show(b:Int)*256=((b*256:Nat):Int)from by rw[Int.natCast_mul];rfl,u32_or_nat _ _ (by omega) (by omega),Nat.or_comm,nat_join 8 _ _ (by omega) (by omega),Int.natCast_add,Int.add_comm]
theorem or16{a b:Nat}(ha:a<65536)(hb:b<256):bits .or .u32 (a:Int) ((b:Int)*65536)=(a:Int)+(b:Int)*65536:=by
 rw[show(b:Int)*65536=((b*65536:Nat):Int)from by rw[Int.natCast_mul];rfl,u32_or_nat _ _ (by omega) (by omega),Nat.or_comm,nat_join 16 _ _ (by omega) (by omega),Int.natCast_add,Int.add_comm]
theorem or24{a b:Nat}(ha:a<16777216)(hb:b<256):bits .or .u32 (a:Int) ((b:Int)*16777216)=(a:Int)+(b:Int)*16777216:=by
 rw[show(b:Int)*16777216=((b*16777216:Nat):Int)from by rw[Int.natCast_mul];rfl,u32_or_nat _ _ (by omega) (by omega),Nat.or_comm,nat_join 24 _ _ (by omega) (by omega),Int.natCast_add,Int.add_comm]
theorem words_bits(N:Nat):(bitsN N+31)/32=(rep N).length:=by
 by_cases h:N=0
 ·subst h;decide
 ·have h1:=rep_len_lo h;have h2:=rep_len_hi N;obtain⟨k,hk⟩: ∃k,(rep N).length=k+1:=⟨(rep N).length-1,by have:(rep N).length≠0:=fun e=>h (rep_length_zero.1 e);omega⟩;rw[hk]at h1 h2 ⊢;rw[Nat.add_sub_cancel,W_two]at h1;rw[W_two]at h2;have a:=bitsN_le.2 h2;have b: ¬bitsN N≤32*k:=fun hb=>by have:=bitsN_le.1 hb;omega
  omega
theorem large_narrow(w:World)(q:Nat)(z:Int)(hq:IntAt w q z)(hs:(rep z.natAbs).length≤68719476736):Calls Tryz.prog 62 #[.pointer (some ⟨q,0,none⟩)] w fun e w'=>ApiRes w w' e z:=by
 obtain⟨n,hn⟩: ∃n,n=(rep z.natAbs).length:=⟨_,rfl⟩;have hbl:=fun W h=>int_bitlen W q z h hs
 obtain⟨bl,hbe⟩: ∃bl,bl=bitsN z.natAbs:=⟨_,rfl⟩;have hwb:=words_bits z.natAbs;rw[←hbe,←hn]at hwb;rw[←hbe]at hbl;have ew:((bl:Int)+31)/32=n:=by omega
 have b_bl:bl≤4398046511104:=by rw[hn]at hwb;omega
 have HBL:=hid hbl;clear hbl hbe hwb;have hs':n≤68719476736:=by rw[hn];exact hs
 by_cases h1:1024<n
 ·have hres: ∀w',Below w.heap.size w w'→ApiRes w w' (.returned (.tuple #[.agg #[.bool false,.slice none 0 0],.int .i64 2])) z:=fun w' hb=>⟨hb,.inl ⟨by rw[←hn];exact h1,rfl⟩⟩
  have HR:=hid hres;clear hres hn;go_enter Tryz.func62,Tryz.ntmps62;go_wp2_with(go_at_call 81;refine(HBL.out _ ?_).mono ?_;exact hq.below ((Below.refl _ _).alloc (Nat.le_refl _) _);rintro e w' ⟨rfl,rfl⟩);go_returns;exact HR.out _ ((Below.refl _ _).alloc (Nat.le_refl _) _)
 ·by_cases h0:n=0
  ·have hz:z=0:=(by rw[hn,rep_length_zero]at h0;omega);subst hz;have hres: ∀w',Below w.heap.size w w'→ApiRes w w' (.returned (.tuple #[.agg #[.bool false,.slice none 0 0],.int .i64 0])) 0:=fun w' hb=>⟨hb,.inr ⟨by rw[←hn];omega,_,rfl,none,0,0,rfl,rfl,Nat.le_refl _,Lay.nil _ _ _⟩⟩
   have HR:=hid hres;clear hres hn;subst h0;go_enter Tryz.func62,Tryz.ntmps62;go_wp2_with(go_at_call 81;refine(HBL.out _ ?_).mono ?_;exact hq.below ((Below.refl _ _).alloc (Nat.le_refl _) _);rintro e w' ⟨rfl,rfl⟩);go_returns;exact HR.out _ ((Below.refl _ _).alloc (Nat.le_refl _) _)
  ·have hpos:0<n:=(by omega);have hle:n≤1024:=by omega
   have eq0:((n:Int)==0)=false:=(by rw[beq_eq_false_iff_ne];omega);have Hn:=hid hn;clear hn;clear h0 h1;obtain⟨L,hL1,hL2⟩: ∃L,L≤4*n∧4*n≤L:=⟨4*n,by omega,by omega⟩;go_enter Tryz.func62,Tryz.ntmps62;go_wp2_with(first |(go_at_call 81;refine(HBL.out _ ?_).mono ?_;exact hq.below ((Below.refl _ _).alloc (Nat.le_refl _) _);rintro e w' ⟨rfl,rfl⟩)|(at_make;refine wpList_make_row rfl _ _ _ rfl 5 (.int .u8 0) 1 Tryz.underlying72 info8 rfl _ _ _ _ L L rfl rfl (by omega) (by omega) (by omega) (by omega) (by omega) ?_;intro w1 g hg1 hg2 hrow hbel)|(go_at_call 147;fail_if_success skip));have hB1:=below_over hbel;rw[World.size_alloc]at hg1;have hres0:Row w1 w.heap.size 24 [.bool false,.slice none 0 0]:=(show Row (w.alloc (.cells #[.bool false,.slice none 0 0] 24)) w.heap.size 24 [.bool false,.slice none 0 0] by unfold Row;exact heap_alloc_new _ _).below hbel (by rw[World.size_alloc];omega);have hq1:=hq.below hB1;refine(int_fillbytes w1 q g z (List.replicate L 0) L L hq1 (by rw[nums_replicate];exact hrow) (by simp) (by have:=hq.lt;omega) (by omega) hs).mono ?_;rintro e w2 ⟨rfl,ho2,bs,hrb,hbl,hby⟩;have hres2:=hres0.only ho2 (by simp;omega);have hq2:=hq1.only_row (bs:=List.replicate L 0) (by rw[nums_replicate];exact hrow) ho2 (by have:=hq.lt;omega);obtain⟨b0,hb0⟩: ∃b0,b0=decide (z<0):=⟨_,rfl⟩;have hsg:=sgn_neg z;rw[←hb0]at hsg;have Hb0:=hid hb0;clear hb0
   have hmk: ∀W:World,(Instr.makeSlice 22 (.int .i64 n) (.int .i64 n)).run Tryz.prog W= .ok (.slice (some ⟨W.heap.size,0,none⟩) n n) (W.alloc (.cells (madeCells #[.int .u32 0] n) 60)):=by
    intro W;obtain⟨i0,hi,hz0,hsz,hbt⟩:=info_parts info32;have:=run_make (P:=Tryz.prog) W 22 60 i0 (.int .u32 0) Tryz.underlying22 hi hz0 .i64 .i64 n n (by omega) (by omega) (by rw[hbt];omega) (by omega);rw[hsz,Nat.mul_one,Int.toNat_natCast]at this;exact this
   go_wp2_with fail;go_upto_region 7 with fail
   go_cut [6] (fun v w'=> ∃pb g2,v= .pointer (some ⟨pb,0,none⟩)∧Row w' pb 24 [.bool b0,.slice (some ⟨g2,0,none⟩) n n]∧Row w' g2 60 (List.replicate n (.int .u32 0))∧w2.heap.size≤pb∧w2.heap.size≤g2∧pb≠g2∧Below w2.heap.size w2 w')
   case first=>
    go_wp2_with fail;go_region_with (go_at_call 61;refine(int_sign _ q z ?_).mono ?_;(first |exact hq2.drew|exact hq2.drew.below ((Below.refl _ _).alloc (Nat.le_refl _) _)|exact(hq2.drew.below ((Below.refl _ _).alloc (Nat.le_refl _) _)).below ((Below.refl _ _).alloc (Nat.le_refl _) _));rintro e w' ⟨rfl,rfl⟩);all_goals go_wp2
    all_goals go_meet
    all_goals first |exact two_a _ _ _|exact two_b _ _ _
   case rest=>
    obtain⟨pb,g2,rfl,hrp,hrm,hpb,hg2',hpg,hb3⟩:=hcut;have hrb3:=hrb.below hb3 (by have:=ho2.size;have:=hrow.lt;omega);have hsz2:=ho2.size;have hglt:=hrow.lt;have hres3:=hres2.below hb3 hres2.lt;have hreslt:=hres2.lt;have hB3:Below w.heap.size w wc:=(hB1.trans (ho2.belowB hB1.size (fun p hp=>by rw[List.mem_singleton]at hp;omega))).trans (hb3.mono (by have:=hB1.size;omega));have Hbl:=hid hbl;clear hbl;have Hby:=hid hby;clear hby;have cp:=hrp.cell_at 1;simp only[yB,yC]at cp;go_wp2;go_loopw[33] (fun i wr=> ∃(k:Nat) (ms:List Nat),k≤n∧i= .int .i64 k∧ms.length=n∧Row wr g2 60 (nums .u32 ms)∧(∀i,i<k→wd ms i=wd (rep z.natAbs) i)∧Only [g2] wc wr) (fun i _=>n-(intOf i).toNat);case atStart=>exact⟨0,List.replicate n 0,by omega,rfl,by simp,by rw[nums_replicate];exact hrm,fun i hi=>absurd hi (by omega),Only.refl _ _⟩
    case round=>
     obtain⟨k,ms,hk,rfl,hml,hrm',hms,ho⟩:=hrel;have Hml:=hid hml;clear hml;have Hms:=hid hms;clear hms;have hrp':=hrp.only ho (by simp;exact hpg);have cp':=hrp'.cell_at 1;have cp0:=hrp'.cell_at 0;simp only[yB,yC]at cp' cp0;by_cases hlt:k<n
     ·have hrb':=hrb3.only ho (by simp;omega);have i1:=row_index (P:=Tryz.prog) Tryz.underlying72 size8 g L L .i64 ((L:Int)-4*k-1) (L-4*k-1) (by omega) (by omega);have i2:=row_index (P:=Tryz.prog) Tryz.underlying72 size8 g L L .i64 ((L:Int)-4*k-2) (L-4*k-2) (by omega) (by omega);have i3:=row_index (P:=Tryz.prog) Tryz.underlying72 size8 g L L .i64 ((L:Int)-4*k-3) (L-4*k-3) (by omega) (by omega);have i4:=row_index (P:=Tryz.prog) Tryz.underlying72 size8 g L L .i64 ((L:Int)-4*k-4) (L-4*k-4) (by omega) (by omega);have im:=row_index (P:=Tryz.prog) Tryz.underlying22 size32 g2 n n .i64 (k:Int) k rfl hlt;have k1:=hrb'.cell (i:=L-4*k-1) (by rw[Hbl.out];omega);have k2:=hrb'.cell (i:=L-4*k-2) (by rw[Hbl.out];omega);have k3:=hrb'.cell (i:=L-4*k-3) (by rw[Hbl.out];omega);have k4:=hrb'.cell (i:=L-4*k-4) (by rw[Hbl.out];omega);have y1:=Hby.out (4*k) (by omega);have y2:=Hby.out (4*k+1) (by omega);have y3:=Hby.out (4*k+2) (by omega);have y4:=Hby.out (4*k+3) (by omega);rw[show L-1-4*k=L-4*k-1 from by omega]at y1;rw[show L-1-(4*k+1)=L-4*k-2 from by omega]at y2;rw[show L-1-(4*k+2)=L-4*k-3 from by omega]at y3;rw[show L-1-(4*k+3)=L-4*k-4 from by omega]at y4;rw[y1]at k1;rw[y2]at k2;rw[y3]at k3;rw[y4]at k4;clear y1 y2 y3 y4;have l1:=byt_lt (rep z.natAbs) (4*k);have l2:=byt_lt (rep z.natAbs) (4*k+1);have l3:=byt_lt (rep z.natAbs) (4*k+2);have l4:=byt_lt (rep z.natAbs) (4*k+3);have hword:=word_of_bytes (rep_lim z.natAbs) k;generalize byt (rep z.natAbs) (4*k)=x1 at*
      generalize byt (rep z.natAbs) (4*k+1)=x2 at*
      generalize byt (rep z.natAbs) (4*k+2)=x3 at*
      generalize byt (rep z.natAbs) (4*k+3)=x4 at*
      have HW:=hid hword;clear hword;have o1:=or8 l1 l2;have o2:=or16 (a:=x1+x2*256) (by omega) l3;have o3:=or24 (a:=x1+x2*256+x3*65536) (by omega) l4;have e2:((x1+x2*256:Nat):Int)=(x1:Int)+(x2:Int)*256:=by omega
      have e3:((x1+x2*256+x3*65536:Nat):Int)=(x1:Int)+(x2:Int)*256+(x3:Int)*65536:=(by omega);rw[e2]at o2;rw[e3]at o3;clear e2 e3;have hcell:=hrm'.cell (i:=k) (by rw[Hml.out];exact hlt);have hfk:=hrm'.free k;go_wp2;go_region;go_wp2;go_roundw
      case rel=>exact⟨k+1,ms.set k (x1+x2*256+x3*65536+x4*16777216),by omega,by go_num,by rw[List.length_set,Hml.out],(hrm'.store _ _ _ (by omega)).drew,fun i hi=>by
       rw[wd_set (by rw[Hml.out];exact hlt)];by_cases hik:i=k
       ·rw[hik,if_pos rfl,HW.out]
       ·rw[if_neg hik];exact Hms.out i (by omega),(ho.setCell (by simp) _).drew⟩
      case measure=>simp[intOf];omega
     ·obtain rfl:k=n:=by omega
      have hms:ms=rep z.natAbs:=ext_wd (by rw[Hml.out];exact Hn.out) (fun i hi=>Hms.out i (by rw[←Hml.out];exact hi));have hlm:=hrm'.lay;rw[hms]at hlm;clear hms;have hresr:=hres3.only ho (by simp;omega);have rc0:=hresr.cell_at 0;have rc1:=hresr.cell_at 1;simp only[yB,yC]at rc0 rc1;have rf0:=hresr.free 0;have rf1:=hresr.free 1;have hofin:=(ho.setCell (ps:=[g2]) (a:=⟨g2,0,none⟩) (by simp) (.bool b0));have hfin: ∀x y:Value,Below w.heap.size w ((wr.setCell ⟨w.heap.size,0,none⟩ x).setCell ⟨w.heap.size,1,none⟩ y):=fun x y=>below_store (below_store (hB3.trans (ho.belowB hB3.size (fun p hp=>by rw[List.mem_singleton]at hp;omega))) (Nat.le_refl _) _) (Nat.le_refl _) _
      have hlay: ∀x y:Value,Lay .u32 ((wr.setCell ⟨w.heap.size,0,none⟩ x).setCell ⟨w.heap.size,1,none⟩ y) (some ⟨g2,0,none⟩) (rep z.natAbs):=fun x y=>(hlm.other (fun b off e=>by simp only[Option.some.injEq,Addr.mk.injEq]at e;omega) _ _).other (fun b off e=>by simp only[Option.some.injEq,Addr.mk.injEq]at e;omega) _ _
      have HF:=hid hfin;clear hfin;have HL:=hid hlay;clear hlay;clear hofin;have e0:(wr.setCell ⟨w.heap.size,0,none⟩ (.bool b0)).cell? ⟨w.heap.size,0,none⟩=some (.bool b0):=(hresr.store_any 0 _).cell_at 0;have e1:((wr.setCell ⟨w.heap.size,0,none⟩ (.bool b0)).setCell ⟨w.heap.size,1,none⟩ (.slice (some ⟨g2,0,none⟩) k k)).cell? ⟨w.heap.size,1,none⟩=some (.slice (some ⟨g2,0,none⟩) k k):=((hresr.store_any 0 _).store_any 1 _).cell_at 1;go_wp2;(try simp only[Exit.inBlock,Exit.then]);refine bodyPost_ret (v:= .tuple #[.agg #[.bool b0,.slice (some ⟨g2,0,none⟩) k k],.int .i64 0]) (by simp[results,Tryz.results62,go_sem,e0,e1]) rfl ?_;refine⟨HF.out _ _,.inr ⟨by rw[←Hn.out];exact hle,_,rfl,some ⟨g2,0,none⟩,k,k,?_,Hn.out,Nat.le_refl _,HL.out _ _⟩⟩;rw[Hb0.out]
end Go.Proofs.YtbffpkmfhkphdaaGreatDoor

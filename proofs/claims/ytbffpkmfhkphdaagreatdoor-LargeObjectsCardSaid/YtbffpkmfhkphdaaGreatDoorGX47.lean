/- The walk of package large's Read. An integer's object, made and read: over plain heaps. The walk of the document's Boot. -/
import Derived.Test.YtbffpkmfhkphdaaGreatDoorGX00
import Derived.Test.YtbffpkmfhkphdaaGreatDoorGX46
import Derived.Test.YtbffpkmfhkphdaaGreatDoorGX45
set_option linter.unusedVariables false
set_option linter.unusedSimpArgs false
set_option maxRecDepth 1000000
set_option maxHeartbeats 6400000
namespace Go.Proofs.YtbffpkmfhkphdaaGreatDoor
open Go Lib Go.RowKit Limb
theorem valueO_small(o:Nat)(ho:o<4294967296): -9223372036854775808≤valueO o∧valueO o≤9223372036854775807:=by
 have h3:valueO o=(if o<2147483648 then(o:Int)-1 else(o:Int)-4294967296-1)/2:=rfl;split at h3<;>omega
section
variable {w:World} {F:Foot} {h:Hp}
theorem large_read_odd(p:Nat)(o:Nat)(ho:o<4294967296)(e1:o%2=1):Calls Tryz.prog 49 #[.pointer (some ⟨p,0,none⟩),.int .u32 o] w fun e w'=>ReadRes h o w w' e:=by
 obtain⟨W,hW,r0,hB,hz⟩:=alloc_row w 24 [.bool false,.slice none 0 0];have HW:=hid hW;obtain⟨v1,v2⟩:=valueO_small o ho;have HV:=hid (oop_value W o ho e1);have HO:=hid (large_of W (valueO o) v1 v2);have HR:=hid (rd_odd (h:=h) e1);generalize valueO o=z at*
 clear hW hz e1 v1 v2 ho;go_enter Tryz.func49,Tryz.ntmps49;go_wp2_with fail;rw[←HW.out];refine(HV.out).mono ?_;rintro e V ⟨rfl,rfl⟩;(try dsimp only);go_wp2_with fail;refine(HO.out).mono ?_;rintro e V ⟨u,rfl,⟨a,c,rfl,hc,hl⟩,hb⟩;(try dsimp only);replace r0:=r0.below hb r0.lt;replace hB:=hB.trans (hb.mono hB.size);obtain⟨b,hb0⟩: ∃b,b=decide (z<0):=⟨_,rfl⟩;rw[←hb0];have hR:=HR.out;rw[←hb0]at hR;obtain⟨n,hn⟩: ∃n,n=(rep z.natAbs).length:=⟨_,rfl⟩;rw[←hn];generalize rep z.natAbs=l at*
 clear hb hb0 hc HV HO HW HR;have z0:=r0.free 0;have z1:=r0.free 1;have p0:=r0.cell_at 0;have p1:=r0.cell_at 1;simp only[yB,yC]at p0 p1;obtain⟨U,hU⟩: ∃U,U=(V.setCell ⟨w.heap.size,0,none⟩ (.bool b)).setCell ⟨w.heap.size,1,none⟩ (.slice a n c):=⟨_,rfl⟩;have ra:Row U w.heap.size 24 [.bool b,.slice a n c]:=by rw[hU];exact(r0.store_any 0 _).store_any 1 _
 have hBU:Below w.heap.size w U:=by rw[hU];exact below_store (below_store hB (Nat.le_refl _) _) (Nat.le_refl _) _
 have hlU:Lay .u32 U a l:=by rw[hU];exact(hl).pair r0 _ _
 have f0:=ra.cell_at 0;have f1:=ra.cell_at 1;simp only[yB,yC]at f0 f1;have HFin:=hid (readRes_of hR a n c hn hlU hBU);have HU:=hid hU;clear hU ra hBU hlU hB r0 hl hR hn;go_wp2_with fail;(try simp only[Exit.inBlock,Exit.then]);rw[←HU.out];refine bodyPost_ret (v:= .tuple #[.agg #[.bool b,.slice a n c],.int .i64 0]) (by simp[results,Tryz.results49,go_sem,f0,f1]) rfl HFin.out
theorem large_read_none(H:HeapAt w F h)(o:Nat)(ho:o<4294967296)(e1: ¬o%2=1)(hi:isO h o=false):Calls Tryz.prog 49 #[.pointer (some ⟨F.p,0,none⟩),.int .u32 o] w fun e w'=>ReadRes h o w w' e:=by
 obtain⟨W,hW,r0,hB,hz⟩:=alloc_row w 24 [.bool false,.slice none 0 0];have HW:=hid hW;have HV:=hid (oop_value_no W o ho e1);have hH:=heap_Header (H.below hB) o ho;have x1:hdX h o=hdZ:=by unfold hdX;rw[hi];rfl
 have x2:erX h o=3:=by unfold erX;rw[hi];rfl
 rw[x1,x2]at hH;have HH:=hid (show Calls Tryz.prog 129 #[.pointer (some ⟨F.p,0,none⟩),.int .u32 o] W fun e w'=>e= .returned (.tuple #[.agg #[.int .i64 0,.int .i64 0,.int .i64 0,.int .u32 0,.int .u32 0],.int .i64 3])∧Below W.heap.size W w' from hH);have hR:=rd_none (h:=h) e1 hi;clear hW hz e1 hi H hH x1 x2 ho;go_enter Tryz.func49,Tryz.ntmps49;go_wp2_with fail;rw[←HW.out];refine(HV.out).mono ?_;rintro e V ⟨rfl,rfl⟩;(try dsimp only);go_wp2_with fail;refine(HH.out).mono ?_;rintro e V ⟨rfl,hb⟩;(try dsimp only);replace r0:=r0.below hb r0.lt;replace hB:=hB.trans (hb.mono hB.size);clear hb HV HH HW;obtain⟨V1,hV1,r8,hb8,hz8⟩:=alloc_row V 159 [.int .i64 0,.int .i64 0,.int .i64 0,.int .u32 0,.int .u32 0];replace hB:=hB.trans (hb8.mono hB.size);replace r0:=r0.below hb8 r0.lt;subst hV1;clear hb8 hz8;clear r8;have hl:=Lay.nil .u32 (V.alloc (.cells #[.int .i64 0,.int .i64 0,.int .i64 0,.int .u32 0,.int .u32 0] 159)) none;have z0:=r0.free 0;have z1:=r0.free 1;have p0:=r0.cell_at 0;have p1:=r0.cell_at 1;simp only[yB,yC]at p0 p1;obtain⟨U,hU⟩: ∃U,U=((V.alloc (.cells #[.int .i64 0,.int .i64 0,.int .i64 0,.int .u32 0,.int .u32 0] 159)).setCell ⟨w.heap.size,0,none⟩ (.bool false)).setCell ⟨w.heap.size,1,none⟩ (.slice none 0 0):=⟨_,rfl⟩;have ra:Row U w.heap.size 24 [.bool false,.slice none 0 0]:=by rw[hU];exact(r0.store_any 0 _).store_any 1 _
 have hBU:Below w.heap.size w U:=by rw[hU];exact below_store (below_store hB (Nat.le_refl _) _) (Nat.le_refl _) _
 have hlU:Lay .u32 U none []:=by rw[hU];exact(hl).pair r0 _ _
 have f0:=ra.cell_at 0;have f1:=ra.cell_at 1;simp only[yB,yC]at f0 f1;have HFin:=hid (readRes_of hR none 0 0 rfl hlU hBU);have HU:=hid hU;clear hU ra hBU hlU hB r0 hl hR;go_wp2_with fail;(try simp only[Exit.inBlock,Exit.then]);rw[←HU.out];refine bodyPost_ret (v:= .tuple #[.agg #[.bool false,.slice none 0 0],.int .i64 3]) (by simp[results,Tryz.results49,go_sem,f0,f1]) rfl HFin.out
theorem large_read_bad(H:HeapAt w F h)(o:Nat)(ho:o<4294967296)(e1: ¬o%2=1)(hi:isO h o=true)(h17:isO h (wd h.rt 17)=true)(hk:rdOk h o=false):Calls Tryz.prog 49 #[.pointer (some ⟨F.p,0,none⟩),.int .u32 o] w fun e w'=>ReadRes h o w w' e:=by
 obtain⟨W,hW,r0,hB,hz⟩:=alloc_row w 24 [.bool false,.slice none 0 0];have HW:=hid hW;have HV:=hid (oop_value_no W o ho e1);have hH:=heap_Header (H.below hB) o ho;have x1:hdX h o=hdO h o:=by unfold hdX;rw[hi];rfl
 have x2:erX h o=0:=by unfold erX;rw[hi];rfl
 rw[x1,x2]at hH;have HH:=hid (show Calls Tryz.prog 129 #[.pointer (some ⟨F.p,0,none⟩),.int .u32 o] W fun e w'=>e= .returned (.tuple #[.agg #[.int .i64 (hdO h o).size,.int .i64 (hdO h o).fmt,.int .i64 (hdO h o).spare,.int .u32 (hdO h o).cls,.int .u32 (hdO h o).ser],.int .i64 0])∧Below W.heap.size W w' from hH);have HRt:=hid (fun X (hb:Below W.heap.size W X)=>show Calls Tryz.prog 130 #[.pointer (some ⟨F.p,0,none⟩),.int .i64 17] X fun e w'=>e= .returned (.tuple #[.int .u32 (wd h.rt 17:Nat),.int .i64 0])∧X=w' from heap_root ((H.below hB).below hb) 17 (by decide))
 have HIs:=hid (fun X (hb:Below W.heap.size W X)=>show Calls Tryz.prog 131 #[.pointer (some ⟨F.p,0,none⟩),.int .u32 (wd h.rt 17:Nat)] X fun e w'=>e= .returned (.bool true)∧X=w' from by
  have:=heap_is ((H.below hB).below hb) (wd h.rt 17) (isO_lt H.good h17);rw[h17]at this;exact this)
 have hR:=rd_bad (h:=h) e1 hi (by unfold rdFine;rw[hk];rfl)
 have hq:(hdO h o).fmt≠3∨((hdO h o).fmt=3∧(hdO h o).cls≠wd h.rt 17)∨((hdO h o).fmt=3∧(hdO h o).cls=wd h.rt 17∧(hdO h o).size=0):=by
  unfold rdOk at hk;rw[hi,Bool.true_and]at hk;by_cases q1:(hdO h o).fmt=3
  ·by_cases q2:(hdO h o).cls=wd h.rt 17
   ·rw[decide_eq_true q1,decide_eq_true q2]at hk;have: ¬1≤(hdO h o).size:=of_decide_eq_false hk;exact .inr (.inr ⟨q1,q2,by omega⟩)
   ·exact .inr (.inl ⟨q1,q2⟩)
  ·exact .inl q1
 generalize wd h.rt 17=r17 at*
 generalize hdO h o=x at*
 clear hW hz e1 hi H hH x1 x2 ho h17 hk;go_enter Tryz.func49,Tryz.ntmps49;go_wp2_with fail;rw[←HW.out];refine(HV.out).mono ?_;rintro e V ⟨rfl,rfl⟩;(try dsimp only);go_wp2_with fail;refine(HH.out).mono ?_;rintro e V ⟨rfl,hbW⟩;(try dsimp only);replace r0:=r0.below hbW r0.lt;replace hB:=hB.trans (hbW.mono hB.size);obtain⟨V1,hV1,r8,hb8,hz8⟩:=alloc_row V 159 [.int .i64 x.size,.int .i64 x.fmt,.int .i64 x.spare,.int .u32 x.cls,.int .u32 x.ser];replace hB:=hB.trans (hb8.mono hB.size);replace r0:=r0.below hb8 r0.lt;replace hbW:=hbW.trans (hb8.mono hbW.size);have HV1:=hid hV1;obtain⟨bV,hbV⟩: ∃bV,bV=V.heap.size:=⟨_,rfl⟩;rw[←hbV]at r8;have HBV:=hid hbV;clear hV1 hbV hb8 hz8 HV HH HW;obtain⟨c0,c1,c2,c3,c4⟩:=r8.cells5;have HRt1:=hid (HRt.out V1 hbW);have HIs1:=hid (HIs.out V1 hbW);go_wp2_with fail;rw[←HV1.out,←HBV.out];refine(HRt1.out).mono ?_;rintro e V2 ⟨rfl,rfl⟩;(try dsimp only);rcases hq with q|⟨q1,q2⟩|⟨q1,q2,q3⟩
 ·have e1:((x.fmt:Int) != 3)=true:=(by rw[bne_iff_ne];omega);have e1':(x.fmt != 3)=true:=by rw[bne_iff_ne];exact q
  clear q HIs1;clear HRt HIs HRt1;have hl:=Lay.nil .u32 V1 none;have z0:=r0.free 0;have z1:=r0.free 1;have p0:=r0.cell_at 0;have p1:=r0.cell_at 1;simp only[yB,yC]at p0 p1;obtain⟨U,hU⟩: ∃U,U=(V1.setCell ⟨w.heap.size,0,none⟩ (.bool false)).setCell ⟨w.heap.size,1,none⟩ (.slice none 0 0):=⟨_,rfl⟩;have ra:Row U w.heap.size 24 [.bool false,.slice none 0 0]:=by rw[hU];exact(r0.store_any 0 _).store_any 1 _
  have hBU:Below w.heap.size w U:=(by rw[hU];exact below_store (below_store hB (Nat.le_refl _) _) (Nat.le_refl _) _);have hlU:Lay .u32 U none []:=by rw[hU];exact(hl).pair r0 _ _
  have f0:=ra.cell_at 0;have f1:=ra.cell_at 1;simp only[yB,yC]at f0 f1;have HFin:=hid (readRes_of hR none 0 0 rfl hlU hBU);have HU:=hid hU;clear hU ra hBU hlU hB r0 hl hR;go_wp2_with fail;(try simp only[Exit.inBlock,Exit.then]);rw[←HU.out];refine bodyPost_ret (v:= .tuple #[.agg #[.bool false,.slice none 0 0],.int .i64 21]) (by simp[results,Tryz.results49,go_sem,f0,f1]) rfl HFin.out
 ·rw[q1]at c1;have e2:((x.cls:Int) != (r17:Int))=true:=by rw[bne_iff_ne];omega
  have e2':(x.cls != r17)=true:=(by rw[bne_iff_ne];exact q2);clear q1 q2 HIs1;clear HRt HIs HRt1;have hl:=Lay.nil .u32 V1 none;have z0:=r0.free 0;have z1:=r0.free 1;have p0:=r0.cell_at 0;have p1:=r0.cell_at 1;simp only[yB,yC]at p0 p1;obtain⟨U,hU⟩: ∃U,U=(V1.setCell ⟨w.heap.size,0,none⟩ (.bool false)).setCell ⟨w.heap.size,1,none⟩ (.slice none 0 0):=⟨_,rfl⟩;have ra:Row U w.heap.size 24 [.bool false,.slice none 0 0]:=by rw[hU];exact(r0.store_any 0 _).store_any 1 _
  have hBU:Below w.heap.size w U:=(by rw[hU];exact below_store (below_store hB (Nat.le_refl _) _) (Nat.le_refl _) _);have hlU:Lay .u32 U none []:=by rw[hU];exact(hl).pair r0 _ _
  have f0:=ra.cell_at 0;have f1:=ra.cell_at 1;simp only[yB,yC]at f0 f1;have HFin:=hid (readRes_of hR none 0 0 rfl hlU hBU);have HU:=hid hU;clear hU ra hBU hlU hB r0 hl hR;go_wp2_with fail;(try simp only[Exit.inBlock,Exit.then]);rw[←HU.out];refine bodyPost_ret (v:= .tuple #[.agg #[.bool false,.slice none 0 0],.int .i64 21]) (by simp[results,Tryz.results49,go_sem,f0,f1]) rfl HFin.out
 ·rw[q1]at c1;rw[q2]at c3;rw[q3]at c0;clear q1 q2 q3;clear HRt HIs HRt1;go_wp2_with fail;refine(HIs1.out).mono ?_;rintro e V2 ⟨rfl,rfl⟩;(try dsimp only);have hl:=Lay.nil .u32 V1 none;have z0:=r0.free 0;have z1:=r0.free 1;have p0:=r0.cell_at 0;have p1:=r0.cell_at 1;simp only[yB,yC]at p0 p1;obtain⟨U,hU⟩: ∃U,U=(V1.setCell ⟨w.heap.size,0,none⟩ (.bool false)).setCell ⟨w.heap.size,1,none⟩ (.slice none 0 0):=⟨_,rfl⟩;have ra:Row U w.heap.size 24 [.bool false,.slice none 0 0]:=by rw[hU];exact(r0.store_any 0 _).store_any 1 _
  have hBU:Below w.heap.size w U:=(by rw[hU];exact below_store (below_store hB (Nat.le_refl _) _) (Nat.le_refl _) _);have hlU:Lay .u32 U none []:=by rw[hU];exact(hl).pair r0 _ _
  have f0:=ra.cell_at 0;have f1:=ra.cell_at 1;simp only[yB,yC]at f0 f1;have HFin:=hid (readRes_of hR none 0 0 rfl hlU hBU);have HU:=hid hU;clear hU ra hBU hlU hB r0 hl hR;go_wp2_with fail;(try simp only[Exit.inBlock,Exit.then]);rw[←HU.out];refine bodyPost_ret (v:= .tuple #[.agg #[.bool false,.slice none 0 0],.int .i64 21]) (by simp[results,Tryz.results49,go_sem,f0,f1]) rfl HFin.out
end
end Go.Proofs.YtbffpkmfhkphdaaGreatDoor
namespace Go.Proofs.YtbffpkmfhkphdaaGreatDoor
open Go Go.RowKit Limb
namespace Limb
theorem take_drop_set(l:List Nat)(s i n v:Nat):((l.set (s+i) v).drop s).take n=((l.drop s).take n).set i v:=by
 rw[List.drop_set,if_neg (by omega),Nat.add_sub_cancel_left,List.take_set]
theorem flds_put{h:Hp}(k:Good h){o i v:Nat}(hf:isF h o 3 (i+1)=true):flds (putF h o i v) o=(flds h o).set i v∧hdO (putF h o i v) o=hdO h o:=by
 obtain⟨h1,h3,h4⟩:=isF_iff.1 hf;have hh:hdO (putF h o i v) o=hdO h o:=putW_hd k (isO_iff.1 h1).2.2 (show i<(hd h (o/2)).size from h4) (isO_iff.1 h1).2.2;refine⟨?_,hh⟩;unfold flds;rw[hh];show((h.ws.set (o/2+3+i) v).drop (o/2+3)).take _=_
 rw[take_drop_set]
theorem set_take_succ{l:List Nat}{i v:Nat}(h:i<l.length):(l.set i v).take (i+1)=l.take i++[v]:=by
 rw[List.take_set,List.take_succ_eq_append_getElem h,List.set_append_right _ _ (by rw[List.length_take];omega)];rw[List.length_take,Nat.min_eq_left (by omega),Nat.sub_self];rfl
theorem flds_putAll(o:Nat): ∀(l:List Nat) (i:Nat) (h:Hp),Good h→isF h o 3 (i+l.length)=true→Lim l→flds (putAll o i l h) o=(flds h o).take i++l++(flds h o).drop (i+l.length)∧Grow h (putAll o i l h)∧hdO (putAll o i l h) o=hdO h o∧(putAll o i l h).ws.length=h.ws.length∧(putAll o i l h).last=h.last
 |[],i,h,k,_,_=>⟨by show flds h o=_;simp,Grow.refl k,rfl,rfl,rfl⟩
 |v :: t,i,h,k,hf,hl=>by
  have hf:isF h o 3 (i+(t.length+1))=true:=hf;have hv:v<4294967296:=hl.head;have hf1:=isF_le hf (show i+1≤i+(t.length+1) by omega);obtain⟨e1,e2⟩:=flds_put (v:=v) k hf1;have g:=grow_put3 k hf1 hv;obtain⟨a1,a2,a3,a4,a5⟩:=flds_putAll o t (i+1) (putF h o i v) g.good (g.isF _ _ _ (isF_le hf (by omega))) hl.tail;have hlen:i<(flds h o).length:=by rw[flds_length k (isF_isO hf)];have:=(isF_iff.1 hf).2.2;omega
  refine⟨?_,g.trans a2,a3.trans e2,a4.trans (by show(h.ws.set _ _).length=_;rw[List.length_set]),a5⟩;show flds (putAll o (i+1) t (putF h o i v)) o=_
  rw[a1,e1,set_take_succ hlen,List.drop_set,if_pos (by omega)];rw[show i+1+t.length=i+(v :: t).length by simp;omega];simp
theorem new_flds{h:Hp}{c f n v:Nat}(hok:(⟨n,f,0,c,h.last+1⟩:Hd).Ok):hdO (addO h f 0 c (List.replicate n v)) (newO h)=⟨n,f,0,c,h.last+1⟩∧flds (addO h f 0 c (List.replicate n v)) (newO h)=List.replicate n v:=by
 have e:newO h/2=h.ws.length:=by unfold newO;omega
 have hl:(List.replicate n v).length=n:=List.length_replicate
 have hh:hdO (addO h f 0 c (List.replicate n v)) (newO h)=⟨n,f,0,c,h.last+1⟩:=by
  have:=addO_hd_new (h:=h) (f:=f) (spare:=0) (c:=c) (fs:=List.replicate n v) (by rw[hl];exact hok);unfold hdO;rw[e,this,hl]
 refine⟨hh,?_⟩;unfold flds;rw[hh,e];have e2:(addO h f 0 c (List.replicate n v)).ws=(h.ws++[Hd.w0 ⟨(List.replicate n v).length,f,0,c,h.last+1⟩,c,h.last+1])++List.replicate n v:=by unfold addO;simp
 rw[e2,List.drop_append_of_le_length (by simp),List.drop_of_length_le (by simp)];simp
theorem made_read{h h1:Hp}{o:Nat}{b:Bool}{l:List Nat}(k:Good h)(hp:allocP h (wd h.rt 17) 3 (1+l.length)=some (o,h1))(hlim:Lim l)(hm:mayB b l=true)(hs:isSm (signed b (val l))=false)(hl:l.length≤1024):rdC (mkH h1 o b l) o=0∧rdN (mkH h1 o b l) o=b∧rdL (mkH h1 o b l) o=l:=by
 obtain⟨hc,hr,ho,hh⟩:=allocP_some hp;obtain⟨g1,i1⟩:=grow_alloc k (by decide) (by decide) (show 1+l.length≤65535 by omega) hp;have hok:(⟨1+l.length,3,0,wd h.rt 17,h.last+1⟩:Hd).Ok:=⟨by show 1+l.length≤65535;omega,by show 1≤3;decide,by show 3≤4;decide,by show 0≤3;decide,.inl rfl⟩;obtain⟨n1,n2⟩:=new_flds (h:=h) (v:=0) hok;have hh:h1=addO h 3 0 (wd h.rt 17) (List.replicate (1+l.length) 0):=hh;rw[←hh,←ho]at n1 n2
 -- the sign
 obtain⟨h2,hh2,gg,ff,dd⟩: ∃h2,h2=(if b=true then putF h1 o 0 1 else h1)∧Grow h1 h2∧flds h2 o=(if b=true then 1 else 0) :: List.replicate l.length 0∧hdO h2 o=hdO h1 o:=by
  have e0:List.replicate (1+l.length) 0=0 :: List.replicate l.length 0:=(by rw[Nat.add_comm];rfl);cases b with
  |false=>exact⟨h1,rfl,Grow.refl g1.good,by rw[n2,e0];rfl,rfl⟩
  |true=>
   have hf:=isF_le i1 (show 0+1≤1+l.length by omega);obtain⟨p1,p2⟩:=flds_put (v:=1) g1.good hf;exact⟨putF h1 o 0 1,rfl,grow_put3 g1.good hf (by decide),by rw[p1,n2,e0];rfl,p2⟩
 obtain⟨a1,a2,a3,-,-⟩:=flds_putAll o l 1 h2 gg.good (gg.isF _ _ _ i1) hlim;have hM:mkH h1 o b l=putAll o 1 l h2:=by unfold mkH;rw[←hh2]
 rw[hM]
 have hfl:flds (putAll o 1 l h2) o=(if b=true then 1 else 0) :: l:=by
  rw[a1,ff]
  have:((if b=true then 1 else 0) :: List.replicate l.length 0).drop (1+l.length)=([]:List Nat):=by
   rw[List.drop_of_length_le];simp;omega
  rw[this];simp
 have hod: ¬o%2=1:=by rw[ho];unfold newO;omega
 have hi:=isF_isO (a2.isF _ _ _ (gg.isF _ _ _ i1));have hrt:(putAll o 1 l h2).rt=h.rt:=a2.rt.trans (gg.rt.trans g1.rt);have hsg:rdSg (putAll o 1 l h2) o=b:=by unfold rdSg;rw[hfl];cases b<;>rfl
 have hall:rdAll (putAll o 1 l h2) o=l:=by unfold rdAll;rw[hfl];rfl
 have hfine:rdFine (putAll o 1 l h2) o=true:=by
  unfold rdFine rdOk rdGood;rw[hi,a3,dd,n1,hrt,hsg,hall,hfl,hm,hs];have e1:decide ((wd ((if b=true then 1 else 0) :: l) 0)≤1)=true:=by cases b<;>rfl
  rw[e1];simp
 obtain⟨x1,x2,x3⟩:=rd_fine (h:=putAll o 1 l h2) hod hi hfine;exact⟨x1,x2.trans hsg,x3.trans hall⟩
end Limb
end Go.Proofs.YtbffpkmfhkphdaaGreatDoor
namespace Go.Proofs.YtbffpkmfhkphdaaGreatDoor
open Go Lib Go.RowKit Limb
theorem r4_specials(w:World):Calls Tryz.prog 119 #[] w fun e w'=>(∃g,e= .returned (.slice (some ⟨g,0,none⟩) 11 11)∧Row w' g 9 (sels.map sv))∧Below w.heap.size w w':=by
 obtain⟨W,hW,r0,hB,hz⟩:=alloc_row w 9 [.string ⟨#[100,111,101,115,78,111,116,85,110,100,101,114,115,116,97,110,100,58]⟩,.string ⟨#[109,117,115,116,66,101,66,111,111,108,101,97,110]⟩,.string ⟨#[99,97,110,110,111,116,82,101,116,117,114,110,58]⟩,.string ⟨#[97,98,111,117,116,84,111,82,101,116,117,114,110,58,116,104,114,111,117,103,104,58]⟩,.string ⟨#[118,97,108,117,101]⟩,.string ⟨#[118,97,108,117,101,58]⟩,.string ⟨#[118,97,108,117,101,58,118,97,108,117,101,58]⟩,.string ⟨#[118,97,108,117,101,58,118,97,108,117,101,58,118,97,108,117,101,58]⟩,.string ⟨#[100,111,73,116]⟩,.string ⟨#[115,105,103,110,97,108]⟩,.string ⟨#[117,110,119,105,110,100]⟩];have HP:=hid (show Row W w.heap.size 9 (sels.map sv)from r0);have HB:=hid hB;clear r0 hB hz;subst hW;go_enter Tryz.func119,Tryz.ntmps119;go_wp2_with fail;go_ret;exact⟨⟨_,rfl,HP.out⟩,HB.out⟩
theorem rplan_names: ∀k,k<22→okT (plans.getD k ⟨[],0,0,false,[]⟩).name=true∧0<(plans.getD k ⟨[],0,0,false,[]⟩).name.length∧((plans.getD k ⟨[],0,0,false,[]⟩).fields.all (fun t=>okT t&&decide (0<t.length)))=true∧((plans.getD k ⟨[],0,0,false,[]⟩).fields.all okT)=true∧(plans.getD k ⟨[],0,0,false,[]⟩).fields.length≤100:=by decide
theorem rsel_names: ∀k,k<11→okT (sels.getD k [])=true∧0<(sels.getD k []).length:=by decide
theorem ownF_parts{h h':Hp}{c:Nat}{fs:List (List Nat)}(e:ownF h c fs=some h'): ∃all hI a hA,internAll fs h=some (all,hI)∧allocP hI (wd hI.rt 20) 1 fs.length=some (a,hA)∧h'=Limb.putF (putAll a 0 all hA) c 3 a:=by
 unfold ownF at e;obtain⟨⟨all,hI⟩,e1,e2⟩:=Option.bind_eq_some_iff.1 e;obtain⟨⟨a,hA⟩,e3,e4⟩:=Option.map_eq_some_iff.1 e2;exact⟨all,hI,a,hA,e1,e3,e4.symm⟩
section
variable {w X:World} {G F:RFoot} {R:World→Prop} {hk:Hp}
theorem rc_names(c:RC w G R X F hk)(K:Limb.Ker hk)(fs:List (List Nat))(n gf:Nat)(hn:n=fs.length)(hn0:0<n)(hn1:n≤100)(rf:Row X gf 9 (fs.map sv))(hfs:fs.all (fun t=>okT t&&decide (0<t.length))=true)(all:List Nat)(hI:Hp)(e1:internAll fs hk=some (all,hI))(a:Nat)(hA:Hp)(e3:allocP hI (wd hI.rt 20) 1 fs.length=some (a,hA)):Calls Tryz.prog 120 #[.pointer (some ⟨G.p,0,none⟩),.slice (some ⟨gf,0,none⟩) n n] X fun e X'=>e= .returned (.tuple #[.int .u32 a,.int .i64 0])∧∃F',RC w G R X' F' (putAll a 0 all hA):=by
 rw[←c.p];exact(r4_names c.hp c.lowX K fs n gf hn hn0 hn1 rf (c.hp.not_mem rf (by decide) (by decide) (by decide) (by decide)) hfs all hI e1 a hA e3).mono fun e X' ⟨x,F',y⟩=>⟨x,F',c.step y⟩
end
def RR(g gl:Nat)(vs:List Value)(X:World):Prop:=RowsAt X g vs∧Row X gl 9 (sels.map sv)
theorem rkeeps_rr(g gl:Nat)(vs:List Value):RKeeps (RR g gl vs):=(rkeeps_rows g vs).and (rkeeps_row gl 9 (sels.map sv) (by decide) (by decide) (by decide) (by decide))
theorem r4_boot(w:World)(h5w:5≤w.heap.size)(n:Nat)(h1:64≤n)(h2:n≤1048576)(hA hP hE:Hp)(ms:List Nat)(st:Limb.StepsR n hA hP ms hE):Calls Tryz.prog 42 #[.int .i64 n] w fun e w'=> ∃G,e= .returned (.tuple #[.pointer (some ⟨G.p,0,none⟩),.int .i64 0])∧RefAt w' G hE∧Below w.heap.size w w'∧∀g∈G.l,w.heap.size≤g:=by
 have HNw:=hid (r_new w n h1 h2 h5w);have HRo:=hid (fun X=>r4_rows X);have HSp:=hid (fun X=>r4_specials X);have HBo:=hid (fun X G (H:RefAt X G (emptyH n)) (h5:5≤X.heap.size) g vs (RA:RowsAt X g vs)=>r4_bones n h1 h2 H h5 RA hA hP hE ms st);have HP2:=hid st.paired2;obtain⟨hB,hhB⟩: ∃hB,hB=clsAll bareCls (wireAllR ms 0 plans hP):=⟨_,rfl⟩;have hrest:=st.rest;rw[←hhB]at hrest HP2 HBo;obtain⟨hN,e1,e2⟩:=Option.bind_eq_some_iff.1 hrest;obtain⟨hS,e3,e4⟩:=Option.bind_eq_some_iff.1 e2;have HN0:=hid (show nameAll 0 (plans.drop 0) hB=some hN from e1);have HS0:=hid (show selAll 0 (sels.drop 0) hN=some hS from e3);have HF0:=hid (show fieldAll 0 (plans.drop 0) hS=some hE from e4);have H5:=hid h5w;clear st hrest e1 e2 e3 e4 hhB h5w;go_enter Tryz.func42,Tryz.ntmps42;go_wp2_with fail;refine(HNw.out).mono ?_;rintro e w1 ⟨G,rfl,H,hb1,hGl⟩;(try dsimp only);have HBW:=hid hb1;have HGl:=hid hGl;have HH:=hid H;clear H hb1 hGl HNw;go_wp2_with fail;refine(HRo.out w1).mono ?_;rintro e X1 ⟨⟨g,vs,rfl,hRw,-⟩,hb⟩;(try dsimp only);have h5x:=Nat.le_trans H5.out HBW.out.size;have HB1:=hid (HBo.out X1 G (HH.out.below hb) (Nat.le_trans h5x hb.size) g vs hRw);have HC0:=hid (((RC.start HH.out h5x).below hb).with (rkeeps_rows g vs) hRw);clear hb hRw h5x HBo HRo HH;go_wp2_with fail;refine(HB1.out).mono ?_;rintro e X2 ⟨rfl,F,hSt⟩;(try dsimp only);have HC:=hid (HC0.out.step hSt);have HG:=hid (Limb.Grow.refl HC.out.hp.good);clear hSt HC0 HB1;go_wp2_with fail;go_loopw[6] (fun i wr=> ∃(k:Nat) (F:RFoot) (hk:Hp),k≤22∧i= .int .i64 k∧Hid (RC w1 G (fun X=>RowsAt X g vs) wr F hk)∧Hid (Limb.Grow hB hk)∧Hid (nameAll k (plans.drop k) hk=some hN)) (fun i _=>22-(intOf i).toNat);case atStart=>exact⟨0,F,hB,Nat.zero_le _,rfl,HC,HG,HN0⟩
 case round=>
  clear HC HG HN0 F;obtain⟨k,F,hk,hkn,rfl,HC,HG,HR⟩:=hrel;by_cases h0:k<22
  ·have d1:decide ((k:Int)<22)=true:=decide_eq_true (by omega);have d2:decide (k<22)=true:=decide_eq_true h0;have hr:=HR.out;rw[plans_drop2 h0]at hr;have hPk:=HP2.out.grow HG.out;obtain⟨n1,n2,n3,n4,n5⟩:=rplan_names k h0;obtain⟨p0,p1,p2,p3,p4⟩:=HC.out.ex.cells h0;replace p0:wr.cell? ⟨g,5*k,none⟩=some (.string (strOf (plans.getD k ⟨[],0,0,false,[]⟩).name)):=p0;have HNm:=hid (fun Y F1 h1 (c:RC w1 G (fun X=>RowsAt X g vs) Y F1 h1)=>show Y.cell? ⟨g,5*k,none⟩=some (.string (strOf (plans.getD k ⟨[],0,0,false,[]⟩).name))from(c.ex.cells h0).1);have ix:=fun W=>index_by (P:=Tryz.prog) 5 (by decide) 146 152 Tryz.underlying146 size_rrow g 22 22 W .i64 k h0
   have ixr: ∀W,(Instr.indexAt 71 (.slice (some ⟨G.gr,0,none⟩) 64 64) (.int .i64 (10+(k:Int)))).run Tryz.prog W= .ok (.pointer (some ⟨G.gr,10+k,none⟩)) W:=by
    have:=(HC.out.root (i:=10+k) (by omega)).2.2;rw[Int.natCast_add]at this;exact this
   generalize plans.getD k ⟨[],0,0,false,[]⟩=p at*
   obtain⟨b1,b2⟩:=okT_iff n1;obtain⟨⟨o,h1'⟩,x1,x2⟩:=Option.bind_eq_some_iff.1 hr;obtain⟨⟨a,h3⟩,x3,x4⟩:=Option.bind_eq_some_iff.1 x2;simp only at x3 x4;obtain⟨g1,i1⟩:=grow_intern hPk.good b1 b2 x1;have icl:=hPk.cls k h0;have er1:h1'.rt=hk.rt:=g1.rt;rw[g1.rt]at x3;have c1F:=g1.isF _ _ _ icl;have g2:=grow_put g1.good (i:=0) (isF_le c1F (by decide)) (isO_lt g1.good (isF_isO i1));have c2O:=isF_isO (g2.isF _ _ _ c1F);obtain⟨g3,i3⟩:=grow_setGlob g2.good b1 b2 (isO_lt g2.good c2O) x3;have hK:=hPk.ker;obtain⟨c,hc⟩: ∃c,c=wd hk.rt (10+k):=⟨_,rfl⟩;rw[←hc]at x3 icl c1F g2 c2O g3;have HIn:=hid (fun Y F1 (cn:RC w1 G (fun X=>RowsAt X g vs) Y F1 hk)=>rc_intern cn hK (strOf p.name) (by rw[strOf_size];exact b2) (by rw[strOf_size];exact n2) o h1' (by rw[tx_strOf b1];exact x1));have HPu:=hid (fun Y F1 (cn:RC w1 G (fun X=>RowsAt X g vs) Y F1 h1')=>show Calls Tryz.prog 117 #[.pointer (some ⟨G.p,0,none⟩),.int .u32 c,.int .i64 0,.int .u32 o] Y fun e X'=>e= .returned (.int .i64 0)∧∃F',RC w1 G (fun X=>RowsAt X g vs) X' F' (Limb.putF h1' c 0 o)from rc_put cn (i:=0) (isF_le c1F (by decide)) (isO_val (isF_isO i1)) (isO_lt g1.good (isF_isO i1)));have HSg:=hid (fun Y F1 (cn:RC w1 G (fun X=>RowsAt X g vs) Y F1 (Limb.putF h1' c 0 o))=>rc_setglobal cn ((hK.grow g1).grow g2) (strOf p.name) (by rw[strOf_size];exact b2) (by rw[strOf_size];exact n2) c c2O a h3 (by rw[tx_strOf b1];exact x3));have HG2:=hid (HG.out.trans ((g1.trans g2).trans g3));have HR2:=hid (show nameAll (k+1) (plans.drop (k+1)) h3=some hN from x4);have HE1:=hid (show wd h1'.rt (10+k)=c by rw[er1,hc]);have HE2:=hid (show(Limb.putF h1' c 0 o).rt=h1'.rt from rfl);have HE3:=hid (show h3.rt=h1'.rt from g3.rt);generalize Limb.putF h1' c 0 o=h2 at*
   generalize strOf p.name=sn at*
   clear hr hPk n1 n2 n3 n4 n5 b1 b2 x1 x2 x3 x4 g1 i1 icl c1F g2 c2O g3 i3 hK hc er1 HG HR p1 p2 p3 p4;go_wp2_with fail;refine(HIn.out _ _ HC.out).mono ?_;rintro e Y1 ⟨rfl,F1,hC⟩;(try dsimp only);obtain⟨c2,cr,-⟩:=hC.root (i:=10+k) (by omega);rw[HE1.out]at cr;have HC2:=hid hC;clear hC HC HIn p0;go_wp2_with fail;refine(HPu.out _ _ HC2.out).mono ?_;rintro e Y2 ⟨rfl,F2,hC⟩;(try dsimp only);have HC3:=hid hC;clear hC HC2 HPu c2 cr;go_wp2_with fail;have hC:=HC3.out.drew;have hX: ∃F9 h9,h9.rt=h1'.rt∧RC w1 G (fun X=>RowsAt X g vs) Y2.drew F9 h9:=⟨_,_,HE2.out,hC⟩;refine wp_region_held (S:=fun Y=> ∃F9 h9,h9.rt=h1'.rt∧RC w1 G (fun X=>RowsAt X g vs) Y F9 h9) (by kernel_rfl) ?_;refine tk 0 (.pointer (some ⟨G.p,0,none⟩)) 55 hX ?_;simp only[Act.put,zA,zB,zC];refine tk 1 (.slice (some ⟨g,0,none⟩) 22 22) 56 hX ?_;simp only[Act.put,zA,zB,zC];refine tk 2 (.int .i64 k) 57 hX ?_;simp only[Act.put,zA,zB,zC];refine tk 3 (.pointer (some ⟨g,5*k,none⟩)) 58 hX ?_;simp only[Act.put,zA,zB,zC];refine tk 4 (.pointer (some ⟨g,5*k,none⟩)) 59 hX ?_;simp only[Act.put,zA,zB,zC];refine tk 5 (.string sn) 60 hX ?_ (y:=fun X hX=>by obtain⟨F9,h9,e9,c9⟩:=hX;have q:=HNm.out _ _ _ c9;go_simp);simp only[Act.put,zA,zB,zC];refine tk 6 (.pointer (some ⟨G.p,0,none⟩)) 61 hX ?_;simp only[Act.put,zA,zB,zC];refine tk 7 (.pointer (some ⟨G.p,0,none⟩)) 62 hX ?_;simp only[Act.put,zA,zB,zC];refine tk 8 (.pointer (some ⟨G.p,2,none⟩)) 63 hX ?_;simp only[Act.put,zA,zB,zC];refine tk 9 (.slice (some ⟨G.gr,0,none⟩) 64 64) 64 hX ?_ (y:=fun X hX=>by obtain⟨F9,h9,e9,c9⟩:=hX;have q:=(c9.root (i:=0) (by decide)).1;go_simp);simp only[Act.put,zA,zB,zC];refine tk 10 (.int .i64 k) 65 hX ?_;simp only[Act.put,zA,zB,zC];refine tk 11 (.int .i64 (10+(k:Int))) 66 hX ?_ (y:=fun X hX=>by go_simp;(first |done|exact i64_self (by omega) (by omega)|omega));simp only[Act.put,zA,zB,zC];refine tk 12 (.pointer (some ⟨G.gr,10+k,none⟩)) 67 hX ?_;simp only[Act.put,zA,zB,zC];refine tk 13 (.int .u32 c) 68 hX ?_ (y:=fun X hX=>by obtain⟨F9,h9,e9,c9⟩:=hX;have q:=(c9.root (i:=10+k) (by omega)).2.1;rw[e9,HE1.out]at q;go_simp);simp only[Act.put,zA,zB,zC];refine wpAnyH_all (rs:=[14]) (by kernel_rfl) (by decide) (fun i hi=>?_);rw[List.mem_singleton]at hi;subst hi;unfold wpOp;go_simp;refine .inl ((HSg.out _ _ hC).mono ?_);rintro e X1 ⟨rfl,F4,hC⟩;replace hX: ∃F9 h9,h9.rt=h1'.rt∧RC w1 G (fun X=>RowsAt X g vs) X1 F9 h9:=⟨F4,h3,HE3.out,hC⟩;refine⟨hX,?_⟩;refine tk 15 (.tuple #[.int .u32 a,.int .i64 0]) 54 hX ?_;simp only[Act.put,zA,zB,zC];refine tk 16 (.int .u32 a) 70 hX ?_;simp only[Act.put,zA,zB,zC];refine tk 17 (.int .i64 0) 71 hX ?_;simp only[Act.put,zA,zB,zC];refine tk 18 (.int .i64 0) 8 hX ?_;simp only[Act.put,zA,zB,zC];refine wpAnyH_done (by kernel_rfl) ?_ _;have HC4:=hid hC;clear hX hC HSg HNm HC3 ixr ix;go_wp2_with fail;go_roundw;case rel=>exact⟨k+1,F4,h3,h0,by simp,HC4,HG2,HR2⟩
   case measure=>simp[intOf];omega
  ·obtain rfl:k=22:=by omega
   rw[show((22:Nat):Int)=22 from rfl];have d1:decide ((22:Int)<22)=false:=rfl;have hn:=Option.some.inj HR.out;have hn:hk=hN:=hn;subst hn;have HCk:=hid HC.out;have HGk:=hid HG.out;clear HC HG HR;go_wp2_with fail;refine(HSp.out _).mono ?_;rintro e X3 ⟨⟨gl,rfl,hSl⟩,hb⟩;(try dsimp only);have hc:=HCk.out.below hb;have HC:=hid (hc.with (rkeeps_rr g gl vs) ⟨hc.ex,hSl⟩);have HG:=hid HGk.out;clear hb hSl hc HCk HGk HSp;go_wp2_with fail;go_loopw[10] (fun i wr=> ∃(k:Nat) (F:RFoot) (hq:Hp),k≤11∧i= .int .i64 k∧Hid (RC w1 G (RR g gl vs) wr F hq)∧Hid (Limb.Grow hB hq)∧Hid (selAll k (sels.drop k) hq=some hS)) (fun i _=>11-(intOf i).toNat);case atStart=>exact⟨0,F,hk,Nat.zero_le _,rfl,HC,HG,HS0⟩
   case round=>
    clear HC HG HS0;obtain⟨k,F,hk,hkn,rfl,HC,HG,HR⟩:=hrel;by_cases h0:k<11
    ·have d1:decide ((k:Int)<11)=true:=decide_eq_true (by omega);have d2:decide (k<11)=true:=decide_eq_true h0;have hr:=HR.out;rw[drop_names (show k<sels.length from h0)]at hr;have hPk:=HP2.out.grow HG.out;obtain⟨n1,n2⟩:=rsel_names k h0;have sl:=HC.out.ex.2.sl (n:=11) rfl (by decide);have ix:=fun W=>sl.index 150 Tryz.underlying150 size_str W .i64 k h0
     have cx:wr.cell? ⟨gl,k,none⟩=some (.string (strOf (sels.getD k []))):=(by rw[HC.out.ex.2.cell_at];exact nameAt (show k<sels.length from h0));obtain⟨b1,b2⟩:=okT_iff n1;obtain⟨⟨o,h1'⟩,x1,x2⟩:=Option.bind_eq_some_iff.1 hr;simp only at x2;obtain⟨g1,i1⟩:=grow_intern hPk.good b1 b2 x1;rw[g1.rt]at x2;have q1:isF h1' (wd hk.rt 8) 1 (k+1)=true:=g1.isF _ _ _ (isF_le hPk.l8 (by omega));have o1:=isF_isO i1;have g2:=grow_put g1.good q1 (isO_lt g1.good o1);have HIn:=hid (fun Y F1 (cn:RC w1 G (RR g gl vs) Y F1 hk)=>rc_intern cn hPk.ker (strOf (sels.getD k [])) (by rw[strOf_size];exact b2) (by rw[strOf_size];exact n2) o h1' (by rw[tx_strOf b1];exact x1));have HPu:=hid (fun Y F1 (cn:RC w1 G (RR g gl vs) Y F1 h1')=>rc_put cn q1 (isO_val o1) (isO_lt g1.good o1));have HG2:=hid (HG.out.trans (g1.trans g2));have HR2:=hid (show selAll (k+1) (sels.drop (k+1)) (Limb.putF h1' (wd hk.rt 8) k o)=some hS from x2);have HE1:=hid (show wd h1'.rt 8=wd hk.rt 8 by rw[g1.rt]);have ix8: ∀W,(Instr.indexAt 71 (.slice (some ⟨G.gr,0,none⟩) 64 64) (.int .i64 8)).run Tryz.prog W= .ok (.pointer (some ⟨G.gr,8,none⟩)) W:=(HC.out.root (i:=8) (by decide)).2.2;generalize Limb.putF h1' (wd hk.rt 8) k o=h2 at*
     generalize wd hk.rt 8=l8 at*
     generalize strOf (sels.getD k [])=sn at*
     clear hr hPk n1 n2 b1 b2 sl x1 x2 g1 i1 q1 o1 g2 HG HR;go_wp2_with fail;refine(HIn.out _ _ HC.out).mono ?_;rintro e Y1 ⟨rfl,F1,hC⟩;(try dsimp only);obtain⟨c2,cr,-⟩:=hC.root (i:=8) (by decide);rw[HE1.out]at cr;have HC2:=hid hC;clear hC HC HIn cx ix;go_wp2_with fail;refine(HPu.out _ _ HC2.out).mono ?_;rintro e Y2 ⟨rfl,F2,hC⟩;(try dsimp only);have HC3:=hid hC;clear hC HC2 HPu c2 cr ix8;go_wp2_with fail;go_roundw;case rel=>exact⟨k+1,F2,h2,h0,by simp,HC3,HG2,HR2⟩
     case measure=>simp[intOf];omega
    ·obtain rfl:k=11:=by omega
     rw[show((11:Nat):Int)=11 from rfl];have d1:decide ((11:Int)<11)=false:=rfl;have hn:=Option.some.inj HR.out;have hn:hk=hS:=hn;subst hn;have HC0:=hid HC.out;have HG0:=hid HG.out;clear HC HG HR;go_wp2_with fail;go_loopw[13] (fun i wr=> ∃(k:Nat) (F:RFoot) (hq:Hp),k≤22∧i= .int .i64 k∧Hid (RC w1 G (RR g gl vs) wr F hq)∧Hid (Limb.Grow hB hq)∧Hid (fieldAll k (plans.drop k) hq=some hE)) (fun i _=>22-(intOf i).toNat);case atStart=>exact⟨0,F,hk,Nat.zero_le _,rfl,HC0,HG0,HF0⟩
     case round=>
      clear HC0 HG0 HF0;obtain⟨k,F,hk,hkn,rfl,HC,HG,HR⟩:=hrel;by_cases h0:k<22
      ·have d1:decide ((k:Int)<22)=true:=decide_eq_true (by omega);have d2:decide (k<22)=true:=decide_eq_true h0;have hr:=HR.out;rw[plans_drop2 h0]at hr;have hPk:=HP2.out.grow HG.out;obtain⟨n1,n2,n3,n4,n5⟩:=rplan_names k h0;obtain⟨p0,p1,p2,p3,p4⟩:=HC.out.ex.1.cells h0;have hfa:=HC.out.ex.1.2.2 k h0;have ix:=fun W=>index_by (P:=Tryz.prog) 5 (by decide) 146 152 Tryz.underlying146 size_rrow g 22 22 W .i64 k h0
       have ixr: ∀W,(Instr.indexAt 71 (.slice (some ⟨G.gr,0,none⟩) 64 64) (.int .i64 (10+(k:Int)))).run Tryz.prog W= .ok (.pointer (some ⟨G.gr,10+k,none⟩)) W:=by
        have:=(HC.out.root (i:=10+k) (by omega)).2.2;rw[Int.natCast_add]at this;exact this
       generalize plans.getD k ⟨[],0,0,false,[]⟩=p at*
       have icl:=hPk.cls k h0;clear p0 p1 p2 p4 n1 n2;by_cases hf0:p.fields=[]
       ·have hr2:fieldAll (k+1) (plans.drop (k+1)) hk=some hE:=by
         have:(if p.fields=[]then fieldAll (k+1) (plans.drop (k+1)) hk else(ownF hk (wd hk.rt (10+k)) p.fields).bind (fieldAll (k+1) (plans.drop (k+1))))=some hE:=hr
         rwa [if_pos hf0]at this
        have hv:vs.getD k undef= .slice none 0 0:=(by rcases hfa with x|x;exact x.2;exact absurd hf0 x.1);rw[hv]at p3;have HR2:=hid hr2;clear hr hPk n3 n4 n5 hfa icl hf0 hr2 hv HR ixr;go_wp2_with fail;go_roundw;case rel=>exact⟨k+1,F,hk,h0,by simp,HC,HG,HR2⟩
        case measure=>simp[intOf];omega
       ·obtain⟨h1',x1,x2⟩: ∃h1,ownF hk (wd hk.rt (10+k)) p.fields=some h1∧fieldAll (k+1) (plans.drop (k+1)) h1=some hE:=by
         have:(if p.fields=[]then fieldAll (k+1) (plans.drop (k+1)) hk else(ownF hk (wd hk.rt (10+k)) p.fields).bind (fieldAll (k+1) (plans.drop (k+1))))=some hE:=hr;rw[if_neg hf0]at this;exact Option.bind_eq_some_iff.1 this
        obtain⟨gf,hv,rf⟩: ∃gf,vs.getD k undef= .slice (some ⟨gf,0,none⟩) p.fields.length p.fields.length∧Row wr gf 9 (p.fields.map sv):=by
         rcases hfa with x|⟨_,gf,y1,y2⟩
         ·exact absurd x.1 hf0
         ·exact⟨gf,y1,y2⟩
        rw[hv]at p3;have hnf:0<p.fields.length:=List.length_pos_iff.2 hf0;obtain⟨nf,hnf2⟩: ∃nf,nf=p.fields.length:=⟨_,rfl⟩;rw[←hnf2]at p3 n5;have e3:((nf:Int)==0)=false:=by rw[beq_eq_false_iff_ne];omega
        have e3':(nf==0)=false:=(by rw[beq_eq_false_iff_ne];omega);have g1:=grow_ownF hPk.good n4 (by omega) icl x1;obtain⟨all,hI,a,hA',y1,y2,y3⟩:=ownF_parts x1;obtain⟨g2,i2,i3⟩:=grow_internAll p.fields hk hI all hPk.good n4 y1;obtain⟨g3,i4⟩:=grow_alloc g2.good (by decide) (by decide) (show p.fields.length≤65535 by omega) y2;have g4:=grow_putAll all 0 hA' g3.good (fun x hx=>g3.isO (i2 x hx)) (by rw[Nat.zero_add,i3];exact i4);have i5:=isF_isO (g4.isF _ _ _ i4);have gA:=(g2.trans g3).trans g4;have HNa:=hid (rc_names HC.out hPk.ker p.fields nf gf hnf2 (by omega) n5 rf n3 all hI y1 a hA' y2);have q1:=isF_le (gA.isF _ _ _ icl) (show 3+1≤6 by decide);have HPu:=hid (fun Y F1 (cn:RC w1 G (RR g gl vs) Y F1 (putAll a 0 all hA'))=>show Calls Tryz.prog 117 #[.pointer (some ⟨G.p,0,none⟩),.int .u32 (wd hk.rt (10+k):Nat),.int .i64 3,.int .u32 a] Y fun e X'=>e= .returned (.int .i64 0)∧∃F',RC w1 G (RR g gl vs) X' F' h1' from by rw[y3];exact rc_put cn q1 (isO_val i5) (isO_lt g4.good i5));have HE1:=hid (show wd (putAll a 0 all hA').rt (10+k)=wd hk.rt (10+k) by rw[gA.rt]);have HG2:=hid (HG.out.trans g1);have HR2:=hid x2;generalize putAll a 0 all hA'=hM at*
        generalize wd hk.rt (10+k)=c at*
        clear hr hPk n3 n4 n5 hfa icl hf0 hv HR x1 x2 hnf hnf2 g1 HG y1 y2 y3 g2 i2 i3 g3 i4 g4 i5 gA q1 rf;go_wp2_with fail;refine(HNa.out).mono ?_;rintro e Y1 ⟨rfl,F1,hC⟩;(try dsimp only);obtain⟨c2,cr,-⟩:=hC.root (i:=10+k) (by omega);rw[HE1.out]at cr;have HC2:=hid hC;clear hC HC HNa p3 ix;go_wp2_with fail;refine(HPu.out _ _ HC2.out).mono ?_;rintro e Y2 ⟨rfl,F2,hC⟩;(try dsimp only);have HC3:=hid hC;clear hC HC2 HPu c2 cr ixr;go_wp2_with fail;go_roundw;case rel=>exact⟨k+1,F2,h1',h0,by simp,HC3,HG2,HR2⟩
        case measure=>simp[intOf];omega
      ·obtain rfl:k=22:=by omega
       rw[show((22:Nat):Int)=22 from rfl];have d1:decide ((22:Int)<22)=false:=rfl;have hn:=Option.some.inj HR.out;have hn:hk=hE:=hn;subst hn
       have hfin:RefAt wr F hk∧Below w.heap.size w wr∧∀g∈F.l,w.heap.size≤g:=by
        refine⟨HC.out.hp,HBW.out.trans (HC.out.st.2.2.belowB HBW.out.size HGl.out),fun g hg=>?_⟩;rcases HC.out.st.2.1.mem g hg with e|e
        ·exact HGl.out g e
        ·have:=HBW.out.size;omega
       have HFin:=hid hfin;have HPP:=hid HC.out.p;clear hfin HC HG HR;go_wp2_with fail;go_ret2;exact⟨F,by rw[HPP.out];rfl,HFin.out⟩
end Go.Proofs.YtbffpkmfhkphdaaGreatDoor

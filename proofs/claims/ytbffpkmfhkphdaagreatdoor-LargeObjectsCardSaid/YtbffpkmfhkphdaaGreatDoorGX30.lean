/- The walk of the document's lay. The walks of package kernel: bare, reads. -/
import Derived.Test.YtbffpkmfhkphdaaGreatDoorGX00
import Derived.Test.YtbffpkmfhkphdaaGreatDoorGX29
import Derived.Test.YtbffpkmfhkphdaaGreatDoorGX18
set_option linter.unusedVariables false
set_option linter.unusedSimpArgs false
set_option maxRecDepth 1000000
set_option maxHeartbeats 6400000
namespace Go.Proofs.YtbffpkmfhkphdaaGreatDoor
open Go Lib Go.RowKit Limb
section
variable {w:World} {G:RFoot} {h:Hp}
theorem r_lay(H:RefAt w G h)(h5w:5≤w.heap.size)(c f sp:Nat)(fs:List Nat)(gf m:Nat)(hm:m=fs.length)(rf:Row w gf 60 (nums .u32 fs))(hgf:gf∉G.l)(hok:(⟨fs.length,f,sp,c,h.last+1⟩:Hd).Ok)(hr:room h m=true)(hG:Limb.Good (addO h f sp c fs)):Calls Tryz.prog 125 #[.pointer (some ⟨G.p,0,none⟩),.int .u32 c,.int .i64 f,.int .i64 sp,.slice (some ⟨gf,0,none⟩) m m] w fun e w'=>e= .returned (.tuple #[.int .u32 (newO h:Nat),.int .i64 0])∧RMoved w G w' (addO h f sp c fs):=by
 unfold room at hr;rw[Bool.and_eq_true,decide_eq_true_eq,decide_eq_true_eq]at hr;obtain⟨hr1,hr2⟩:=hr;have hsm:=H.small;have hlst:=H.good.last;obtain⟨cw,cb,M0⟩:=RMid.start H;have hbl:(book h.st).length=h.ws.length:=by rw[book_length];exact H.good.len
 obtain⟨la,hla⟩: ∃la,la=h.last+1:=⟨_,rfl⟩;obtain⟨x,hx⟩: ∃x:Hd,x=⟨fs.length,f,sp,c,h.last+1⟩:=⟨_,rfl⟩;have hpk:=fun X=>r_pack X x (by rw[hx];exact hok)
 have hxV:hdV x= .agg #[.int .i64 m,.int .i64 f,.int .i64 sp,.int .u32 c,.int .u32 la]:=by rw[hx,hm,hla];rfl
 have hw3:w3V x.w0 x.cls x.ser= .agg #[.int .u32 x.w0,.int .u32 c,.int .u32 la]:=by rw[hx,hla];rfl
 rw[hxV,hw3]at hpk;have hw0:x.w0=Hd.w0 ⟨fs.length,f,sp,c,h.last+1⟩:=by rw[hx]
 obtain⟨w0,hw0'⟩: ∃w0,w0=x.w0:=⟨_,rfl⟩;rw[←hw0']at hpk hw0;have HPk:=hid hpk;have HW0:=hid hw0;have HLa:=hid hla;have HDone:=hid (fun(gw cw gb cb:Nat) (X:World) (M:RMid w G h (h.last+1) (h.ws++[Hd.w0 ⟨fs.length,f,sp,c,h.last+1⟩,c,h.last+1]++fs) gw cw (book h.st++[1]++List.replicate (2+fs.length) 0) gb cb X)=>(show RMoved w G X (addO h f sp c fs)from⟨_,M.done hG H.low h5w⟩));have r1:=M0.p;rw[hbl]at r1;have hNew:(newO h:Int)=2*(h.ws.length:Int):=by unfold newO;omega
 obtain⟨n,hn⟩: ∃n,n=h.ws.length:=⟨_,rfl⟩;rw[←hn]at r1 hr1 hsm hbl hNew;rw[hNew];have HN:=hid hn;have HBl:=hid hbl;have HM:=hid hm;have HRF:=hid (fun X (ho:Only G.l w X)=>show Row X gf 60 (nums .u32 fs)from rf.only ho hgf);have d1:decide ((h.size:Int)<(n:Int)+3+(m:Int))=false:=decide_eq_false (by omega);have q1:((h.last:Int)==4294967295)=false:=by rw[beq_eq_false_iff_ne];omega
 have q2:(h.last==4294967295)=false:=by rw[beq_eq_false_iff_ne];omega
 have es:(h.last:Int)+1=(la:Int):=by omega
 have lalt:la<4294967296:=by omega
 have mle:m≤1048576:=by omega
 have fle:f≤4:=hok.f4;have sle:sp≤3:=hok.spare;have HH:=hid H;clear hx hpk hxV hw3 hw0 hw0' hla hn hm hbl hNew rf hgf hok hr2 hG hlst;go_enter Tryz.func125,Tryz.ntmps125;go_wp2_with fail;refine wp_region_calm (fun Y=>Below w.heap.size w Y) (by kernel_rfl) (by kernel_rfl) (Below.refl _ _).drew ?_;show wpQuiet _ _ _ _ [_,_,_,_,_,_,_,_,_,_,_,_,_,_,_,_,_,_,_,_,_] _
 refine qa 14 (.pointer (some ⟨G.p,0,none⟩)) ?_;simp only[Act.put,zA,zB,zC];refine qa 15 (.pointer (some ⟨G.p,0,none⟩)) ?_;simp only[Act.put,zA,zB,zC];refine qa 16 (.pointer (some ⟨G.p,1,none⟩)) ?_;simp only[Act.put,zA,zB,zC];refine wpQuiet_at 17 (.slice (some ⟨G.gw,0,none⟩) n cw) rfl (by kernel_rfl) (fun Y hC=>?_) ?_
 ·have q:=(r1.below hC r1.lt).cell_at 1;simp only[yB,yC]at q;go_simp
 simp only[Act.put,zA,zB,zC];refine qa 18 (.int .i64 n) ?_;simp only[Act.put,zA,zB,zC];refine wpQuiet_at 19 (.int .i64 ((n:Int)+3)) rfl (by kernel_rfl) (fun Y hC=>?_) ?_
 ·go_simp;(first |done|exact i64_self (by omega) (by omega)|omega)
 simp only[Act.put,zA,zB,zC];refine qa 20 (.slice (some ⟨gf,0,none⟩) m m) ?_;simp only[Act.put,zA,zB,zC];refine qa 21 (.int .i64 m) ?_;simp only[Act.put,zA,zB,zC];refine wpQuiet_at 22 (.int .i64 ((n:Int)+3+(m:Int))) rfl (by kernel_rfl) (fun Y hC=>?_) ?_
 ·go_simp;(first |done|exact i64_self (by omega) (by omega)|omega)
 simp only[Act.put,zA,zB,zC];refine qa 23 (.pointer (some ⟨G.p,0,none⟩)) ?_;simp only[Act.put,zA,zB,zC];refine qa 24 (.pointer (some ⟨G.p,0,none⟩)) ?_;simp only[Act.put,zA,zB,zC];refine qa 25 (.pointer (some ⟨G.p,0,none⟩)) ?_;simp only[Act.put,zA,zB,zC];refine wpQuiet_at 26 (.int .i64 h.size) rfl (by kernel_rfl) (fun Y hC=>?_) ?_
 ·have q:=(r1.below hC r1.lt).cell_at 0;simp only[yB,yC]at q;go_simp
 simp only[Act.put,zA,zB,zC];refine qa 27 (.bool false) ?_;simp only[Act.put,zA,zB,zC];refine qa 28 (.bool false) ?_;simp only[Act.put,zA,zB,zC];refine qa 29 (.pointer (some ⟨G.p,0,none⟩)) ?_;simp only[Act.put,zA,zB,zC];refine qa 30 (.pointer (some ⟨G.p,0,none⟩)) ?_;simp only[Act.put,zA,zB,zC];refine qa 31 (.pointer (some ⟨G.p,3,none⟩)) ?_;simp only[Act.put,zA,zB,zC];refine wpQuiet_at 32 (.int .u32 h.last) rfl (by kernel_rfl) (fun Y hC=>?_) ?_
 ·have q:=(r1.below hC r1.lt).cell_at 3;simp only[yB,yC]at q;go_simp
 simp only[Act.put,zA,zB,zC];refine qa 33 (.bool false) ?_;simp only[Act.put,zA,zB,zC];refine qa 34 (.bool false) ?_;simp only[Act.put,zA,zB,zC];refine wpQuiet_nil ?_;intro V hbV;have M1:=M0.below hbV;have HM1:=hid M1;obtain⟨c0,c1,c2,c3,c4⟩:=M1.p.cells5;have z3:=M1.p.free 3;have M2:=M1.serial la;obtain⟨Z1,hZ1⟩: ∃Z,Z=V.setCell ⟨G.p,3,none⟩ (.int .u32 la):=⟨_,rfl⟩;rw[←hZ1]at M2;obtain⟨k0,k1,k2,k3,k4⟩:=M2.p.cells5;rw[hZ1]at k0 k1 k2 k3 k4;have HZ1:=hid hZ1;have HM2:=hid M2;clear hZ1 M1 M2 r1 M0 c1 c2 c4 hbV q1 q2 d1;go_wp2_with fail;rw[←HZ1.out];refine(HPk.out Z1).mono ?_;rintro e X1 ⟨rfl,hb⟩;(try dsimp only);have M3:=HM2.out.below hb;clear k0 k1 k2 k3 k4 HM1 HM2 HZ1 HPk hb c0 c3 z3;obtain⟨X2,hX2,rb,hb2,hz2⟩:=alloc_row X1 254 [.int .u32 w0,.int .u32 c,.int .u32 la];have M4:=M3.below hb2;have hbxw:w.heap.size≤X1.heap.size:=M3.only.size;have rbN: ∀g e cs,Row X2 g e cs→e≠254→X1.heap.size≠g:=fun g e cs r he=>rb.ne r (Ne.symm he)
 obtain⟨c0,c1,c2,c3,c4⟩:=M3.p.cells5;rw[←HN.out]at c1;rw[HBl.out]at c4;have hplt:=M3.p.lt
 -- a byte more in the book
 obtain⟨i8,hi8,z80,z81,z82⟩:=info_parts info8b;have M5:=M4.below ((Below.refl X2.heap.size X2).alloc (Nat.le_refl _) (.cells #[.int .u8 1] 5));have rb5:=rb.alloc (.cells #[.int .u8 1] 5);obtain⟨v1,Y1,hr1',hg1⟩:=run_sl_append (P:=Tryz.prog) (t:=72) (ty:=72) Tryz.underlying72 hi8 z80 z81 z82 rfl M5.bk ⟨X2.heap.size,0,none⟩ 1 1 (by omega) (nums .u8 [1]) rfl (cell_one_new _ _ _) (by simp[nums,Value.oneCell']) (by rw[HBl.out];exact Nat.le_trans (show n+1≤1048577 by omega) (by decide)) (by rw[HBl.out];omega);obtain⟨gb1,cb1,rfl,M6,rp1,ho1⟩:=M5.growB hg1 rfl;have l6:(book h.st++[1]).length=n+1:=by rw[List.length_append,HBl.out];rfl
 rw[HBl.out]at hr1' M6 rp1;rw[hz2]at hr1'
 have rb6:Row (Y1.setCell ⟨G.p,4,none⟩ (.slice (some ⟨gb1,0,none⟩) (n+1) cb1)) X1.heap.size 254 [.int .u32 w0,.int .u32 c,.int .u32 la]:=by
  obtain⟨_,rg⟩:=M5.bk.row;exact(rb5.only ho1 (by simp;exact rb5.ne rg (by decide))).other (by show X1.heap.size≠G.p;exact(rb5.ne M5.p (by decide))) _
 have k4:=(rp1.cells5).2.2.2.2;have z4:=rp1.free 4;have HR1:=hid hr1';obtain⟨e0,e1,e2,e3,e4⟩:=M6.p.cells5;rw[←HN.out]at e1;rw[l6]at e4
 -- naughts more in the book
 obtain⟨v2,Y2,hr2',hg2⟩:=run_sl_zeros (P:=Tryz.prog) (t:=72) (tn:=3) (ty:=72) Tryz.underlying72 (kn:= .i64) Tryz.underlying3 hi8 z80 z81 z82 rfl rfl M6.bk .i64 (2+m) (by omega) (by rw[l6];exact Nat.le_trans (show n+1+(2+m)≤2097152+3 by omega) (by decide)) (by rw[l6];omega);rw[show List.replicate (2+m) (Value.int .u8 0)=nums .u8 (List.replicate (2+m) 0)from(nums_replicate .u8 _).symm]at hg2;obtain⟨gb2,cb2,rfl,M7,rp2,ho2⟩:=M6.growB hg2 (List.length_replicate);have l7:(book h.st++[1]++List.replicate (2+m) 0).length=n+1+(2+m):=by rw[List.length_append,l6,List.length_replicate]
 rw[l6]at hr2' M7 rp2
 have rb7:Row (Y2.setCell ⟨G.p,4,none⟩ (.slice (some ⟨gb2,0,none⟩) (n+1+(2+m)) cb2)) X1.heap.size 254 [.int .u32 w0,.int .u32 c,.int .u32 la]:=by
  obtain⟨_,rg⟩:=M6.bk.row;exact(rb6.only ho2 (by simp;exact rb6.ne rg (by decide))).other (by show X1.heap.size≠G.p;exact(rb6.ne M6.p (by decide))) _
 have k4':=(rp2.cells5).2.2.2.2;have z4':=rp2.free 4;rw[Int.natCast_add,show((2:Nat):Int)=2 from rfl]at hr2';have HR2:=hid hr2';obtain⟨u0,u1,u2,u3,u4⟩:=M7.p.cells5;rw[←HN.out]at u1;have HM7:=hid M7;have RB7:=hid rb7;clear hr1' hr2' M4 M5 M6 M7 rb rb5 rb6 rb7 rp1 rp2 ho1 ho2 hg1 hg2 rbN hz2 hb2 u0 u2 u3 u4 e0 e2 e3 M3;have HL7:=hid l7;clear l6 l7;subst hX2;go_wp2_with(first |(at_builtin;refine Lib.wpList_append_run _ rfl _ _ _ _ rfl _ _ rfl rfl _ _ HR1.out ?_)|(at_builtin;refine Lib.wpList_append_run _ rfl _ _ _ _ rfl _ _ rfl rfl _ _ HR2.out ?_));generalize hZ:Y2.setCell ⟨G.p,4,none⟩ (.slice (some ⟨gb2,0,none⟩) (n+1+(2+m)) cb2)=Z at*
 generalize hbx:X1.heap.size=bx at*
 clear hZ hbx k4 z4 k4' z4' e1 e4 c0 c1 c2 c3 c4 hplt HR1 HR2 hi8 z80 z81 z82;have M7:=HM7.out;have rb7:=RB7.out;have hpz:=M7.p.lt;have M8:=(M7.below (Below.refl _ Z).drew).below ((Below.refl Z.drew.heap.size Z.drew).alloc (Nat.le_refl _) (.cells #[.int .u32 w0,.int .u32 c,.int .u32 la] 60));have rb8:=(rb7.drew).alloc (.cells #[.int .u32 w0,.int .u32 c,.int .u32 la] 60);obtain⟨i32,hi32,z320,z321,z322⟩:=info_parts info32;have rnew:Row (Z.drew.alloc (.cells #[.int .u32 w0,.int .u32 c,.int .u32 la] 60)) Z.heap.size 60 (nums .u32 [w0,c,la]):=by unfold Row;exact heap_alloc_new _ _
 obtain⟨v3,Y3,hr3,hg3⟩:=run_sl_append (P:=Tryz.prog) (t:=22) (ty:=22) Tryz.underlying22 hi32 z320 z321 z322 rfl M8.ws ⟨Z.heap.size,0,none⟩ 3 3 (by omega) (nums .u32 [w0,c,la]) rfl (row_news rnew) (by simp[nums,Value.oneCell']) (by rw[←HN.out];exact Nat.le_trans (show n+3≤1048579 by omega) (by decide)) (by rw[←HN.out];omega);obtain⟨gw1,cw1,rfl,M9,rp3,ho3⟩:=M8.growW hg3 rfl;have l9:(h.ws++[w0,c,la]).length=n+3:=by rw[List.length_append,←HN.out];rfl
 rw[←HN.out]at hr3 M9 rp3
 have hX9:Row Y3 bx 254 [.int .u32 w0,.int .u32 c,.int .u32 la]:=by
  obtain⟨_,rg⟩:=M8.ws.row;exact rb8.only ho3 (by simp;exact rb8.ne rg (by decide))
 have hbp:bx≠G.p:=rb8.ne M8.p (by decide);have kq1:=(rp3.cells5).2.1;have zq1:=rp3.free 1;have HR3:=hid hr3;have HM9:=hid M9;have hX:Row Z.drew bx 254 [.int .u32 w0,.int .u32 c,.int .u32 la]:=rb7;clear M7 M8 rb7 rb8 hi32 z320 z321 z322 rnew hr3 hg3 M9 rp3 ho3 HM7 RB7;refine wp_region_held (S:=fun Y=>Row Y bx 254 [.int .u32 w0,.int .u32 c,.int .u32 la]) (by kernel_rfl) ?_;refine tk 0 (.pointer (some ⟨G.p,0,none⟩)) 78 hX ?_;simp only[Act.put,zA,zB,zC];refine tk 1 (.pointer (some ⟨G.p,0,none⟩)) 79 hX ?_;simp only[Act.put,zA,zB,zC];refine tk 2 (.pointer (some ⟨G.p,0,none⟩)) 80 hX ?_;simp only[Act.put,zA,zB,zC];refine tk 3 (.pointer (some ⟨G.p,1,none⟩)) 81 hX ?_;simp only[Act.put,zA,zB,zC];refine tk 5 (.pointer (some ⟨bx,0,none⟩)) 83 hX ?_;simp only[Act.put,zA,zB,zC];refine tk 6 (.int .u32 w0) 84 hX ?_ (y:=fun X hX=>by have q:=hX.cell_at 0;simp only[yB,yC]at q;go_simp);simp only[Act.put,zA,zB,zC];refine tk 7 (.pointer (some ⟨bx,1,none⟩)) 85 hX ?_;simp only[Act.put,zA,zB,zC];refine tk 8 (.int .u32 c) 86 hX ?_ (y:=fun X hX=>by have q:=hX.cell_at 1;simp only[yB,yC]at q;go_simp);simp only[Act.put,zA,zB,zC];refine tk 9 (.pointer (some ⟨bx,2,none⟩)) 87 hX ?_;simp only[Act.put,zA,zB,zC];refine tk 10 (.int .u32 la) 88 hX ?_ (y:=fun X hX=>by have q:=hX.cell_at 2;simp only[yB,yC]at q;go_simp);simp only[Act.put,zA,zB,zC];refine wpAnyH_all (rs:=[4,11]) (by kernel_rfl) (by decide) (fun i hi=>?_);simp only[List.mem_cons,List.not_mem_nil,or_false]at hi;rcases hi with rfl|rfl
 ·have HX:=hid hX;clear hX;unfold wpOp;go_simp;have hX:=HX.out;refine .inl ⟨hX,?_⟩;refine wpAnyH_all (rs:=[11]) (by kernel_rfl) (by decide) (fun i hi=>?_);rw[List.mem_singleton]at hi;subst hi;have HX:=hid hX;clear hX;unfold wpOp;go_simp;have hX:=HX.out;replace hX:=hX.alloc (.cells #[.int .u32 w0,.int .u32 c,.int .u32 la] 60);refine .inl ⟨hX,?_⟩;refine wpAnyH_all (rs:=[12]) (by kernel_rfl) (by decide) (fun i hi=>?_);rw[List.mem_singleton]at hi;subst hi;refine wpOp_plain rfl rfl ?_;refine Lib.wp_append_run _ (.tmp 82) (.tmp 89) 22 22 rfl _ _ rfl rfl _ _ HR3.out ?_;replace hX:=hX9;refine⟨hX,?_⟩;simp only[Act.put,zA,zB,zC];refine tk 13 (.pointer (some ⟨G.p,0,none⟩)) 91 hX ?_;simp only[Act.put,zA,zB,zC];refine tk 14 (.pointer (some ⟨G.p,1,none⟩)) 92 hX ?_;simp only[Act.put,zA,zB,zC];refine wpAnyH_all (rs:=[15]) (by kernel_rfl) (by decide) (fun i hi=>?_);rw[List.mem_singleton]at hi;subst hi;have HX:=hid hX;clear hX;unfold wpOp;go_simp;have hX:=HX.out.other (a:=⟨G.p,1,none⟩) hbp (.slice (some ⟨gw1,0,none⟩) (n+3) cw1);refine .inl ⟨hX,?_⟩;refine wpAnyH_done (by kernel_rfl) ?_ _;have M9:=HM9.out;have hpz9:=M9.p.lt;have ho9:=M9.only;have rf9:=HRF.out _ ho9;obtain⟨i32,hi32,z320,z321,z322⟩:=info_parts info32;obtain⟨v4,Y4,hr4,hg4⟩:=run_sl_append (P:=Tryz.prog) (t:=22) (ty:=22) Tryz.underlying22 hi32 z320 z321 z322 rfl M9.ws ⟨gf,0,none⟩ m m (by rw[l9];omega) (nums .u32 fs) (by rw[nums_length];exact HM.out.symm) (row_news rf9) (by simp[nums,Value.oneCell']) (by rw[l9];exact Nat.le_trans (show n+3+m≤2097159 by omega) (by decide)) (by rw[l9];omega);obtain⟨gw2,cw2,rfl,M10,rp4,ho4⟩:=M9.growW hg4 HM.out.symm;rw[l9]at hr4 M10 rp4;have p9:=(M9.p.cells5).2.1;rw[l9]at p9;have kr1:=(rp4.cells5).2.1;have zr1:=rp4.free 1
  have hfin:RMoved w G (Y4.setCell ⟨G.p,1,none⟩ (.slice (some ⟨gw2,0,none⟩) (n+3+m) cw2)) (addO h f sp c fs):=by
   refine HDone.out gw2 cw2 gb2 cb2 _ ?_;have:=M10;rw[HLa.out,HW0.out,HM.out]at this;rw[HM.out];exact this
  have HFin:=hid hfin;have HR4:=hid hr4;have HSz:=hid hsm;clear hX HX HR3 HM9 hX9 M9 M10 rp4 ho4 ho9 rf9 hi32 z320 z321 z322 hr4 hg4 hfin u1 kq1 zq1;have n2:n≤1048576:=hsm.1;go_wp2_with(at_builtin;refine Lib.wpList_append_run _ rfl _ _ _ _ rfl _ _ rfl rfl _ _ HR4.out ?_);go_ret2;exact⟨rfl,HFin.out⟩
 ·have HX:=hid hX;clear hX;unfold wpOp;go_simp;have hX:=HX.out;replace hX:=hX.alloc (.cells #[.int .u32 w0,.int .u32 c,.int .u32 la] 60);refine .inl ⟨hX,?_⟩;refine wpAnyH_all (rs:=[4]) (by kernel_rfl) (by decide) (fun i hi=>?_);rw[List.mem_singleton]at hi;subst hi;have HX:=hid hX;clear hX;unfold wpOp;go_simp;have hX:=HX.out;refine .inl ⟨hX,?_⟩;refine wpAnyH_all (rs:=[12]) (by kernel_rfl) (by decide) (fun i hi=>?_);rw[List.mem_singleton]at hi;subst hi;refine wpOp_plain rfl rfl ?_;refine Lib.wp_append_run _ (.tmp 82) (.tmp 89) 22 22 rfl _ _ rfl rfl _ _ HR3.out ?_;replace hX:=hX9;refine⟨hX,?_⟩;simp only[Act.put,zA,zB,zC];refine tk 13 (.pointer (some ⟨G.p,0,none⟩)) 91 hX ?_;simp only[Act.put,zA,zB,zC];refine tk 14 (.pointer (some ⟨G.p,1,none⟩)) 92 hX ?_;simp only[Act.put,zA,zB,zC];refine wpAnyH_all (rs:=[15]) (by kernel_rfl) (by decide) (fun i hi=>?_);rw[List.mem_singleton]at hi;subst hi;have HX:=hid hX;clear hX;unfold wpOp;go_simp;have hX:=HX.out.other (a:=⟨G.p,1,none⟩) hbp (.slice (some ⟨gw1,0,none⟩) (n+3) cw1);refine .inl ⟨hX,?_⟩;refine wpAnyH_done (by kernel_rfl) ?_ _;have M9:=HM9.out;have hpz9:=M9.p.lt;have ho9:=M9.only;have rf9:=HRF.out _ ho9;obtain⟨i32,hi32,z320,z321,z322⟩:=info_parts info32;obtain⟨v4,Y4,hr4,hg4⟩:=run_sl_append (P:=Tryz.prog) (t:=22) (ty:=22) Tryz.underlying22 hi32 z320 z321 z322 rfl M9.ws ⟨gf,0,none⟩ m m (by rw[l9];omega) (nums .u32 fs) (by rw[nums_length];exact HM.out.symm) (row_news rf9) (by simp[nums,Value.oneCell']) (by rw[l9];exact Nat.le_trans (show n+3+m≤2097159 by omega) (by decide)) (by rw[l9];omega);obtain⟨gw2,cw2,rfl,M10,rp4,ho4⟩:=M9.growW hg4 HM.out.symm;rw[l9]at hr4 M10 rp4;have p9:=(M9.p.cells5).2.1;rw[l9]at p9;have kr1:=(rp4.cells5).2.1;have zr1:=rp4.free 1
  have hfin:RMoved w G (Y4.setCell ⟨G.p,1,none⟩ (.slice (some ⟨gw2,0,none⟩) (n+3+m) cw2)) (addO h f sp c fs):=by
   refine HDone.out gw2 cw2 gb2 cb2 _ ?_;have:=M10;rw[HLa.out,HW0.out,HM.out]at this;rw[HM.out];exact this
  have HFin:=hid hfin;have HR4:=hid hr4;have HSz:=hid hsm;clear hX HX HR3 HM9 hX9 M9 M10 rp4 ho4 ho9 rf9 hi32 z320 z321 z322 hr4 hg4 hfin u1 kq1 zq1;have n2:n≤1048576:=hsm.1;go_wp2_with(at_builtin;refine Lib.wpList_append_run _ rfl _ _ _ _ rfl _ _ rfl rfl _ _ HR4.out ?_);go_ret2;exact⟨rfl,HFin.out⟩
end
end Go.Proofs.YtbffpkmfhkphdaaGreatDoor
namespace Go.Proofs.YtbffpkmfhkphdaaGreatDoor
open Go Lib Go.RowKit Limb
theorem size_int(W:World):(sizeOf 3).run Tryz.prog W= .ok 1 W:=by kernel_rfl
def Live(h:Hp):Prop:= ∀j,j<5→kindN (wd h.rt (wd [12,18,19,20,23] j))≠1
theorem five_lt{j:Nat}(hj:j<5):wd [12,18,19,20,23] j<64:=by
 have:j=0∨j=1∨j=2∨j=3∨j=4:=by omega
 rcases this with rfl|rfl|rfl|rfl|rfl<;>decide
section
variable {w:World} {F:Foot} {h:Hp}
theorem root_lt(k:Limb.Good h)(i:Nat):wd h.rt i<4294967296:=k.rlim.wd i
theorem kernel_bare(H:HeapAt w F h)(hL:Live h):Calls Tryz.prog 260 #[.pointer (some ⟨F.p,0,none⟩)] w fun e w'=>e= .returned (.bool false)∧Below w.heap.size w w':=by
 have HT:=hid (heap_top H);have q:((h.ws.length:Int)==0)=false:=by rw[beq_eq_false_iff_ne];have:=H.good.pos;omega
 have q2:(h.ws.length==0)=false:=by rw[beq_eq_false_iff_ne];have:=H.good.pos;omega
 have HR:=hid (fun X (hb:Below w.heap.size w X) j (hj:j<5)=>kernel_root (H.below hb) (wd [12,18,19,20,23] j) (five_lt hj));have HK:=hid (fun X j=>oop_kind X (wd h.rt (wd [12,18,19,20,23] j)) (root_lt H.good _));have HLv:=hid hL;clear hL H;go_enter Tryz.func260,Tryz.ntmps260;go_wp2_with fail;refine(HT.out).mono ?_;rintro e w1 ⟨rfl,rfl⟩;(try dsimp only);obtain⟨W,hW,r0,hB,hz⟩:=alloc_row w 3 [.int .i64 12,.int .i64 18,.int .i64 19,.int .i64 20,.int .i64 23];have HW:=hid hW;have r0:Row W w.heap.size 3 (nums .i64 [12,18,19,20,23]):=r0;go_wp2_with fail;rw[←HW.out];go_loopw[10] (fun i wr=> ∃k:Nat,k≤5∧i= .int .i64 k∧Row wr w.heap.size 3 (nums .i64 [12,18,19,20,23])∧Below w.heap.size w wr) (fun i _=>5-(intOf i).toNat);case atStart=>exact⟨0,Nat.zero_le _,rfl,r0,hB⟩
 case round=>
  clear r0 hB HW hW hz;obtain⟨k,hk,rfl,r0,hB⟩:=hrel;by_cases h0:k<5
  ·have d1:decide ((k:Int)<5)=true:=decide_eq_true (by omega);have d2:decide (k<5)=true:=decide_eq_true h0;have sl:=r0.sl (n:=5) rfl (by decide);have ix:=fun W=>sl.index 143 Tryz.underlying143 size_int W .i64 k h0
   have cx:=sl.cell h0;rw[nums_get (by exact h0)]at cx;have hr:=fun X hb=>HR.out X hb k h0
   have hk1:=fun X=>HK.out X k
   have hlv:=HLv.out k h0;generalize wd [12,18,19,20,23] k=rt at*
   generalize wd h.rt rt=v at*
   have q3:(((kindN v:Nat):Int)==1)=false:=(by rw[beq_eq_false_iff_ne];omega);have q4:(kindN v==1)=false:=by rw[beq_eq_false_iff_ne];exact hlv
   generalize kindN v=kv at*
   have HR1:=hid hr;have HK1:=hid hk1;clear hr hk1 hlv sl;go_wp2_with fail;refine(HR1.out wr hB).mono ?_;rintro e V ⟨rfl,rfl⟩;(try dsimp only);go_wp2_with fail;refine(HK1.out _).mono ?_;rintro e V ⟨rfl,rfl⟩;(try dsimp only);go_wp2_with fail;go_roundw;case rel=>exact⟨k+1,h0,by simp,r0,hB⟩
   case measure=>simp[intOf];omega
  ·obtain rfl:k=5:=by omega
   go_wp2_with fail;go_ret;exact⟨rfl,hB⟩
end
end Go.Proofs.YtbffpkmfhkphdaaGreatDoor

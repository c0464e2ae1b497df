/- What the laws' walks take of the answers of package large. The walks of package heap: header, Header. -/
import Derived.Test.YtbffpkmfhkphdaaGreatDoorGX18
import Derived.Test.YtbffpkmfhkphdaaGreatDoorGX15
import Derived.Test.YtbffpkmfhkphdaaGreatDoorGX16
import Derived.Test.YtbffpkmfhkphdaaGreatDoorGX12
import Derived.Laws.Cover3
set_option linter.unusedVariables false
set_option linter.unusedSimpArgs false
set_option maxRecDepth 1000000
set_option maxHeartbeats 6400000
namespace Go.Proofs.YtbffpkmfhkphdaaGreatDoor
open Go Lib Go.RowKit Limb
theorem ApiV.open{w:World}{u:Value}{z:Int}(h:ApiV w u z): ∃b a n c,u= .agg #[.bool b,.slice a n c]∧Hid (b=decide (z<0)∧n=(rep z.natAbs).length∧n≤c∧Lay .u32 w a (rep z.natAbs)):=by
 obtain⟨a,c,e,h1,h2⟩:=h;exact⟨_,a,_,c,e,hid ⟨rfl,rfl,h1,h2⟩⟩
def Came(w:World)(b:Bool)(a:Option Addr)(n:Nat)(l:List Nat):Prop:=Lay .u32 w a l∧Lim l∧n=l.length∧n≤9223372036854775807
theorem Came.below{w w':World}{b:Bool}{a:Option Addr}{n:Nat}{l:List Nat}(h:Came w b a n l)(hb:Below w.heap.size w w'):Came w' b a n l:=⟨h.1.below hb,h.2⟩
theorem signed_rep(z:Int):signed (decide (z<0)) (val (rep z.natAbs))=z:=by
 rw[val_rep];unfold signed;by_cases h:z<0
 ·simp[h];omega
 ·simp[h];omega
theorem mayB_small{z:Int}(h:(rep z.natAbs).length≤1024):mayB (decide (z<0)) (rep z.natAbs)=true:=by
 rw[mayB_rep,decide_eq_true h]
theorem Answer.ok{w w':World}{e:Ending}{z:Int}(h:Answer true w w' e z)(hl:(rep z.natAbs).length≤1024): ∃b a n c,e= .returned (.tuple #[.agg #[.bool b,.slice a n c],.int .i64 0])∧Hid (ApiV w' (.agg #[.bool b,.slice a n c]) z)∧Below w.heap.size w w':=by
 have h:ApiRes w w' e z:=h;obtain⟨hb,⟨h1,h2⟩|⟨h1,v,h2,a,n,cap,h3,h4,h5,h6⟩⟩:=h
 ·omega
 ·subst h3;subst h4;exact⟨_,_,_,_,h2,hid ⟨a,cap,rfl,h5,h6⟩,hb⟩
theorem DivAnswer.ok{fl:Bool}{w w':World}{e:Ending}{x y:Int}(h:DivAnswer true fl w w' e x y)(hy:y≠0): ∃b a n c b' a' n' c',e= .returned (.tuple #[.agg #[.bool b,.slice a n c],.agg #[.bool b',.slice a' n' c'],.int .i64 0])∧Hid (ApiV w' (.agg #[.bool b,.slice a n c]) (dquo fl x y)∧ApiV w' (.agg #[.bool b',.slice a' n' c']) (drem fl x y))∧Below w.heap.size w w':=by
 unfold DivAnswer at h;rw[if_neg (by decide),if_neg hy]at h;obtain⟨hb,aq,cq,ar,cr,h1,h2,h3,h4,h5⟩:=h;exact⟨_,_,_,_,_,_,_,_,h1,hid ⟨⟨aq,cq,rfl,h2,h4⟩,⟨ar,cr,rfl,h3,h5⟩⟩,hb⟩
def digsF(b:Nat):Nat→Nat→List Nat
 |0,_=>[]
 |f+1,n=>if n=0 then[]else n%b :: digsF b f (n/b)
theorem digs_fuel{b:Nat}(hb:2≤b): ∀(f n:Nat),n<2^f→digs b n=digsF b f n
 |0,n,h=>by rw[Nat.pow_zero]at h;rw[show n=0 by omega,digs_zero];rfl
 |f+1,n,h=>by
  unfold digsF;by_cases hn:n=0
  ·rw[if_pos hn,hn,digs_zero]
  ·rw[if_neg hn,digs_pos hb (by omega),digs_fuel hb f (n/b)];rw[Nat.pow_succ]at h;have h1:n/b≤n/2:=Nat.div_le_div_left hb (by decide);omega
theorem awake_text:utxt 10 ((2:Int)^100)=[49,50,54,55,54,53,48,54,48,48,50,50,56,50,50,57,52,48,49,52,57,54,55,48,51,50,48,53,51,55,54]:=by
 unfold utxt ztxt txt;rw[digs_fuel (by decide) 128 _ (by decide)];decide
end Go.Proofs.YtbffpkmfhkphdaaGreatDoor
namespace Go.Proofs.YtbffpkmfhkphdaaGreatDoor
open Go Lib Go.RowKit Limb
theorem run_array3(a:Option Addr)(c:Nat)(w:World):(Instr.arrayAt 254 (.slice a 3 c)).run Tryz.prog w= .ok (.pointer a) w:=run_arrayAt w _ _ 3 a 3 c Tryz.underlying254 (Nat.le_refl _)
attribute [local go_sem] run_array3
theorem store5{w:World}{g:Nat}{e:TypeId}{u0 u1 u2 u3 u4:Value}(h:Row w g e [u0,u1,u2,u3,u4])(a b c d f:Value):Row (((((w.setCell ⟨g,0,none⟩ a).setCell ⟨g,1,none⟩ b).setCell ⟨g,2,none⟩ c).setCell ⟨g,3,none⟩ d).setCell ⟨g,4,none⟩ f) g e [a,b,c,d,f]:=
 ((((h.store_any 0 a).store_any 1 b).store_any 2 c).store_any 3 d).store_any 4 f
theorem below_store5{B:Nat}{a w:World}(h:Below B a w){g:Nat}(hp:B≤g)(u0 u1 u2 u3 u4:Value):Below B a (((((w.setCell ⟨g,0,none⟩ u0).setCell ⟨g,1,none⟩ u1).setCell ⟨g,2,none⟩ u2).setCell ⟨g,3,none⟩ u3).setCell ⟨g,4,none⟩ u4):=
 below_store (below_store (below_store (below_store (below_store h hp _) hp _) hp _) hp _) hp _
section
variable {w:World} {F:Foot} {h:Hp}
theorem hd_w0(k:Limb.Good h){i:Nat}(hb:begins h i=true):(hd h i).w0=wd h.ws i:=w0_unp (k.ok i hb).2
theorem heap_header(H:HeapAt w F h)(i:Nat)(hb:begins h i=true):Calls Tryz.prog 218 #[.pointer (some ⟨F.p,0,none⟩),.int .i64 i] w fun e w'=>e= .returned (hdV (hd h i))∧Below w.heap.size w w':=by
 have hin:=H.good.inside i hb;obtain⟨hok,_⟩:=H.good.ok i hb;have h0:=hd_w0 H.good hb;have e1:(hd h i).cls=wd h.ws (i+1):=rfl;have e2:(hd h i).ser=wd h.ws (i+2):=rfl;have hsp:=H.spares;have h5:5≤w.heap.size:=hsp.1;have HU:=hid (fun X (hx:Below w.heap.size w X)=>oop_unpack X (hd h i) hok (hsp.below hx h5));have hsm:=H.small;obtain⟨cw,cs,c0,c1,c2,c3,c4,hw,hs⟩:=H.cells;have q0:=hw.cell (i:=i) (by omega);have q1:=hw.cell (i:=i+1) (by omega);have q2:=hw.cell (i:=i+2) (by omega);rw[nums_get (by omega)]at q0 q1 q2;rw[h0,e1,e2]at HU;have hle:=hw.le;generalize hd h i=x at*
 generalize wd h.ws i=a0 at*
 generalize wd h.ws (i+1)=a1 at*
 generalize wd h.ws (i+2)=a2 at*
 generalize h.ws.length=n at*
 have n1:i+3≤n:=by omega
 have n2:n≤1048576:=hsm.1;have n3:n≤cw:=hle.1;have hlt:F.gw<w.heap.size:=hw.lt;have hlp:F.p<w.heap.size:=H.lt _ (by unfold Foot.l;simp);obtain⟨W,hW,r0,hB,hz⟩:=alloc_row w 159 [.int .i64 0,.int .i64 0,.int .i64 0,.int .u32 0,.int .u32 0];have HW:=hid hW;have ex:hdV x= .agg #[.int .i64 x.size,.int .i64 x.fmt,.int .i64 x.spare,.int .u32 x.cls,.int .u32 x.ser]:=rfl;rw[ex]at HU ⊢;generalize x.size=x0 at*
 generalize x.fmt=x1 at*
 generalize x.spare=x2 at*
 generalize x.cls=x3 at*
 generalize x.ser=x4 at*
 unfold w3V at HU;clear hW hz ex hin hok h0 e1 e2 hsp hsm hw hs H hle hb c1 c2 c3 c4;go_enter Tryz.func218,Tryz.ntmps218;go_wp2_with fail;rw[←HW.out];refine(HU.out W hB).mono ?_;rintro e V ⟨rfl,hb⟩;(try dsimp only);clear c0 q0 q1 q2;replace r0:=r0.below hb r0.lt;replace hB:=hB.trans (hb.mono hB.size);clear hb;have z0:=r0.free 0;have z1:=r0.free 1;have z2:=r0.free 2;have z3:=r0.free 3;have z4:=r0.free 4;obtain⟨p0,p1,p2,p3,p4⟩:=r0.cells5;have hl:w.heap.size<V.heap.size:=r0.lt;have rs:=store5 r0 (.int .i64 x0) (.int .i64 x1) (.int .i64 x2) (.int .u32 x3) (.int .u32 x4);have rr:=rs.alloc (.cells #[.int .i64 x0,.int .i64 x1,.int .i64 x2,.int .u32 x3,.int .u32 x4] 159);have hS:=below_store5 hB (Nat.le_refl _) (.int .i64 x0) (.int .i64 x1) (.int .i64 x2) (.int .u32 x3) (.int .u32 x4);have hE:=hS.alloc hS.size (.cells #[.int .i64 x0,.int .i64 x1,.int .i64 x2,.int .u32 x3,.int .u32 x4] 159);have HE:=hid hE;obtain⟨f0,f1,f2,f3,f4⟩:=Row.cells5 rr;clear rr rs hS hE;go_wp2_with fail;refine bodyPost_ret (v:= .agg #[.int .i64 x0,.int .i64 x1,.int .i64 x2,.int .u32 x3,.int .u32 x4]) (by simp[results,Tryz.results218,go_sem,f0,f1,f2,f3,f4]) rfl ⟨rfl,?_⟩;exact HE.out
end
end Go.Proofs.YtbffpkmfhkphdaaGreatDoor

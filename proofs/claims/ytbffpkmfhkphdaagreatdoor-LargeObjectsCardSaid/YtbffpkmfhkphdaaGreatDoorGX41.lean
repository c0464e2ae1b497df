/- What the walk of the booter's classes carries along. -/
import Derived.Test.YtbffpkmfhkphdaaGreatDoorGX39
import Derived.Test.YtbffpkmfhkphdaaGreatDoorGX10
set_option linter.unusedVariables false
set_option linter.unusedSimpArgs false
namespace Go.Proofs.YtbffpkmfhkphdaaGreatDoor
open Go Go.RowKit Limb
section
variable {w:World} {F:Foot} {h:Hp}
theorem HeapAt.not_mem{g:Nat}{e:TypeId}{cs:List Value}(H:HeapAt w F h)(r:Row w g e cs)(h1:e≠165)(h2:e≠60)(h3:e≠4)(h4:e≠61):g∉F.l:=by
 obtain⟨cw,cs',r1,r2,r3⟩:=H.row;obtain⟨_,r2⟩:=r2.row;obtain⟨_,r3⟩:=r3.row;have r4:=H.roots;intro hm;unfold Foot.l at hm;simp only[List.mem_cons,List.not_mem_nil,or_false]at hm;rcases hm with e|e|e|e
 ·exact r.ne r1 h1 e
 ·exact r.ne r2 h2 e
 ·exact r.ne r3 h3 e
 ·exact r.ne r4 h4 e
theorem PlansAt.step{w':World}{F':Foot}{h':Hp}{g:Nat}{vs:List Value}(p:PlansAt w g vs)(H:HeapAt w F h)(s:Step w F w' F' h'):PlansAt w' g vs:=by
 refine⟨p.1,s.beside p.2.1 (H.not_mem p.2.1 (by decide) (by decide) (by decide) (by decide)),fun i hi=>?_⟩;rcases p.2.2 i hi with x|⟨x1,gf,x2,x3⟩
 ·exact .inl x
 ·exact .inr ⟨x1,gf,x2,s.beside x3 (H.not_mem x3 (by decide) (by decide) (by decide) (by decide))⟩
theorem PlansAt.store{g gm i:Nat}{vs cs:List Value}{v:Value}(p:PlansAt w g vs)(r:Row w gm 61 cs):PlansAt (w.setCell ⟨gm,i,none⟩ v) g vs:=by
 refine⟨p.1,p.2.1.other (p.2.1.ne r (by decide)) v,fun j hj=>?_⟩;rcases p.2.2 j hj with x|⟨x1,gf,x2,x3⟩
 ·exact .inl x
 ·exact .inr ⟨x1,gf,x2,x3.other (x3.ne r (by decide)) v⟩
theorem BootRow.step{w':World}{F':Foot}{h':Hp}{pb:Nat}{G:Foot}(r:BootRow w G pb)(H:HeapAt w F h)(s:Step w F w' F' h'):BootRow w' G pb:=
 s.beside r (H.not_mem r (by decide) (by decide) (by decide) (by decide))
end
def Rider(X:World):Option (Nat×List Value)→Prop
 |none=>True
 |some (pc,cs)=>Row X pc 232 cs
structure CW (B0:World) (F:Foot) (gm g pb:Nat) (rd:Option (Nat×List Value)) (vs:List Value) (ms:List Nat) (X:World) (F':Foot) (hk:Hp):Prop where
 gmo:gm∉F.l∧gm<B0.heap.size∧5≤gm
 st:StepC [gm] B0 F X F' hk
 boot:BootRow X F pb
 plans:PlansAt X g vs
 metas:Row X gm 61 (nums .u32 ms)
 rider:Rider X rd
section
variable {B0 X X':World} {F F' F'':Foot} {gm g pb:Nat} {rd:Option (Nat×List Value)} {vs:List Value} {ms:List Nat} {hk h':Hp}
theorem CW.step(c:CW B0 F gm g pb rd vs ms X F' hk)(s:Step X F' X' F'' h'):CW B0 F gm g pb rd vs ms X' F'' h':=
 ⟨c.gmo,c.st.step s,c.boot.step c.st.1 s,c.plans.step c.st.1 s,s.beside c.metas (c.st.aside c.gmo.1 c.gmo.2.1),by
  match rd,c.rider with
  |none,_=>trivial
  |some (pc,cs),r=>exact s.beside r (c.st.1.not_mem r (by decide) (by decide) (by decide) (by decide))⟩
theorem CW.below(c:CW B0 F gm g pb rd vs ms X F' hk)(hb:Below X.heap.size X X'):CW B0 F gm g pb rd vs ms X' F' hk:=
 ⟨c.gmo,c.st.below hb,Row.below c.boot hb (Row.lt c.boot),c.plans.below hb,c.metas.below hb c.metas.lt,by
  match rd,c.rider with
  |none,_=>trivial
  |some (pc,cs),r=>exact Row.below r hb (Row.lt r)⟩
theorem CW.store(c:CW B0 F gm g pb rd vs ms X F' hk)(i v:Nat):CW B0 F gm g pb rd vs (ms.set i v) (X.setCell ⟨gm,i,none⟩ (.int .u32 v)) F' hk:=
 ⟨c.gmo,c.st.store _ (.inl (by simp)) (c.st.aside c.gmo.1 c.gmo.2.1) c.gmo.2.2,Row.other c.boot (Row.ne c.boot c.metas (by decide)) _,c.plans.store c.metas,c.metas.store i v v rfl,by
  match rd,c.rider with
  |none,_=>trivial
  |some (pc,cs),r=>exact Row.other r (Row.ne r c.metas (by decide)) _⟩
theorem CW.ride(c:CW B0 F gm g pb none vs ms X F' hk){pc:Nat}{cs:List Value}(r:Row X pc 232 cs):CW B0 F gm g pb (some (pc,cs)) vs ms X F' hk:=⟨c.gmo,c.st,c.boot,c.plans,c.metas,r⟩
theorem CW.unride(c:CW B0 F gm g pb rd vs ms X F' hk):CW B0 F gm g pb none vs ms X F' hk:=⟨c.gmo,c.st,c.boot,c.plans,c.metas,trivial⟩
theorem CW.p(c:CW B0 F gm g pb rd vs ms X F' hk):F'.p=F.p:=c.st.2.1.p
theorem CW.hp(c:CW B0 F gm g pb rd vs ms X F' hk):HeapAt X F' hk:=c.st.1
theorem CW.at(c:CW B0 F gm g pb rd vs ms X F' hk){i:Nat}(hi:i<ms.length):X.cell? ⟨gm,i,none⟩=some (.int .u32 (wd ms i:Nat)):=c.metas.cell hi
end
theorem smallO_nat{n:Nat}(h:n<1073741824):smallO n=2*n+1:=by unfold smallO;omega
theorem val_odd(h:Hp)(n:Nat):valO h (2*n+1)=true:=by
 unfold valO;rw[decide_eq_true (show(2*n+1)%2=1 by omega)];simp
theorem writtenN_lt{f fx:Nat}{b:Bool}(h1:f≤1000)(h2:fx≤1000):writtenN f fx b<100000:=by
 unfold writtenN;split<;>omega
section
variable {B0 X:World} {F F':Foot} {gm g pb:Nat} {rd:Option (Nat×List Value)} {vs:List Value} {ms:List Nat} {hk:Hp}
theorem cw_alloc(c:CW B0 F gm g pb rd vs ms X F' hk)(n o:Nat)(h':Hp)(hn:n≤65535)(hp:allocP hk 0 1 n=some (o,h')):Calls Tryz.prog 109 #[.pointer (some ⟨pb,0,none⟩),.int .i64 n] X fun e X'=>e= .returned (.int .u32 o)∧∃F'',CW B0 F gm g pb rd vs ms X' F'' h':=by
 have rb:BootRow X F' pb:=by have:=c.boot;unfold BootRow at this ⊢;rw[c.p];exact this
 exact(booter_alloc c.hp rb (c.hp.not_mem c.boot (by decide) (by decide) (by decide) (by decide)) n o h' hn hp).mono fun e X' ⟨x,F'',y⟩=>⟨x,F'',c.step y⟩
theorem cw_setroot(c:CW B0 F gm g pb rd vs ms X F' hk)(i:Nat)(hi:i<64)(v:Nat)(hv:v<4294967296)(hval:valO hk v=true):Calls Tryz.prog 108 #[.pointer (some ⟨F.p,0,none⟩),.int .i64 i,.int .u32 v] X fun e X'=>e= .returned (.int .i64 0)∧∃F'',CW B0 F gm g pb rd vs ms X' F'' (setR hk i v):=by
 rw[←c.p];exact(heap_setroot c.hp i hi v hv hval).mono fun e X' ⟨x,y⟩=>⟨x,F',c.step y⟩
theorem cw_class(c:CW B0 F gm g pb rd vs ms X F' hk)(i:Nat)(hi:i<64):Calls Tryz.prog 185 #[.pointer (some ⟨pb,0,none⟩),.int .i64 i] X fun e X'=>e= .returned (.int .u32 (wd hk.rt i:Nat))∧Below X.heap.size X X':=by
 have rb:BootRow X F' pb:=by have:=c.boot;unfold BootRow at this ⊢;rw[c.p];exact this
 exact(booter_class c.hp rb i hi).mono fun e X' ⟨x,y⟩=>⟨x,by rw[←y];exact Below.refl _ _⟩
theorem cw_root(c:CW B0 F gm g pb rd vs ms X F' hk)(i:Nat)(hi:i<64):Calls Tryz.prog 110 #[.pointer (some ⟨F.p,0,none⟩),.int .i64 i] X fun e X'=>e= .returned (.int .u32 (wd hk.rt i:Nat))∧Below X.heap.size X X':=by
 rw[←c.p];exact(kernel_root c.hp i hi).mono fun e X' ⟨x,y⟩=>⟨x,by rw[←y];exact Below.refl _ _⟩
theorem cw_put(c:CW B0 F gm g pb rd vs ms X F' hk){o i v:Nat}(hf:isF hk o 1 (i+1)=true)(hi:i≤65535)(hv:valO hk v=true)(hv2:v<4294967296):Calls Tryz.prog 188 #[.pointer (some ⟨F.p,0,none⟩),.int .u32 o,.int .i64 i,.int .u32 v] X fun e X'=>e= .returned (.int .i64 0)∧∃F'',CW B0 F gm g pb rd vs ms X' F'' (Limb.putF hk o i v):=by
 rw[←c.p];exact(heap_putF c.hp hf hi hv hv2).mono fun e X' ⟨x,y⟩=>⟨x,F',c.step y⟩
theorem cw_setclass(c:CW B0 F gm g pb rd vs ms X F' hk){o k:Nat}(ho:isO hk o=true)(hc:isO hk k=true):Calls Tryz.prog 189 #[.pointer (some ⟨F.p,0,none⟩),.int .u32 o,.int .u32 k] X fun e X'=>e= .returned (.int .i64 0)∧∃F'',CW B0 F gm g pb rd vs ms X' F'' (Limb.setC hk o k):=by
 rw[←c.p];exact(heap_setclass c.hp o k (isO_lt c.hp.good ho) (isO_lt c.hp.good hc) ho (isO_cls hc)).mono fun e X' ⟨x,y⟩=>⟨x,F',c.step y⟩
theorem cw_of(c:CW B0 F gm g pb rd vs ms X F' hk){o i:Nat}(hi:i<64)(ho:isO hk o=true)(hc:isO hk (wd hk.rt i)=true):Calls Tryz.prog 190 #[.pointer (some ⟨pb,0,none⟩),.int .u32 o,.int .i64 i] X fun e X'=>e= .returned (.tuple #[])∧∃F'',CW B0 F gm g pb rd vs ms X' F'' (Limb.setC hk o (wd hk.rt i)):=by
 have rb:BootRow X F' pb:=by have:=c.boot;unfold BootRow at this ⊢;rw[c.p];exact this
 exact(booter_of c.hp rb (c.hp.not_mem c.boot (by decide) (by decide) (by decide) (by decide)) o i hi ho hc).mono fun e X' ⟨x,y⟩=>⟨x,F',c.step y⟩
end
end Go.Proofs.YtbffpkmfhkphdaaGreatDoor

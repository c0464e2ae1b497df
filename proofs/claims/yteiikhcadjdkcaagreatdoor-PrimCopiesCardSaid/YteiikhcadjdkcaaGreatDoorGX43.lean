/- What the walk of the booter's names carries along. -/
import Derived.Test.YteiikhcadjdkcaaGreatDoorGX41
import Derived.Test.YteiikhcadjdkcaaGreatDoorGX40
set_option linter.unusedVariables false
set_option linter.unusedSimpArgs false
namespace Go.Proofs.YteiikhcadjdkcaaGreatDoor
open Go Go.RowKit Limb
namespace Limb
theorem grow_putAll {a : Nat} : ∀ (l : List Nat) (i : Nat) (h : Hp), Good h → (∀ x ∈ l, isO h x = true) → isF h a 1 (i + l.length) = true → Grow h (putAll a i l h)
  | [], _, h, k, _, _ => Grow.refl k
  | v :: t, i, h, k, hl, hf => by
    have hf : isF h a 1 (i + (t.length + 1)) = true := hf
    have g := grow_put k (i := i) (isF_le hf (by omega)) (isO_lt k (hl v (by simp)))
    exact g.trans (grow_putAll t (i + 1) _ g.good (fun x hx => g.isO (hl x (List.mem_cons_of_mem _ hx))) (g.isF _ _ _ (isF_le hf (by omega))))
theorem grow_internAll : ∀ (fs : List (List Nat)) (h h' : Hp) (l : List Nat), Good h → fs.all okT = true → internAll fs h = some (l, h') → Grow h h' ∧ (∀ x ∈ l, isO h' x = true) ∧ l.length = fs.length
  | [], h, h', l, k, _, e => by
    have := Option.some.inj e
    rw [Prod.mk.injEq] at this
    obtain ⟨rfl, rfl⟩ := this
    exact ⟨Grow.refl k, by simp, rfl⟩
  | s :: t, h, h', l, k, ho, e => by
    rw [List.all_cons, Bool.and_eq_true] at ho
    obtain ⟨⟨o, h1⟩, e1, e2⟩ := Option.bind_eq_some_iff.1 e
    obtain ⟨⟨r, h2⟩, e3, e4⟩ := Option.map_eq_some_iff.1 e2
    rw [Prod.mk.injEq] at e4
    obtain ⟨rfl, rfl⟩ := e4
    obtain ⟨q1, q2⟩ := okT_iff ho.1
    obtain ⟨g1, i1⟩ := grow_intern k q1 q2 e1
    obtain ⟨g2, i2, i3⟩ := grow_internAll t h1 h2 r g1.good ho.2 e3
    refine ⟨g1.trans g2, fun x hx => ?_, by show r.length + 1 = t.length + 1; rw [i3]⟩
    rcases List.mem_cons.1 hx with rfl | hx
    · exact g2.isO (isF_isO i1)
    · exact i2 x hx
theorem grow_ownF {h h' : Hp} {c : Nat} {fs : List (List Nat)} (k : Good h) (ho : fs.all okT = true) (hn : fs.length ≤ 100) (hc : isF h c 1 6 = true) (e : ownF h c fs = some h') : Grow h h' := by
  unfold ownF at e
  obtain ⟨⟨all, hI⟩, e1, e2⟩ := Option.bind_eq_some_iff.1 e
  obtain ⟨⟨a, hA⟩, e3, e4⟩ := Option.map_eq_some_iff.1 e2
  obtain ⟨g1, i1, i2⟩ := grow_internAll fs h hI all k ho e1
  obtain ⟨g2, i3⟩ := grow_alloc g1.good (by decide) (by decide) (show fs.length ≤ 65535 by omega) e3
  have g3 := grow_putAll all 0 hA g2.good (fun x hx => g2.isO (i1 x hx)) (by rw [Nat.zero_add, i2]; exact i3)
  have i4 := isF_isO (g3.isF _ _ _ i3)
  have g123 := (g1.trans g2).trans g3
  rw [← e4]
  exact g123.trans (grow_put g3.good (i := 3) (isF_le (g123.isF _ _ _ hc) (by decide)) (isO_lt g3.good i4))
end Limb
def Keeps (R : World → Prop) : Prop := (∀ X X', R X → Below X.heap.size X X' → R X') ∧ ∀ X F hk X' F' h', HeapAt X F hk → R X → Step X F X' F' h' → R X'
theorem keeps_plans (g : Nat) (vs : List Value) : Keeps (fun X => PlansAt X g vs) := ⟨fun _ _ p hb => p.below hb, fun _ _ _ _ _ _ H p s => p.step H s⟩
theorem keeps_row (g : Nat) (e : TypeId) (cs : List Value) (h1 : e ≠ 74) (h2 : e ≠ 29) (h3 : e ≠ 4) (h4 : e ≠ 30) : Keeps (fun X => Row X g e cs) :=
  ⟨fun _ _ r hb => r.below hb r.lt, fun _ _ _ _ _ _ H r s => s.beside r (H.not_mem r h1 h2 h3 h4)⟩
theorem Keeps.and {R S : World → Prop} (a : Keeps R) (b : Keeps S) : Keeps (fun X => R X ∧ S X) :=
  ⟨fun X X' r hb => ⟨a.1 X X' r.1 hb, b.1 X X' r.2 hb⟩, fun X F hk X' F' h' H r s => ⟨a.2 X F hk X' F' h' H r.1 s, b.2 X F hk X' F' h' H r.2 s⟩⟩
structure CN (w : World) (F : Foot) (pb : Nat) (R : World → Prop) (X : World) (F' : Foot) (hk : Hp) : Prop where
  keeps : Keeps R
  st : Step w F X F' hk
  boot : BootRow X F pb
  ex : R X
section
variable {w X X' : World} {F F' F'' : Foot} {pb : Nat} {R R' : World → Prop} {hk h' : Hp}
theorem CN.step (c : CN w F pb R X F' hk) (s : Step X F' X' F'' h') : CN w F pb R X' F'' h' :=
  ⟨c.keeps, c.st.trans s, c.boot.step c.st.1 s, c.keeps.2 _ _ _ _ _ _ c.st.1 c.ex s⟩
theorem CN.below (c : CN w F pb R X F' hk) (hb : Below X.heap.size X X') : CN w F pb R X' F' hk :=
  ⟨c.keeps, c.st.below hb, Row.below c.boot hb (Row.lt c.boot), c.keeps.1 _ _ c.ex hb⟩
theorem CN.with (c : CN w F pb R X F' hk) (k : Keeps R') (r : R' X) : CN w F pb R' X F' hk := ⟨k, c.st, c.boot, r⟩
theorem CN.p (c : CN w F pb R X F' hk) : F'.p = F.p := c.st.2.1.p
theorem CN.hp (c : CN w F pb R X F' hk) : HeapAt X F' hk := c.st.1
theorem CN.rb (c : CN w F pb R X F' hk) : BootRow X F' pb := by have := c.boot; unfold BootRow at this ⊢; rw [c.p]; exact this
theorem CN.out (c : CN w F pb R X F' hk) : pb ∉ F'.l := c.hp.not_mem c.boot (by decide) (by decide) (by decide) (by decide)
theorem cn_class (c : CN w F pb R X F' hk) (i : Nat) (hi : i < 64) :
    Calls Tryz.prog 33 #[.pointer (some ⟨pb, 0, none⟩), .int .i64 i] X fun e X' => e = .returned (.int .u32 (wd hk.rt i : Nat)) ∧ Below X.heap.size X X' :=
  (booter_class c.hp c.rb i hi).mono fun e X' ⟨x, y⟩ => ⟨x, by rw [← y]; exact Below.refl _ _⟩
theorem cn_root (c : CN w F pb R X F' hk) (i : Nat) (hi : i < 64) :
    Calls Tryz.prog 16 #[.pointer (some ⟨F.p, 0, none⟩), .int .i64 i] X fun e X' => e = .returned (.int .u32 (wd hk.rt i : Nat)) ∧ Below X.heap.size X X' := by
  rw [← c.p]
  exact (kernel_root c.hp i hi).mono fun e X' ⟨x, y⟩ => ⟨x, by rw [← y]; exact Below.refl _ _⟩
theorem cn_put (c : CN w F pb R X F' hk) {o i v : Nat} (hf : isF hk o 1 (i + 1) = true) (hi : i ≤ 65535) (hv : isO hk v = true) :
    Calls Tryz.prog 37 #[.pointer (some ⟨F.p, 0, none⟩), .int .u32 o, .int .i64 i, .int .u32 v] X fun e X' => e = .returned (.int .i64 0) ∧ ∃ F'', CN w F pb R X' F'' (Limb.putF hk o i v) := by
  rw [← c.p]
  exact (heap_putF c.hp hf hi (isO_val hv) (isO_lt c.hp.good hv)).mono fun e X' ⟨x, y⟩ => ⟨x, F', c.step y⟩
theorem cn_intern (c : CN w F pb R X F' hk) (K : Limb.Ker hk) (S : ByteArray) (hS : S.size ≤ 262140) (h0 : 0 < S.size) (o : Nat) (h' : Hp) (hp : internP hk (tx S) = some (o, h')) :
    Calls Tryz.prog 40 #[.pointer (some ⟨pb, 0, none⟩), .string S] X fun e X' => e = .returned (.int .u32 o) ∧ ∃ F'', CN w F pb R X' F'' h' :=
  (booter_intern c.hp K c.rb c.out S hS h0 o h' hp).mono fun e X' ⟨x, F'', y⟩ => ⟨x, F'', c.step y⟩
theorem cn_setglobal (c : CN w F pb R X F' hk) (K : Limb.Ker hk) (S : ByteArray) (hS : S.size ≤ 262140) (h0 : 0 < S.size) (v : Nat) (hv : isO hk v = true) (o : Nat) (h' : Hp) (hp : setGlobP hk (tx S) v = some (o, h')) :
    Calls Tryz.prog 41 #[.pointer (some ⟨F.p, 0, none⟩), .string S, .int .u32 v] X fun e X' => e = .returned (.tuple #[.int .u32 o, .int .i64 0]) ∧ ∃ F'', CN w F pb R X' F'' h' := by
  rw [← c.p]
  exact (kernel_setglobal c.hp K S hS h0 v hv o h' hp).mono fun e X' ⟨x, F'', y⟩ => ⟨x, F'', c.step y⟩
theorem cn_own (c : CN w F pb R X F' hk) (K : Limb.Ker hk) (cls : Nat) (hc : isF hk cls 1 6 = true) (fs : List (List Nat)) (n gf : Nat) (hn : n = fs.length) (hn0 : 0 < n) (hn1 : n ≤ 100) (rf : Row X gf 9 (fs.map sv)) (hfs : fs.all (fun t => okT t && decide (0 < t.length)) = true) (h' : Hp) (hp : ownF hk cls fs = some h') :
    Calls Tryz.prog 43 #[.pointer (some ⟨F.p, 0, none⟩), .int .u32 cls, .slice (some ⟨gf, 0, none⟩) n n] X fun e X' => e = .returned (.int .i64 0) ∧ ∃ F'', CN w F pb R X' F'' h' := by
  rw [← c.p]
  exact (kernel_ownFields c.hp K cls hc fs n gf hn hn0 hn1 rf (c.hp.not_mem rf (by decide) (by decide) (by decide) (by decide)) hfs h' hp).mono fun e X' ⟨x, F'', y⟩ => ⟨x, F'', c.step y⟩
end
end Go.Proofs.YteiikhcadjdkcaaGreatDoor

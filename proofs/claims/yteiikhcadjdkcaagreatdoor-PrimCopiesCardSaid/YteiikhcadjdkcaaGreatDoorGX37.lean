/- PrimCopies: the law's calls, over a heap that nothing else knows. The walk of the function that package kernel's SetGlobal hands to undo. -/
import Derived.Test.YteiikhcadjdkcaaGreatDoorGX35
import Derived.Test.YteiikhcadjdkcaaGreatDoorGX36
import Derived.Test.YteiikhcadjdkcaaGreatDoorGX11
import Derived.Test.YteiikhcadjdkcaaGreatDoorGX34
set_option linter.unusedVariables false
set_option linter.unusedSimpArgs false
namespace Go.Proofs.YteiikhcadjdkcaaGreatDoor
open Go Go.RowKit Go.Maps Limb
structure St (w : World) (P : Nat) (X : World) (F : Foot) (h : Hp) (j : Nat) : Prop where
  at_ : HeapAt X F h
  p : F.p = P
  new : ∀ g ∈ F.l, w.heap.size ≤ g
  old : Below w.heap.size w X
  sc : SC h
  size : h.size = 16384
  len : h.ws.length ≤ 1163 + 503 * j
  last : h.last ≤ 154 + j
theorem St.below {w X X' : World} {P j : Nat} {F : Foot} {h : Hp} (S : St w P X F h j) (hb : Below X.heap.size X X') : St w P X' F h j :=
  ⟨S.at_.below hb, S.p, S.new, S.old.trans (hb.mono S.old.size), S.sc, S.size, S.len, S.last⟩
theorem only_new {w X X' : World} {l : List Nat} (hb : Below w.heap.size w X) (hn : ∀ g ∈ l, w.heap.size ≤ g) (ho : Only l X X') : Below w.heap.size w X' :=
  hb.trans (ho.belowB hb.size hn)
theorem St.step {w X X' : World} {P j j' : Nat} {F F' : Foot} {h h' : Hp} (S : St w P X F h j) (st : Step X F X' F' h') (sc : SC h') (e1 : h'.size = 16384) (e2 : h'.ws.length ≤ 1163 + 503 * j') (e3 : h'.last ≤ 154 + j') : St w P X' F' h' j' := by
  obtain ⟨a, b, c⟩ := st
  refine ⟨a, b.p.trans S.p, fun g hg => ?_, only_new S.old S.new c, sc, e1, e2, e3⟩
  rcases b.mem g hg with e | e
  · exact S.new g e
  · exact Nat.le_trans S.old.size e
def MkRes (w : World) (P : Nat) (h : Hp) (j : Nat) (t : List Nat) (e : Ending) (X' : World) : Prop :=
  ∃ F' h' o, e = .returned (.tuple #[.int .u32 (o : Nat), .int .i64 1]) ∧ St w P X' F' h' (j + 1) ∧ Ext h h' ∧ Bs h' o (wd h'.rt 19) t ∧ o = newO h
theorem clsO_of {h : Hp} (s : SC h) : clsO h (wd h.rt 19) = true := by unfold clsO; rw [isF_isO s.cls]; simp
theorem make_ok {w X : World} {P j : Nat} {F : Foot} {h : Hp} (S : St w P X F h j) (hj : j ≤ 12) {t : List Nat} (hb : B8 t) (ht : t.length ≤ 2000) :
    ∃ o h', makeP h (wd h.rt 19) t = some (o, h') ∧ Ext h h' ∧ Bs h' o (wd h.rt 19) t ∧ o = newO h ∧ ∀ X' F', Step X F X' F' h' → St w P X' F' h' (j + 1) := by
  have hlen := S.len
  have hlast := S.last
  have hsz := S.size
  have hr : room h ((t.length + 3) / 4) = true := by
    unfold room
    rw [Bool.and_eq_true, decide_eq_true_eq, decide_eq_true_eq]
    exact ⟨by omega, by omega⟩
  obtain ⟨o, h', e⟩ := make_some (clsO_of S.sc) hr
  obtain ⟨x, b, rfl⟩ := bs_make S.at_.good hb (by omega) e
  refine ⟨_, h', e, x, b, rfl, fun X' F' st => S.step st (S.sc.ext x) (x.sz.trans hsz) ?_ ?_⟩
  · have e2 := packB_length t
    unfold makeP at e
    rw [clsO_of S.sc, hr] at e
    simp only [Bool.and_self, if_true, Option.some.injEq, Prod.mk.injEq] at e
    rw [← e.2, addO_len, e2]
    omega
  · unfold makeP at e
    rw [clsO_of S.sc, hr] at e
    simp only [Bool.and_self, if_true, Option.some.injEq, Prod.mk.injEq] at e
    rw [← e.2]
    show h.last + 1 ≤ _
    omega
theorem MkRes.of {w X X' : World} {P j s : Nat} {F : Foot} {h h' : Hp} {t : List Nat} (hx : Ext h h') (hb : Bs h' s (wd h.rt 19) t) (hs : s = newO h) (hst : ∀ X' F', Step X F X' F' h' → St w P X' F' h' (j + 1)) {e : Ending} (he : e = .returned (.tuple #[.int .u32 (s : Nat), .int .i64 1])) (hm : Moved X F X' h') : MkRes w P h j t e X' := by
  obtain ⟨F', st⟩ := hm
  exact ⟨F', h', s, he, hst _ _ st, hx, by rw [hx.rt]; exact hb, hs⟩
theorem tab_objE {m : Nat} {f : FuncId} {n : Nat} (hm : ((n : Int), entV (m, .func f, #[], #[])) ∈ objE ++ txtE) (X : World) : Calls Tryz.prog 25 #[] X fun e X' => ∃ b t, e = .returned (.map (some b)) ∧ OwnM X X' b t ∧ t.map (·.1) = upK 5 ∧ ((n : Int), entV (m, .func f, #[], #[])) ∈ t := by
  refine (tab_all X).mono ?_
  rintro e X' ⟨b, a, c, r, rfl, O, k, E, hx⟩
  exact ⟨b, _, rfl, O, k, List.mem_append_right _ (hx _ hm)⟩
section
variable {w X : World} {P j : Nat} {F : Foot} {h : Hp}
theorem bs_lt {o c : Nat} {t : List Nat} (k : Limb.Good h) (b : Bs h o c t) : o < 4294967296 := isO_lt k b.is
theorem row_args (X : World) (l : List Nat) (h0 : 0 < l.length) : ∃ V, V = X.alloc (.cells (nums .u32 l).toArray 30) ∧ ArgsAt V (some ⟨X.heap.size, 0, none⟩) l ∧ Below X.heap.size X V := by
  obtain ⟨V, hV, r, hb, -⟩ := alloc_row X 30 (nums .u32 l)
  exact ⟨V, hV, .inr ⟨_, rfl, r, h0⟩, hb⟩
theorem args_new (H : HeapAt X F h) : ∀ ga, (some ⟨X.heap.size, 0, none⟩ : Option Addr) = some ⟨ga, 0, none⟩ → ga ∉ F.l := fun ga e hm => by
  simp only [Option.some.injEq, Addr.mk.injEq, and_true] at e
  have := H.lt ga hm
  omega
theorem d_52 (S : St w P X F h j) (hj : j ≤ 12) {s : Nat} {t : List Nat} (b : Bs h s (wd h.rt 19) t) (ht : t.length ≤ 2000) :
    Calls Tryz.prog 8 #[.pointer (some ⟨P, 0, none⟩), .int .i64 52, .int .u32 s, .slice none 0 0] X (MkRes w P h j t) := by
  obtain ⟨o, h', e, hx, hb, ho, hst⟩ := make_ok S hj b.b8 ht
  have := prim_dataO S.at_ 52 s [] (ao := none) (.inl ⟨rfl, rfl⟩) (fun _ e => by cases e) (by decide) (by decide) (by decide) (fun k hk => by
    obtain rfl : k = 0 := by simpa using hk
    exact ⟨bs_lt S.at_.good b, .inr b.is⟩) (f := 121) (s := o) (h' := h') (tab_objE (by simp [objE, txtE])) ⟨enters_of Tryz.func121 (by kernel_rfl) rfl, fun Y p ao HY R A hp h5 _ => prim_copied HY S.sc R hp h5 b (by omega) e⟩
  rw [S.p] at this
  exact this.mono fun e X' ⟨he, hm⟩ => MkRes.of hx hb ho hst he hm
theorem d_54 (S : St w P X F h j) (hj : j ≤ 12) {s q1 q2 : Nat} {t : List Nat} (b : Bs h s (wd h.rt 19) t) (ht : t.length ≤ 2000) (hq1 : q1 % 2 = 1 ∧ q1 < 4294967296) (hq2 : q2 % 2 = 1 ∧ q2 < 4294967296) (hw : withinB (valueO q1) (valueO q2) t.length = true) :
    Calls Tryz.prog 8 #[.pointer (some ⟨P, 0, none⟩), .int .i64 54, .int .u32 s, .slice (some ⟨X.heap.size, 0, none⟩) 2 2] (X.alloc (.cells #[.int .u32 (q1 : Nat), .int .u32 (q2 : Nat)] 30)) (MkRes w P h j (subL t (valueO q1) (valueO q2))) := by
  have hl : (subL t (valueO q1) (valueO q2)).length ≤ 2000 := by unfold subL; rw [List.length_take, List.length_drop]; omega
  have hb8 : B8 (subL t (valueO q1) (valueO q2)) := fun x hx => b.b8 x (List.mem_of_mem_drop (List.mem_of_mem_take hx))
  obtain ⟨V, hV, A, hbV⟩ := row_args X [q1, q2] (by simp)
  obtain ⟨o, h', e, hx, hb, ho, hst⟩ := make_ok (S.below hbV) hj hb8 hl
  have := prim_dataO (S.at_.below hbV) 54 s [q1, q2] A (args_new S.at_) (by simp) (by decide) (by decide) (fun k hk => by
    have : k = 0 ∨ k = 1 ∨ k = 2 := by simp at hk; omega
    rcases this with rfl | rfl | rfl
    · exact ⟨bs_lt S.at_.good b, .inr b.is⟩
    · exact ⟨hq1.2, .inl hq1.1⟩
    · exact ⟨hq2.2, .inl hq2.1⟩) (f := 127) (s := o) (h' := h') (tab_objE (by simp [objE, txtE])) ⟨enters_of Tryz.func127 (by kernel_rfl) rfl, fun Y p ao HY R A hp h5 hga => by
      obtain ⟨ga, rfl, ra, -⟩ := A.resolve_left (fun e => by cases e.1)
      exact (prim_part HY S.sc R ra hq1.1 hq1.2 hq2.1 hq2.2 hp h5 b (by omega) (fun _ => e)).mono fun e Y' h => h.1 hw⟩
  rw [S.p, hV] at this
  exact this.mono fun e X' ⟨he, hm⟩ => MkRes.of hx hb ho hst he (hV ▸ hm)
theorem d_53 (S : St w P X F h j) (hj : j ≤ 12) {s q : Nat} {t1 t2 : List Nat} (b1 : Bs h s (wd h.rt 19) t1) (b2 : Bs h q (wd h.rt 19) t2) (ht : t1.length + t2.length ≤ 2000) :
    Calls Tryz.prog 8 #[.pointer (some ⟨P, 0, none⟩), .int .i64 53, .int .u32 s, .slice (some ⟨X.heap.size, 0, none⟩) 1 1] (X.alloc (.cells #[.int .u32 (q : Nat)] 30)) (MkRes w P h j (t1 ++ t2)) := by
  obtain ⟨V, hV, A, hbV⟩ := row_args X [q] (by simp)
  obtain ⟨o, h', e, hx, hb, ho, hst⟩ := make_ok (S.below hbV) hj (t := t1 ++ t2) (fun x hx => by rcases List.mem_append.1 hx with hx | hx; exact b1.b8 x hx; exact b2.b8 x hx) (by rw [List.length_append]; exact ht)
  have := prim_dataO (S.at_.below hbV) 53 s [q] A (args_new S.at_) (by simp) (by decide) (by decide) (fun k hk => by
    have : k = 0 ∨ k = 1 := by simp at hk; omega
    rcases this with rfl | rfl
    · exact ⟨bs_lt S.at_.good b1, .inr b1.is⟩
    · exact ⟨bs_lt S.at_.good b2, .inr b2.is⟩) (f := 126) (s := o) (h' := h') (tab_objE (by simp [objE, txtE])) ⟨enters_of Tryz.func126 (by kernel_rfl) rfl, fun Y p ao HY R A hp h5 hga => by
      obtain ⟨ga, rfl, ra, -⟩ := A.resolve_left (fun e => by cases e.1)
      exact prim_joined HY S.sc R ra hp h5 b1 b2 (by omega) e⟩
  rw [S.p, hV] at this
  exact this.mono fun e X' ⟨he, hm⟩ => MkRes.of hx hb ho hst he (hV ▸ hm)
theorem d_55 (S : St w P X F h j) {s q c : Nat} {t : List Nat} (b1 : Bs h s c t) (b2 : Bs h q c t) :
    Calls Tryz.prog 8 #[.pointer (some ⟨P, 0, none⟩), .int .i64 55, .int .u32 s, .slice (some ⟨X.heap.size, 0, none⟩) 1 1] (X.alloc (.cells #[.int .u32 (q : Nat)] 30)) fun e X' => e = .returned (.tuple #[.int .u32 (wd h.rt 1 : Nat), .int .i64 1]) ∧ ∃ F', St w P X' F' h j := by
  obtain ⟨V, hV, A, hbV⟩ := row_args X [q] (by simp)
  have := prim_dataO (S.at_.below hbV) 55 s [q] A (args_new S.at_) (by simp) (by decide) (by decide) (fun k hk => by
    have : k = 0 ∨ k = 1 := by simp at hk; omega
    rcases this with rfl | rfl
    · exact ⟨bs_lt S.at_.good b1, .inr b1.is⟩
    · exact ⟨bs_lt S.at_.good b2, .inr b2.is⟩) (f := 128) (s := wd h.rt 1) (h' := h) (tab_objE (by simp [objE, txtE])) ⟨enters_of Tryz.func128 (by kernel_rfl) rfl, fun Y p ao HY R A hp h5 hga => by
      obtain ⟨ga, rfl, ra, -⟩ := A.resolve_left (fun e => by cases e.1)
      exact prim_equal HY R ra hp h5 b1 b2⟩
  rw [S.p, hV] at this
  exact this.mono fun e X' ⟨he, F', hm⟩ => ⟨he, F', (hV ▸ S.below hbV).step hm S.sc S.size S.len S.last⟩
theorem d_43 (S : St w P X F h j) {s q vb : Nat} {t : List Nat} (b : Bs h s (wd h.rt 19) t) (ht : t.length ≤ 2000) (h0 : 0 < t.length) (hq : q % 2 = 1 ∧ q < 4294967296) (hv : valueO q = (vb : Nat)) (hvb : vb < 256) :
    Calls Tryz.prog 8 #[.pointer (some ⟨P, 0, none⟩), .int .i64 43, .int .u32 s, .slice (some ⟨X.heap.size, 0, none⟩) 2 2] (X.alloc (.cells #[.int .u32 3, .int .u32 (q : Nat)] 30)) fun e X' => e = .returned (.tuple #[.int .u32 (q : Nat), .int .i64 1]) ∧ ∃ F', HeapAt X' F' (setB h s 0 vb) ∧ F'.p = P ∧ Below w.heap.size w X' := by
  obtain ⟨V, hV, A, hbV⟩ := row_args X [3, q] (by simp)
  have := prim_dataO (S.at_.below hbV) 43 s [3, q] A (args_new S.at_) (by simp) (by decide) (by decide) (fun k hk => by
    have : k = 0 ∨ k = 1 ∨ k = 2 := by simp at hk; omega
    rcases this with rfl | rfl | rfl
    · exact ⟨bs_lt S.at_.good b, .inr b.is⟩
    · exact ⟨show (3 : Nat) < 4294967296 by decide, .inl (show (3 : Nat) % 2 = 1 by decide)⟩
    · exact ⟨hq.2, .inl hq.1⟩) (f := 105) (s := q) (h' := setB h s 0 vb) (tab_objE (by simp [objE, txtE])) ⟨enters_of Tryz.func105 (by kernel_rfl) rfl, fun Y p ao HY R A hp h5 hga => by
      obtain ⟨ga, rfl, ra, -⟩ := A.resolve_left (fun e => by cases e.1)
      exact prim_atPut HY S.sc R ra hq.1 hq.2 hv hvb (hga _ rfl) hp h5 b (by omega) h0⟩
  rw [S.p, hV] at this
  exact this.mono fun e X' ⟨he, F', a, b, c⟩ => ⟨he, F', a, b.p.trans S.p, only_new (hV ▸ S.below hbV).old S.new c⟩
end
end Go.Proofs.YteiikhcadjdkcaaGreatDoor
namespace Go.Proofs.YteiikhcadjdkcaaGreatDoor
open Go Go.RowKit Limb
section
variable {F : Foot} {h : Hp}
set_option maxHeartbeats 1600000 in
set_option maxRecDepth 100000 in
theorem kernel_setglobal_fn (K : Limb.Ker h) (S : ByteArray) (hS : S.size ≤ 262140) (h0 : 0 < S.size) (v : Nat) (hv : isO h v = true) (a b c d : Nat) (X : World) (HX : HeapAt X F h) (ra : Row X a 23 [.pointer (some ⟨F.p, 0, none⟩)]) (rb : Row X b 9 [.string S]) (v0 : Value) (rc : Row X c 30 [v0]) (rd : Row X d 30 [.int .u32 v]) (ha : a ∉ F.l) (hc : c ∉ F.l) (hd : d ∉ F.l) (hc5 : 5 ≤ c) (hac : a ≠ c) (hdc : d ≠ c)
    (k : Nat) (h1 : Hp) (hp1 : internP h (tx S) = some (k, h1)) (o : Nat) (h2 : Hp) (hp2 : allocP h1 (wd h1.rt 23) 1 2 = some (o, h2)) (h3 : Hp) (hp3 : putL (Limb.putF (Limb.putF h2 o 0 k) o 1 v) 4 o = some h3) :
    Calls Tryz.prog 66 #[.pointer (some ⟨a, 0, none⟩), .pointer (some ⟨b, 0, none⟩), .pointer (some ⟨c, 0, none⟩), .pointer (some ⟨d, 0, none⟩)] X fun e X' => e = .returned (.int .i64 0) ∧ ∃ F', StepC [c] X F X' F' h3 ∧ Row X' c 30 [.int .u32 o] := by
  obtain ⟨g1, i1⟩ := grow_intern HX.good (tx_b8 S) (by rw [tx_length]; exact hS) hp1
  obtain ⟨g2, i2⟩ := grow_alloc g1.good (by decide) (by decide) (by decide) hp2
  have kk := isF_isO i1
  have g3 := grow_put g2.good (i := 0) (isF_le i2 (by decide)) (isO_lt g1.good kk)
  have vO := (g1.trans g2).isO hv
  have vlt := isO_lt HX.good hv
  have g4 := grow_put g3.good (i := 1) (v := v) (g3.isF _ _ _ i2) vlt
  have oF := isF_isO (g4.isF _ _ _ (g3.isF _ _ _ i2))
  have olt := isO_lt g4.good oF
  have HIn := Lib.hid (kernel_intern HX K S hS h0 k h1 hp1)
  have HR := Lib.hid (fun V F1 (H1 : HeapAt V F1 h1) (hp : F1.p = F.p) => show Calls Tryz.prog 16 #[.pointer (some ⟨F.p, 0, none⟩), .int .i64 23] V fun e w' => e = .returned (.int .u32 (wd h1.rt 23 : Nat)) ∧ Below V.heap.size V w' from by rw [← hp]; exact (kernel_root H1 23 (by decide)).mono fun e w' ⟨x, y⟩ => ⟨x, by rw [← y]; exact Below.refl _ _⟩)
  have HAl := Lib.hid (fun V F1 (H1 : HeapAt V F1 h1) (hp : F1.p = F.p) => show Calls Tryz.prog 31 #[.pointer (some ⟨F.p, 0, none⟩), .int .u32 (wd h1.rt 23 : Nat), .int .i64 1, .int .i64 2] V fun e w' => e = .returned (.tuple #[.int .u32 o, .int .i64 0]) ∧ Moved V F1 w' h2 from by rw [← hp]; exact heap_Alloc H1 (wd h1.rt 23) 1 2 o h2 (by decide) (by decide) (by decide) hp2)
  have HP0 := Lib.hid (fun V F1 (H1 : HeapAt V F1 h2) (hp : F1.p = F.p) => show Calls Tryz.prog 37 #[.pointer (some ⟨F.p, 0, none⟩), .int .u32 o, .int .i64 0, .int .u32 k] V fun e w' => e = .returned (.int .i64 0) ∧ Step V F1 w' F1 (Limb.putF h2 o 0 k) from by rw [← hp]; exact heap_putF H1 (i := 0) (isF_le i2 (by decide)) (by decide) (g2.val (isO_val kk)) (isO_lt g1.good kk))
  have HP1 := Lib.hid (fun V F1 (H1 : HeapAt V F1 (Limb.putF h2 o 0 k)) (hp : F1.p = F.p) => show Calls Tryz.prog 37 #[.pointer (some ⟨F.p, 0, none⟩), .int .u32 o, .int .i64 1, .int .u32 v] V fun e w' => e = .returned (.int .i64 0) ∧ Step V F1 w' F1 (Limb.putF (Limb.putF h2 o 0 k) o 1 v) from by rw [← hp]; exact heap_putF H1 (i := 1) (g3.isF _ _ _ i2) (by decide) (g3.val (isO_val vO)) vlt)
  have HPt := Lib.hid (fun V F1 (H1 : HeapAt V F1 (Limb.putF (Limb.putF h2 o 0 k) o 1 v)) (hp : F1.p = F.p) => show Calls Tryz.prog 67 #[.pointer (some ⟨F.p, 0, none⟩), .int .i64 4, .int .u32 o] V fun e w' => e = .returned (.int .i64 0) ∧ Step V F1 w' F1 h3 from by rw [← hp]; exact kernel_put H1 4 (by decide) o olt (isO_val oF) h3 hp3)
  have c0 := ra.cell_at 0
  have c1 := rb.cell_at 0
  simp only [List.getElem?_cons_zero] at c0 c1
  have HT : StepC [c] X F X F h := StepC.refl HX
  have RA := Lib.hid (fun Y F1 (hs : ∃ hh, StepC [c] X F Y F1 hh) => show Row Y a 23 [.pointer (some ⟨F.p, 0, none⟩)] from hs.elim fun _ x => x.row ra ha (by simp; exact hac))
  have RD := Lib.hid (fun Y F1 (hs : ∃ hh, StepC [c] X F Y F1 hh) => show Row Y d 30 [.int .u32 v] from hs.elim fun _ x => x.row rd hd (by simp; exact hdc))
  have RC := Lib.hid rc
  have HC := Lib.hid (show c ∉ F.l ∧ 5 ≤ c ∧ c < X.heap.size from ⟨hc, hc5, rc.lt⟩)
  clear HX rb rc rd hd hdc hc hc5 hac hp1 hp2 hp3 g1 i1 g2 i2 kk g3 vO vlt g4 oF olt K hv
  go_enter Tryz.func66, Tryz.ntmps66
  go_wp2_with fail
  refine (HIn.out).mono ?_
  rintro e X1 ⟨rfl, F1, hSt⟩
  (try dsimp only)
  have hT := HT.step hSt
  have hp1 : F1.p = F.p := hT.2.1.p
  have hX := RA.out _ _ ⟨_, hT⟩
  have RC1 := Lib.hid (show Row X1 c 30 [v0] from hSt.beside RC.out HC.out.1)
  have HTT := Lib.hid hT
  clear HT hSt hT HIn c0 c1 RC ra ha
  go_wp2_with fail
  replace hX : Row X1.drew a 23 [.pointer (some ⟨F.p, 0, none⟩)] := hX
  have hT := HTT.out.below (Below.refl _ X1).drew
  have rc1 : Row X1.drew c 30 [v0] := RC1.out
  clear HTT RC1
  refine wp_region_held (S := fun Y => Row Y a 23 [.pointer (some ⟨F.p, 0, none⟩)]) (by kernel_rfl) ?_
  refine wpAnyH_take_at (i := 0) (v := .pointer (some ⟨F.p, 0, none⟩)) 18 rfl rfl (by kernel_rfl) (by kernel_rfl) (by kernel_rfl) (fun _ _ _ h => h) (.inl ⟨rfl, fun X hX => by have c0 := hX.cell_at 0; simp only [List.getElem?_cons_zero] at c0; go_simp⟩) hX ?_
  simp only [Act.put, List.setIfInBounds_toArray, List.set_cons_zero, List.set_cons_succ]
  refine wpAnyH_take_at (i := 1) (v := .pointer (some ⟨F.p, 0, none⟩)) 19 rfl rfl (by kernel_rfl) (by kernel_rfl) (by kernel_rfl) (fun _ _ _ h => h) (.inl ⟨rfl, fun X hX => by have c0 := hX.cell_at 0; simp only [List.getElem?_cons_zero] at c0; go_simp⟩) hX ?_
  simp only [Act.put, List.setIfInBounds_toArray, List.set_cons_zero, List.set_cons_succ]
  refine wpAnyH_all (rs := [2]) (by kernel_rfl) (by decide) (fun i hi => ?_)
  rw [List.mem_singleton] at hi
  subst hi
  unfold wpOp
  go_simp
  refine .inl ((HR.out _ _ hT.1 hp1).mono ?_)
  rintro e X1 ⟨rfl, hb⟩
  replace hX := hX.below hb hX.lt
  replace hT := hT.below hb
  replace rc1 := rc1.below hb rc1.lt
  clear hb
  refine ⟨hX, ?_⟩
  refine wpAnyH_all (rs := [3]) (by kernel_rfl) (by decide) (fun i hi => ?_)
  rw [List.mem_singleton] at hi
  subst hi
  unfold wpOp
  go_simp
  refine .inl ((HAl.out _ _ hT.1 hp1).mono ?_)
  rintro e X2 ⟨rfl, F2, hMv⟩
  have hcF1 := hT.aside HC.out.1 HC.out.2.2
  replace rc1 := hMv.beside rc1 hcF1
  replace hT := hT.step hMv
  replace hX := RA.out _ _ ⟨_, hT⟩
  clear hMv hcF1
  refine ⟨hX, ?_⟩
  refine wpAnyH_take_at (i := 4) (v := .tuple #[.int .u32 o, .int .i64 0]) 17 rfl rfl (by kernel_rfl) (by kernel_rfl) (by kernel_rfl) (fun _ _ _ h => h) (.inl ⟨rfl, fun X hX => by go_simp⟩) hX ?_
  simp only [Act.put, List.setIfInBounds_toArray, List.set_cons_zero, List.set_cons_succ]
  refine wpAnyH_take_at (i := 5) (v := .int .u32 o) 22 rfl rfl (by kernel_rfl) (by kernel_rfl) (by kernel_rfl) (fun _ _ _ h => h) (.inl ⟨rfl, fun X hX => by go_simp⟩) hX ?_
  simp only [Act.put, List.setIfInBounds_toArray, List.set_cons_zero, List.set_cons_succ]
  refine wpAnyH_take_at (i := 6) (v := .int .i64 0) 23 rfl rfl (by kernel_rfl) (by kernel_rfl) (by kernel_rfl) (fun _ _ _ h => h) (.inl ⟨rfl, fun X hX => by go_simp⟩) hX ?_
  simp only [Act.put, List.setIfInBounds_toArray, List.set_cons_zero, List.set_cons_succ]
  refine wpAnyH_take_at (i := 7) (v := .int .u32 o) 7 rfl rfl (by kernel_rfl) (by kernel_rfl) (by kernel_rfl) (fun _ _ _ h => h) (.inl ⟨rfl, fun X hX => by go_simp⟩) hX ?_
  simp only [Act.put, List.setIfInBounds_toArray, List.set_cons_zero, List.set_cons_succ]
  refine wpAnyH_take_at (i := 8) (v := .int .i64 0) 6 rfl rfl (by kernel_rfl) (by kernel_rfl) (by kernel_rfl) (fun _ _ _ h => h) (.inl ⟨rfl, fun X hX => by go_simp⟩) hX ?_
  simp only [Act.put, List.setIfInBounds_toArray, List.set_cons_zero, List.set_cons_succ]
  refine wpAnyH_done (by kernel_rfl) ?_ _
  have cc := rc1.cell_at 0
  have zc := rc1.free 0
  simp only [List.getElem?_cons_zero] at cc
  have hcF2 := hT.aside HC.out.1 HC.out.2.2
  have hTZ := hT.store (i := 0) (.int .u32 o) (.inl (by simp : c ∈ [c])) hcF2 HC.out.2.1
  have rcZ : Row (X2.setCell ⟨c, 0, none⟩ (.int .u32 o)) c 30 [.int .u32 o] := rc1.store_any 0 _
  obtain ⟨Z, hZ⟩ : ∃ Z, Z = X2.setCell ⟨c, 0, none⟩ (.int .u32 o) := ⟨_, rfl⟩
  rw [← hZ] at hTZ rcZ
  have HZ := Lib.hid hZ
  have hp2 : F2.p = F.p := hTZ.2.1.p
  have hP0 := HP0.out _ _ hTZ.1 hp2
  have HP0' := Lib.hid hP0
  have hX2 := RA.out _ _ ⟨_, hTZ⟩
  have c0 := hX2.cell_at 0
  simp only [List.getElem?_cons_zero] at c0
  rw [hZ] at c0
  have HTZ := Lib.hid hTZ
  have RCZ := Lib.hid rcZ
  clear hX hX2 hT rc1 hTZ rcZ hZ hP0 HP0 HR HAl hp1 hcF2
  go_wp2_with fail
  rw [← HZ.out]
  refine (HP0'.out).mono ?_
  rintro e Y1 ⟨rfl, hSt⟩
  (try dsimp only)
  have hT := HTZ.out.step hSt
  have rc2 := hSt.beside RCZ.out (HTZ.out.aside HC.out.1 HC.out.2.2)
  have hP1 := HP1.out _ _ hT.1 hp2
  have HP1' := Lib.hid hP1
  have hX2 := RA.out _ _ ⟨_, hT⟩
  have c0 := hX2.cell_at 0
  have hX3 := RD.out _ _ ⟨_, hT⟩
  have c3 := hX3.cell_at 0
  simp only [List.getElem?_cons_zero] at c0 c3
  clear cc zc HZ
  have HT1 := Lib.hid hT
  have RC2 := Lib.hid rc2
  clear HTZ RCZ hSt hT rc2 hP1 HP1 HP0' hX2 hX3
  go_wp2_with fail
  refine (HP1'.out).mono ?_
  rintro e Y2 ⟨rfl, hSt⟩
  (try dsimp only)
  have hT := HT1.out.step hSt
  have rc2 := hSt.beside RC2.out (HT1.out.aside HC.out.1 HC.out.2.2)
  have hP2 := HPt.out _ _ hT.1 hp2
  have HP2' := Lib.hid hP2
  have hX2 := RA.out _ _ ⟨_, hT⟩
  have c0 := hX2.cell_at 0
  simp only [List.getElem?_cons_zero] at c0
  have HT2 := Lib.hid hT
  have RC3 := Lib.hid rc2
  clear HT1 RC2 hSt hT rc2 hP2 HPt HP1' hX2 c3
  go_wp2_with fail
  refine (HP2'.out).mono ?_
  rintro e Y3 ⟨rfl, hSt⟩
  (try dsimp only)
  have hfin : ∃ F', StepC [c] X F Y3 F' h3 ∧ Row Y3 c 30 [.int .u32 o] := ⟨_, HT2.out.step hSt, hSt.beside RC3.out (HT2.out.aside HC.out.1 HC.out.2.2)⟩
  have HFin := Lib.hid hfin
  clear hSt hfin HT2 RC3 RA RD HC c0
  go_wp2_with fail
  go_ret
  exact ⟨rfl, HFin.out⟩
end
end Go.Proofs.YteiikhcadjdkcaaGreatDoor

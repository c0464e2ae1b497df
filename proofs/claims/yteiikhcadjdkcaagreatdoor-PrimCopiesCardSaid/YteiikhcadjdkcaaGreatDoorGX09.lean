/- What a boot's walk asks of the heap behind the classes. The walks of package oop's headers: may, pack, Pack, Unpack. The walk of SetBytes of package big's integers. A byte of a word written: the program's &^, << and | as arithmetic. -/
import Derived.Test.YteiikhcadjdkcaaGreatDoorGX08
import Derived.Test.YteiikhcadjdkcaaGreatDoorGX02
import Derived.Laws.BitsAllLaws
set_option linter.unusedVariables false
set_option linter.unusedSimpArgs false
namespace Go.Proofs.YteiikhcadjdkcaaGreatDoor.Limb
def qsteps2 (n : Nat) : Bool :=
  match (qfirstAll first7 (pk (emptyH n))).bind fun x => (qnilR [5, 7, 9] x).bind fun x => (qpairs tenOn x).bind fun y => (qwireAll y.1 0 plans y.2).bind fun z => (qclsAll bareCls z).map fun p => (y.1, p) with
  | none => false
  | some (ms, p) => okPk p ms
theorem steps2_of {n : Nat} (h1 : 64 ≤ n) (h2 : n ≤ 1048576) {a b hE : Hp} {ms : List Nat} (s : Steps n a b ms hE) (hq : qsteps2 n = true) : Paired (clsAll bareCls (wireAll ms 0 plans b)) ms := by
  have k0 := good_empty h1 h2
  unfold qsteps2 at hq
  split at hq
  · cases hq
  · rename_i ms2 p hp
    obtain ⟨p1, y1, hp⟩ := Option.bind_eq_some_iff.1 hp
    obtain ⟨p2, y2, hp⟩ := Option.bind_eq_some_iff.1 hp
    obtain ⟨⟨ms3, p3⟩, y3, hp⟩ := Option.bind_eq_some_iff.1 hp
    obtain ⟨p4, y4, hp⟩ := Option.bind_eq_some_iff.1 hp
    obtain ⟨p5, y5, hp⟩ := Option.map_eq_some_iff.1 hp
    rw [Prod.mk.injEq] at hp
    obtain ⟨rfl, rfl⟩ := hp
    obtain ⟨hA, x1, rfl, kA⟩ := up_firstAll first7 _ k0 p1 y1
    obtain rfl : hA = a := Option.some.inj (x1.symm.trans s.first)
    obtain ⟨hN, z1, rfl, kN⟩ := up_nilR [5, 7, 9] hA kA p2 y2
    obtain rfl := Option.some.inj z1
    obtain ⟨hP, z2, rfl, kP⟩ := up_pairs tenOn _ kN ms3 p3 y3
    have z3 := Option.some.inj (z2.symm.trans s.pairs)
    rw [Prod.mk.injEq] at z3
    obtain ⟨rfl, rfl⟩ := z3
    obtain ⟨hW, w1, rfl, kW⟩ := up_wireAll ms3 plans 0 hP kP p4 y4
    obtain rfl := Option.some.inj w1
    obtain ⟨hC, c1, rfl, kC⟩ := up_clsAll bareCls _ kW p5 y5
    obtain rfl := Option.some.inj c1
    exact paired_of kC hq
end Go.Proofs.YteiikhcadjdkcaaGreatDoor.Limb
namespace Go.Proofs.YteiikhcadjdkcaaGreatDoor
open Go Go.RowKit Limb
def hdV (h : Hd) : Value := .agg #[.int .i64 h.size, .int .i64 h.fmt, .int .i64 h.spare, .int .u32 h.cls, .int .u32 h.ser]
def w3V (a b c : Nat) : Value := .agg #[.int .u32 a, .int .u32 b, .int .u32 c]
def Spares (w : World) : Prop := 5 ≤ w.heap.size ∧ ∀ i, i < 5 → w.cell? ⟨0, i, none⟩ = some (.bool (decide (i = 2)))
theorem Spares.below {B : Nat} {w w' : World} (h : Spares w) (hb : Below B w w') (hB : 5 ≤ B) : Spares w' :=
  ⟨Nat.le_trans h.1 hb.size, fun i hi => by rw [hb.cell (by show 0 < B; omega)]; exact h.2 i hi⟩
theorem Spares.only {ps : List Nat} {w w' : World} (h : Spares w) (ho : Only ps w w') (hp : 0 ∉ ps) : Spares w' :=
  ⟨Nat.le_trans h.1 ho.size, fun i hi => by rw [← h.2 i hi]; exact World.cell?_of_block (ho.block 0 (by have := h.1; omega) hp)⟩
set_option maxHeartbeats 1600000 in
set_option maxRecDepth 1000000 in
theorem oop_may (w : World) (h : Hd) (k : h.Ok) (hs : Spares w) :
    Calls Tryz.prog 201 #[hdV h] w fun e w' => e = .returned (.bool true) ∧ Below w.heap.size w w' := by
  obtain ⟨sz, f, sp, c, s⟩ := h
  have h1 : sz ≤ 65535 := k.size
  have h2 : 1 ≤ f := k.f1
  have h3 : f ≤ 4 := k.f4
  have h4 : sp ≤ 3 := k.spare
  have h5 : sp = 0 ∨ (f = 2 ∧ 0 < sz) := k.sp
  unfold hdV
  simp only
  have d1 : decide ((sz : Int) < 0) = false := decide_eq_false (by omega)
  have d2 : decide ((65535 : Int) < (sz : Int)) = false := decide_eq_false (by omega)
  have d2' : decide (65535 < sz) = false := decide_eq_false (by omega)
  have d3 : decide ((f : Int) ≤ 0) = false := decide_eq_false (by omega)
  have d3' : decide (f ≤ 0) = false := decide_eq_false (by omega)
  have d3'' : decide (f = 0) = false := decide_eq_false (by omega)
  have d4 : decide ((5 : Int) ≤ (f : Int)) = false := decide_eq_false (by omega)
  have d4' : decide (5 ≤ f) = false := decide_eq_false (by omega)
  have d5 : decide ((sp : Int) < 0) = false := decide_eq_false (by omega)
  have d6 : decide ((3 : Int) < (sp : Int)) = false := decide_eq_false (by omega)
  have d6' : decide (3 < sp) = false := decide_eq_false (by omega)
  have hB : Below w.heap.size w (w.alloc (.cells #[.int .i64 sz, .int .i64 f, .int .i64 sp, .int .u32 c, .int .u32 s] 102)) := (Below.refl _ _).alloc (Nat.le_refl _) _
  rcases h5 with h5 | ⟨h5, h6⟩
  · subst h5
    clear k h1 h2 h3 h4 hs
    go_enter Tryz.func201, Tryz.ntmps201
    go_wp2_with fail
    go_ret
    exact ⟨rfl, hB⟩
  · subst h5
    by_cases h0 : sp = 0
    · subst h0
      clear k h1 h2 h3 h4 hs
      go_enter Tryz.func201, Tryz.ntmps201
      go_wp2_with fail
      go_ret
      exact ⟨rfl, hB⟩
    · have q : ((sp : Int) == 0) = false := by rw [beq_eq_false_iff_ne]; omega
      have d7 : decide ((0 : Int) < (sz : Int)) = true := decide_eq_true (by omega)
      have d7' : decide (0 < sz) = true := decide_eq_true h6
      have hc := hs.2 2 (by decide)
      simp only [decide_true] at hc
      have hl : 0 < w.heap.size := by have := hs.1; omega
      clear k h1 h2 h3 h4 hs h0 h6
      go_enter Tryz.func201, Tryz.ntmps201
      go_wp2_with fail
      go_ret
      exact ⟨rfl, hB⟩
theorem pack_bits {sz f sp : Nat} (h1 : sz ≤ 65535) (h3 : f ≤ 4) (h4 : sp ≤ 3) : bits .or .u32 (bits .or .u32 (sz : Int) ((f : Int) * 16777216)) ((sp : Int) * 134217728) = ((sz + f * 16777216 + sp * 134217728 : Nat) : Int) := by
  have e1 : (f : Int) * 16777216 = ((f * 16777216 : Nat) : Int) := by omega
  have e2 : (sp : Int) * 134217728 = ((sp * 134217728 : Nat) : Int) := by omega
  rw [e1, e2, u32_or_nat sz _ (by omega) (by omega), Nat.or_comm, nat_join 24 _ _ (by omega) (by omega), u32_or_nat _ _ (by omega) (by omega), Nat.or_comm, nat_join 27 _ _ (by omega) (by omega)]
  congr 1; omega
set_option maxHeartbeats 1600000 in
set_option maxRecDepth 1000000 in
theorem oop_pack0 (w : World) (h : Hd) (k : h.Ok) :
    Calls Tryz.prog 202 #[hdV h] w fun e w' => e = .returned (w3V h.w0 h.cls h.ser) ∧ Below w.heap.size w w' := by
  obtain ⟨sz, f, sp, c, s⟩ := h
  have h1 : sz ≤ 65535 := k.size
  have h2 : 1 ≤ f := k.f1
  have h3 : f ≤ 4 := k.f4
  have h4 : sp ≤ 3 := k.spare
  have HB := Lib.hid (pack_bits h1 h3 h4)
  unfold hdV
  simp only
  go_enter Tryz.func202, Tryz.ntmps202
  go_wp2_with fail
  rw [HB.out]
  refine bodyPost_ret (v := w3V (sz + f * 16777216 + sp * 134217728) c s) (by simp [results, Tryz.results202, go_sem, w3V]) rfl ⟨rfl, ?_⟩
  exact ((Below.refl _ _).alloc (Nat.le_refl _) _).alloc (by rw [World.size_alloc]; omega) _
theorem alloc_row (w : World) (t : TypeId) (cs : List Value) : ∃ W, W = w.alloc (.cells cs.toArray t) ∧ Row W w.heap.size t cs ∧ Below w.heap.size w W ∧ W.heap.size = w.heap.size + 1 :=
  ⟨_, rfl, by unfold Row; exact heap_alloc_new _ _, (Below.refl _ _).alloc (Nat.le_refl _) _, World.size_alloc _ _⟩
theorem Row.cells3 {w : World} {g : Nat} {e : TypeId} {a b c : Value} (h : Row w g e [a, b, c]) : w.cell? ⟨g, 0, none⟩ = some a ∧ w.cell? ⟨g, 1, none⟩ = some b ∧ w.cell? ⟨g, 2, none⟩ = some c :=
  ⟨h.cell_at 0, h.cell_at 1, h.cell_at 2⟩
theorem Row.cells5 {w : World} {g : Nat} {e : TypeId} {a b c d f : Value} (h : Row w g e [a, b, c, d, f]) : w.cell? ⟨g, 0, none⟩ = some a ∧ w.cell? ⟨g, 1, none⟩ = some b ∧ w.cell? ⟨g, 2, none⟩ = some c ∧ w.cell? ⟨g, 3, none⟩ = some d ∧ w.cell? ⟨g, 4, none⟩ = some f :=
  ⟨h.cell_at 0, h.cell_at 1, h.cell_at 2, h.cell_at 3, h.cell_at 4⟩
theorem since {P : Program} {f : FuncId} {args : Array Value} {U : World} {q : Ending → World → Prop} (h : ∀ X, Below U.heap.size U X → Calls P f args X fun e X' => q e X' ∧ Below X.heap.size X X') (X : World) (hx : Below U.heap.size U X) :
    Calls P f args X fun e X' => q e X' ∧ Below U.heap.size U X' := (h X hx).mono fun _ _ ⟨h1, h2⟩ => ⟨h1, hx.trans (h2.mono hx.size)⟩
set_option maxHeartbeats 1600000 in
set_option maxRecDepth 1000000 in
theorem oop_pack (w : World) (h : Hd) (k : h.Ok) (hs : Spares w) :
    Calls Tryz.prog 73 #[hdV h] w fun e w' => e = .returned (.tuple #[w3V h.w0 h.cls h.ser, .int .i64 0]) ∧ Below w.heap.size w w' := by
  obtain ⟨W, hW, r1, hb1, hz1⟩ := alloc_row w 102 [.int .i64 h.size, .int .i64 h.fmt, .int .i64 h.spare, .int .u32 h.cls, .int .u32 h.ser]
  obtain ⟨V, hV, r2, hb2, hz2⟩ := alloc_row W 122 [.int .u32 0, .int .u32 0, .int .u32 0]
  rw [hz1] at r2
  have hB : Below w.heap.size w V := hb1.trans (hb2.mono (by omega))
  replace r1 := r1.below hb2 r1.lt
  have HV := Lib.hid (show V = (w.alloc (.cells #[.int .i64 h.size, .int .i64 h.fmt, .int .i64 h.spare, .int .u32 h.cls, .int .u32 h.ser] 102)).alloc (.cells #[.int .u32 0, .int .u32 0, .int .u32 0] 122) by rw [hV, hW])
  have h5 : 5 ≤ w.heap.size := hs.1
  have HM := Lib.hid (fun X (hx : Below w.heap.size w X) => oop_may X h k (hs.below hx h5))
  have HP := Lib.hid (fun X => oop_pack0 X h k)
  have HH := Lib.hid (show hdV h = .agg #[.int .i64 h.size, .int .i64 h.fmt, .int .i64 h.spare, .int .u32 h.cls, .int .u32 h.ser] from rfl)
  rw [HH.out] at HM HP ⊢
  generalize h.size = sz at *
  generalize h.fmt = f at *
  generalize h.spare = sp at *
  obtain ⟨w0, hw0⟩ : ∃ x, x = h.w0 := ⟨_, rfl⟩
  rw [← hw0] at HP ⊢
  generalize h.cls = c at *
  generalize h.ser = s at *
  clear hV hW hz1 hz2 hb1 hb2 hs hw0 k HH
  obtain ⟨p0, p1, p2, p3, p4⟩ := r1.cells5
  go_enter Tryz.func73, Tryz.ntmps73
  go_wp2_with fail
  rw [← HV.out]
  go_wp2_with fail
  refine (HM.out V hB).mono ?_
  rintro e V1 ⟨rfl, hb⟩
  (try dsimp only)
  replace r1 := r1.below hb r1.lt
  replace r2 := r2.below hb r2.lt
  replace hB := hB.trans (hb.mono hB.size)
  clear hb p0 p1 p2 p3 p4
  obtain ⟨p0, p1, p2, p3, p4⟩ := r1.cells5
  go_wp2_with fail
  refine (HP.out V1).mono ?_
  rintro e V2 ⟨rfl, hb⟩
  (try dsimp only)
  replace r2 := r2.below hb r2.lt
  replace hB := hB.trans (hb.mono hB.size)
  clear hb p0 p1 p2 p3 p4 r1
  obtain ⟨q0, q1, q2⟩ := r2.cells3
  have z0 := r2.free 0
  have z1 := r2.free 1
  have z2 := r2.free 2
  unfold w3V
  go_wp2_with fail
  have rr := ((r2.store_any 0 (.int .u32 w0)).store_any 1 (.int .u32 c)).store_any 2 (.int .u32 s)
  obtain ⟨f0, f1, f2⟩ := Row.cells3 rr
  refine bodyPost_ret (v := .tuple #[.agg #[.int .u32 w0, .int .u32 c, .int .u32 s], .int .i64 0]) (by simp [results, Tryz.results73, go_sem, f0, f1, f2]) rfl ⟨rfl, ?_⟩
  exact below_store (below_store (below_store hB (by omega) _) (by omega) _) (by omega) _
end Go.Proofs.YteiikhcadjdkcaaGreatDoor
namespace Go.Proofs.YteiikhcadjdkcaaGreatDoor
open Go Go.RowKit Limb
theorem size8 (W : World) : (sizeOf 5).run Tryz.prog W = .ok 1 W := by kernel_rfl
theorem info8 : (Tryz.prog.info? 5).map (fun i => (i.zero, i.size, i.bytes)) = some (some (.int .u8 0), 1, 1) := by kernel_rfl
theorem row_index {P : Program} {t e : TypeId} (ht : P.underlying t = some (.slice e)) (hs : ∀ W, (sizeOf e).run P W = .ok 1 W) (g n cap : Nat) (k : IntKind) (i : Int) (d : Nat) (hi : i = d) (hd : d < n) (W : World) :
    (Instr.indexAt t (.slice (some ⟨g, 0, none⟩) n cap) (.int k i)).run P W = .ok (.pointer (some ⟨g, d, none⟩)) W := by
  subst hi
  simp [Instr.indexAt, run_underlying ht, asIntOf, hd, hs, Result.andThen, Addr.add]
  intro h; omega
end Go.Proofs.YteiikhcadjdkcaaGreatDoor
namespace Go.Proofs.YteiikhcadjdkcaaGreatDoor
open Go Go.RowKit Limb
theorem nat_hole (a s : Nat) (hs : s = 0 ∨ s = 8 ∨ s = 16 ∨ s = 24) (ha : a < 4294967296) : a &&& (4294967295 - 255 * 2 ^ s) = a - (a / 2 ^ s % 256) * 2 ^ s := by
  have key : a - (a / 2 ^ s % 256) * 2 ^ s = 2 ^ (s + 8) * (a / 2 ^ (s + 8)) + a % 2 ^ s := by
    rcases hs with rfl | rfl | rfl | rfl <;> simp only [Nat.reducePow, Nat.reduceAdd, Nat.pow_zero, Nat.div_one, Nat.mod_one] <;> omega
  rw [key]
  apply Nat.eq_of_testBit_eq
  intro i
  rw [Nat.testBit_and, Nat.testBit_two_pow_mul_add _ (Nat.lt_of_lt_of_le (Nat.mod_lt _ (Nat.two_pow_pos s)) (Nat.pow_le_pow_right (by decide) (by omega))), Nat.testBit_mod_two_pow, Nat.testBit_div_two_pow]
  by_cases h32 : i < 32
  · have hM : (4294967295 - 255 * 2 ^ s).testBit i = (decide (i < s) || decide (s + 8 ≤ i)) := by
      have all : ∀ j : Fin 32, (4294967295 - 255 * 2 ^ s).testBit j.val = (decide (j.val < s) || decide (s + 8 ≤ j.val)) := by
        rcases hs with rfl | rfl | rfl | rfl <;> decide +kernel
      exact all ⟨i, h32⟩
    rw [hM]
    by_cases h1 : i < s
    · rw [if_pos (by omega)]
      simp [h1]
    · by_cases h2 : s + 8 ≤ i
      · rw [if_neg (by omega)]
        simp [h2, show s + 8 + (i - (s + 8)) = i by omega]
      · rw [if_pos (by omega)]
        simp [h1, h2]
  · have hf : a.testBit i = false := Nat.testBit_lt_two_pow (Nat.lt_of_lt_of_le ha (show 2 ^ 32 ≤ 2 ^ i from Nat.pow_le_pow_right (by decide) (by omega)))
    rw [hf]
    rw [if_neg (by omega), show i - (s + 8) + (s + 8) = i by omega]
    simp [hf]
theorem andNot_byte (a s : Nat) (hs : s = 0 ∨ s = 8 ∨ s = 16 ∨ s = 24) (ha : a < 4294967296) : bits .andNot .u32 (a : Int) ((255 * 2 ^ s : Nat) : Int) = ((a - (a / 2 ^ s % 256) * 2 ^ s : Nat) : Int) := by
  have hm : 255 * 2 ^ s < 4294967296 := by rcases hs with rfl | rfl | rfl | rfl <;> decide
  show IntKind.u32.wrap ((BitVec.ofInt 32 (a : Int) &&& ~~~BitVec.ofInt 32 ((255 * 2 ^ s : Nat) : Int)).toNat : Int) = _
  rw [BitVec.toNat_and, BitVec.toNat_not, ofInt_u32 a ha, ofInt_u32 _ hm, show 2 ^ 32 - 1 - 255 * 2 ^ s = 4294967295 - 255 * 2 ^ s from rfl, nat_hole a s hs ha, IntKind.wrap_u32]
  omega
theorem nat_fill (a b s : Nat) (hs : s = 0 ∨ s = 8 ∨ s = 16 ∨ s = 24) (hb : b < 256) : (a - (a / 2 ^ s % 256) * 2 ^ s) ||| (b * 2 ^ s) = a - (a / 2 ^ s % 256) * 2 ^ s + b * 2 ^ s := by
  have key : a - (a / 2 ^ s % 256) * 2 ^ s = a / 2 ^ (s + 8) * 2 ^ (s + 8) + a % 2 ^ s := by
    rcases hs with rfl | rfl | rfl | rfl <;> simp only [Nat.reducePow, Nat.reduceAdd, Nat.pow_zero, Nat.div_one, Nat.mod_one] <;> omega
  have hlo : a % 2 ^ s < 2 ^ s := Nat.mod_lt _ (Nat.two_pow_pos s)
  have hpw : 2 ^ (s + 8) = 256 * 2 ^ s := by rw [Nat.pow_add]; omega
  have hle : b * 2 ^ s ≤ 255 * 2 ^ s := Nat.mul_le_mul_right _ (by omega)
  rw [key, ← nat_join (s + 8) _ (a % 2 ^ s) (Nat.mul_mod_left _ _) (by omega), Nat.or_assoc, Nat.or_comm (a % 2 ^ s), nat_join s _ _ (Nat.mul_mod_left _ _) hlo, nat_join (s + 8) _ _ (Nat.mul_mod_left _ _) (by omega), nat_join (s + 8) _ _ (Nat.mul_mod_left _ _) (by omega)]
  omega
theorem byte_word (a b s : Nat) (hs : s = 0 ∨ s = 8 ∨ s = 16 ∨ s = 24) (ha : a < 4294967296) (hb : b < 256) : bits .or .u32 (bits .andNot .u32 (a : Int) ((255 * 2 ^ s : Nat) : Int)) ((b * 2 ^ s : Nat) : Int) = ((byW a b (s / 8) : Nat) : Int) := by
  have h1 : b * 2 ^ s < 4294967296 := by
    have h2 : b * 2 ^ s ≤ 255 * 2 ^ s := Nat.mul_le_mul_right _ (by omega)
    have h3 : 255 * 2 ^ s < 4294967296 := by rcases hs with rfl | rfl | rfl | rfl <;> decide
    omega
  rw [andNot_byte a s hs ha, u32_or_nat _ _ (by omega) h1, nat_fill a b s hs hb]
  rcases hs with rfl | rfl | rfl | rfl
  · simp only [byW, Nat.pow_zero, Nat.div_one, Nat.mul_one, Nat.reduceDiv]
  · rfl
  · rfl
  · rfl
end Go.Proofs.YteiikhcadjdkcaaGreatDoor

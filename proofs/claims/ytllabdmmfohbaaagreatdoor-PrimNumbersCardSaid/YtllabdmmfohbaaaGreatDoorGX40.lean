/- The walk of package kernel's Array. The walk of package kernel's selectors. -/
import Derived.Test.YtllabdmmfohbaaaGreatDoorGX39
set_option linter.unusedVariables false
set_option linter.unusedSimpArgs false
namespace Go.Proofs.YtllabdmmfohbaaaGreatDoor
open Go Go.RowKit Limb
theorem drop_cons {l : List Nat} {k : Nat} (hk : k < l.length) : l.drop k = wd l k :: l.drop (k + 1) := by
  rw [wd_lt hk]; exact List.drop_eq_getElem_cons hk
section
variable {w : World} {F : Foot} {h : Hp}
set_option maxHeartbeats 1600000 in
set_option maxRecDepth 100000 in
theorem kernel_array (H : HeapAt w F h) (K : Limb.Ker h) (l : List Nat) (n c ge : Nat) (hn : n = l.length) (hn1 : n ≤ 65535) (sl : Sl w ge 30 n c (nums .u32 l)) (hge : ge ∉ F.l) (hl : ∀ x ∈ l, isO h x = true) (o : Nat) (h1 : Hp) (hp : allocP h (wd h.rt 20) 1 n = some (o, h1)) :
    Calls Tryz.prog 65 #[.pointer (some ⟨F.p, 0, none⟩), .slice (some ⟨ge, 0, none⟩) n c] w fun e w' => e = .returned (.tuple #[.int .u32 o, .int .i64 0]) ∧ Moved w F w' (putAll o 0 l h1) := by
  have HBa := Lib.hid (kernel_bare H (Ker.bare K))
  obtain ⟨g1, i1⟩ := grow_alloc H.good (by decide) (by decide) hn1 hp
  have hlw : ∀ k, k < n → isO h (wd l k) = true := fun k hk => by
    have hk' : k < l.length := by omega
    rw [wd_lt hk']; exact hl _ (List.getElem_mem hk')
  have HKd := Lib.hid (fun X k (hk : k < n) => show Calls Tryz.prog 24 #[.int .u32 (wd l k : Nat)] X fun e w' => e = .returned (.int .i64 2) ∧ X = w' from by
    have h4 := isO_iff.1 (hlw k hk)
    have h3 := oop_kind X (wd l k) (isO_lt H.good (hlw k hk))
    rw [kind_two.2 ⟨h4.1, h4.2.1⟩] at h3; exact h3)
  have HIs := Lib.hid (fun X (hb : Below w.heap.size w X) k (hk : k < n) => show Calls Tryz.prog 25 #[.pointer (some ⟨F.p, 0, none⟩), .int .u32 (wd l k : Nat)] X fun e w' => e = .returned (.bool true) ∧ X = w' from by
    have := heap_is (H.below hb) (wd l k) (isO_lt H.good (hlw k hk))
    rw [hlw k hk] at this; exact this)
  have HR := Lib.hid (fun X (hb : Below w.heap.size w X) => kernel_root (H.below hb) 20 (by decide))
  have HAl := Lib.hid (fun X (hb : Below w.heap.size w X) => show Calls Tryz.prog 31 #[.pointer (some ⟨F.p, 0, none⟩), .int .u32 (wd h.rt 20 : Nat), .int .i64 1, .int .i64 n] X fun e w' => e = .returned (.tuple #[.int .u32 o, .int .i64 0]) ∧ Moved w F w' h1 from
    (heap_Alloc (H.below hb) (wd h.rt 20) 1 n o h1 (by decide) (by decide) hn1 hp).mono fun e w' ⟨x, F', y⟩ => ⟨x, F', Step.of_below hb y⟩)
  have HIx := Lib.hid (fun W k (hk : k < n) => sl.index 53 Tryz.underlying53 size_oop W .i64 k hk)
  have HCx := Lib.hid (fun X (ho : Only F.l w X) k (hk : k < n) => show X.cell? ⟨ge, k, none⟩ = some (.int .u32 (wd l k : Nat)) from by
    rw [(sl.only ho hge).cell hk, nums_get (by omega)])
  have HPut := Lib.hid (fun X F' hk (HX : HeapAt X F' hk) (hF : F'.p = F.p) (gr : Limb.Grow h1 hk) k (hkn : k < n) => show Calls Tryz.prog 37 #[.pointer (some ⟨F.p, 0, none⟩), .int .u32 o, .int .i64 k, .int .u32 (wd l k : Nat)] X fun e w' => e = .returned (.int .i64 0) ∧ Step X F' w' F' (Limb.putF hk o k (wd l k)) ∧ Limb.Grow h1 (Limb.putF hk o k (wd l k)) from by
    have q1 := isF_le (gr.isF _ _ _ i1) (show k + 1 ≤ n by omega)
    have q2 := gr.isO (g1.isO (hlw k hkn))
    rw [← hF]
    exact (heap_putF HX q1 (by omega) (isO_val q2) (isO_lt HX.good q2)).mono fun e w' ⟨x, y⟩ => ⟨x, y, gr.trans (grow_put HX.good q1 (isO_lt HX.good q2))⟩)
  have HDr := Lib.hid (fun k (hk : k < n) => show l.drop k = wd l k :: l.drop (k + 1) from drop_cons (by omega))
  have HDn := Lib.hid (show l.drop n = [] from by rw [hn]; exact List.drop_length)
  have d9 : decide ((65535 : Int) < (n : Int)) = false := decide_eq_false (by omega)
  have d9' : decide (65535 < n) = false := decide_eq_false (by omega)
  have hG1 := g1.good
  obtain ⟨hE, hhE⟩ : ∃ hE, hE = putAll o 0 l h1 := ⟨_, rfl⟩
  rw [← hhE]
  have HE := Lib.hid hhE
  clear hhE hn hl hlw sl hp i1 g1 H K hge
  go_enter Tryz.func65, Tryz.ntmps65
  go_wp2_with fail
  refine (HBa.out).mono ?_
  rintro e V1 ⟨rfl, hB⟩
  (try dsimp only)
  clear HBa
  go_wp2_with fail
  go_loopw [16] (fun i wr => ∃ k : Nat, k ≤ n ∧ i = .int .i64 k ∧ Below w.heap.size w wr) (fun i _ => n - (RowKit.intOf i).toNat)
  case atStart => exact ⟨0, Nat.zero_le _, rfl, hB⟩
  case round =>
    clear hB
    obtain ⟨k, hk, rfl, hB⟩ := hrel
    by_cases h0 : k < n
    · have d1 : decide ((k : Int) < (n : Int)) = true := decide_eq_true (by omega)
      have d2 : decide (k < n) = true := decide_eq_true h0
      have ix := fun W => HIx.out W k h0
      have cx := HCx.out wr (Only.of_below hB) k h0
      have HK1 := Lib.hid (fun X => HKd.out X k h0)
      have HI1 := Lib.hid (HIs.out wr hB k h0)
      generalize wd l k = v at *
      go_wp2_with fail
      refine (HK1.out _).mono ?_
      rintro e V2 ⟨rfl, rfl⟩
      (try dsimp only)
      go_wp2_with fail
      refine (HI1.out).mono ?_
      rintro e V2 ⟨rfl, rfl⟩
      (try dsimp only)
      go_wp2_with fail
      go_roundw
      case rel => exact ⟨k + 1, h0, by simp, hB⟩
      case measure => simp [RowKit.intOf]; omega
    · obtain rfl : k = n := by omega
      have d1 : decide ((k : Int) < (k : Int)) = false := decide_eq_false (by omega)
      have d2 : decide (k < k) = false := decide_eq_false (by omega)
      have HR1 := Lib.hid (HR.out wr hB)
      have HA1 := Lib.hid (HAl.out wr hB)
      go_wp2_with fail
      refine (HR1.out).mono ?_
      rintro e V2 ⟨rfl, rfl⟩
      (try dsimp only)
      go_wp2_with fail
      refine (HA1.out).mono ?_
      rintro e V3 ⟨rfl, F1, hS⟩
      (try dsimp only)
      have HS := Lib.hid hS
      clear hS HR1 HA1 hB HR HAl HKd HIs
      go_wp2_with fail
      go_loopw [47] (fun i wr => ∃ (j : Nat) (F' : Foot) (hj : Hp), j ≤ k ∧ i = .int .i64 j ∧ Hid (Step w F wr F' hj) ∧ Hid (Limb.Grow h1 hj) ∧ Hid (putAll o j (l.drop j) hj = hE)) (fun i _ => k - (RowKit.intOf i).toNat)
      case atStart => exact ⟨0, F1, h1, Nat.zero_le _, rfl, HS, Lib.hid (Limb.Grow.refl hG1), Lib.hid HE.out.symm⟩
      case round =>
        clear HS HE
        obtain ⟨j, F', hj, hjn, rfl, HS, HG, HE⟩ := hrel
        by_cases h0 : j < k
        · have d3 : decide ((j : Int) < (k : Int)) = true := decide_eq_true (by omega)
          have d4 : decide (j < k) = true := decide_eq_true h0
          have ix := fun W => HIx.out W j h0
          have cx := HCx.out wr HS.out.2.2 j h0
          have HP1 := Lib.hid (HPut.out wr F' hj HS.out.1 HS.out.2.1.p HG.out j h0)
          have he := HE.out
          rw [HDr.out j h0] at he
          have HE2 := Lib.hid (show putAll o (j + 1) (l.drop (j + 1)) (Limb.putF hj o j (wd l j)) = hE from he)
          clear he HE
          generalize wd l j = v at *
          go_wp2_with fail
          refine (HP1.out).mono ?_
          rintro e V4 ⟨rfl, hS2, hG2⟩
          (try dsimp only)
          have HS2 := Lib.hid (HS.out.trans hS2)
          have HG2 := Lib.hid hG2
          clear hS2 hG2
          go_wp2_with fail
          go_roundw
          case rel => exact ⟨j + 1, F', _, h0, by simp, HS2, HG2, HE2⟩
          case measure => simp [RowKit.intOf]; omega
        · obtain rfl : j = k := by omega
          have he := HE.out
          rw [HDn.out] at he
          obtain rfl : hj = hE := he
          have HM := Lib.hid (show Moved w F wr hj from ⟨F', HS.out⟩)
          clear HE
          go_wp2_with fail
          go_ret2
          exact ⟨rfl, HM.out⟩
end
end Go.Proofs.YtllabdmmfohbaaaGreatDoor
namespace Go.Proofs.YtllabdmmfohbaaaGreatDoor
open Go Go.RowKit Limb
set_option maxHeartbeats 1600000 in
set_option maxRecDepth 1000000 in
theorem kernel_selectors (w : World) :
    Calls Tryz.prog 42 #[] w fun e w' => (∃ g, e = .returned (.slice (some ⟨g, 0, none⟩) 11 11) ∧ Row w' g 9 (sels.map sv)) ∧ Below w.heap.size w w' := by
  obtain ⟨W, hW, r0, hB, hz⟩ := alloc_row w 9 [.string ⟨#[100, 111, 101, 115, 78, 111, 116, 85, 110, 100, 101, 114, 115, 116, 97, 110, 100, 58]⟩, .string ⟨#[109, 117, 115, 116, 66, 101, 66, 111, 111, 108, 101, 97, 110]⟩, .string ⟨#[99, 97, 110, 110, 111, 116, 82, 101, 116, 117, 114, 110, 58]⟩, .string ⟨#[97, 98, 111, 117, 116, 84, 111, 82, 101, 116, 117, 114, 110, 58, 116, 104, 114, 111, 117, 103, 104, 58]⟩, .string ⟨#[118, 97, 108, 117, 101]⟩, .string ⟨#[118, 97, 108, 117, 101, 58]⟩, .string ⟨#[118, 97, 108, 117, 101, 58, 118, 97, 108, 117, 101, 58]⟩, .string ⟨#[118, 97, 108, 117, 101, 58, 118, 97, 108, 117, 101, 58, 118, 97, 108, 117, 101, 58]⟩, .string ⟨#[100, 111, 73, 116]⟩, .string ⟨#[115, 105, 103, 110, 97, 108]⟩, .string ⟨#[117, 110, 119, 105, 110, 100]⟩]
  have HP := Lib.hid (show Row W w.heap.size 9 (sels.map sv) from r0)
  have HB := Lib.hid hB
  clear r0 hB hz
  subst hW
  go_enter Tryz.func42, Tryz.ntmps42
  go_wp2_with fail
  go_ret
  exact ⟨⟨_, rfl, HP.out⟩, HB.out⟩
end Go.Proofs.YtllabdmmfohbaaaGreatDoor

/- An integer of package api that came in, read as data: what the walks ask of it. -/
import Derived.Test.YtbffpkmfhkphdaaGreatDoorGAns
import Derived.Test.YtbffpkmfhkphdaaGreatDoorRows
import Derived.ProofKit
import Derived.OpenShut
import Derived.LaidMore
import Derived.Lay
import Derived.SevenTiedAt
import Derived.Stop.Joined
import Derived.Lib.SmallJoins
import Derived.Carry
namespace Go.Proofs.YtbffpkmfhkphdaaGreatDoor
open Go Go.ChangeShapes Go.WideShapes Go.ChangeAt Go.RowKit Limb

/-- Words as they are read: their numbers. -/
theorem came_of_ints {W : World} {b : Bool} {a : Addr} {len cap : Nat} {zs : List Int} (hl : len ≤ cap) (hm : cap ≤ maxLen) (hz : zs.length = cap)
    (hc : ∀ i, i < zs.length → W.cell? (a.add i) = some (.int .u32 (zs.getD i 0))) (hw : ∀ n ∈ zs, (Lit.int .u32 n).wf = true) : ∃ l, Came W b (some a) len l := by
  refine ⟨(zs.take len).map Int.toNat, ?_, ?_, by simp; omega, by unfold maxLen at hm; omega⟩
  · by_cases h0 : 0 < len
    · obtain ⟨blk, off, rfl, hcell⟩ := ints_at hc (by omega)
      refine ⟨blk, off, fun _ => ⟨rfl, World.block_lt_of_cell? W _ (hcell 0 (by omega))⟩, fun i hi => ?_⟩
      have hi' : i < len := by simp at hi; omega
      have hiz : i < zs.length := by omega
      rw [hcell i hiz]
      have e : zs.getD i 0 = zs[i] := by rw [List.getD_eq_getElem?_getD, List.getElem?_eq_getElem hiz]; rfl
      have hb := bounds_u32 (hw zs[i] (List.getElem_mem hiz))
      rw [e, wd_lt hi]
      simp only [List.getElem_map, List.getElem_take]
      rw [Int.toNat_of_nonneg hb.1]
    · have : len = 0 := by omega
      subst this
      exact Lay.nil _ _ _
  · intro x hx
    obtain ⟨n, hn, rfl⟩ := List.mem_map.1 hx
    have hb := bounds_u32 (hw n (List.mem_of_mem_take hn))
    omega

section
variable {H : Type} {enc : TypeId × Value → H}
set_option maxRecDepth 100000 in
/-- An argument of type api.Int. -/
theorem open_api {W : World} {base : Nat} {v : Value} {d : DataW H} {p : List MemPlace} (hv : Value.okWide Tryz.prog W .any base 24 v) (h : DataW.Trod enc Tryz.prog W 0 (fun _ => true) true 24 v d p) :
    ∃ b a n c l, v = .agg #[.bool b, .slice a n c] ∧ Came W b a n l ∧ n ≤ c := by
  obtain ⟨v0, v1, y0, y1, n, rfl, _, _, h0, h1⟩ := Joins.open_agg2 Tryz.underlying24 (by kernel_rfl) (by kernel_rfl) hv h
  have h0 : DataW.trod enc Tryz.prog W 0 (fun _ => true) true n 4 [v0] = some y0 := h0
  have h1 : DataW.trod enc Tryz.prog W 0 (fun _ => true) true n 22 [v1] = some y1 := h1
  obtain ⟨b, e0, _⟩ := DataW.trod_bool Tryz.underlying4 h0
  have e0 : v0 = .bool b := by simpa using e0
  subst e0
  rcases open_ints Tryz.underlying22 Tryz.underlying60 (by kernel_rfl) h1 with ⟨e1, _⟩ | ⟨a, len, cap, zs, e1, _, hl, hm, hz, _, hc, hw⟩
  · have e1 : v1 = .slice none 0 0 := by simpa using e1
    subst e1
    exact ⟨b, none, 0, 0, [], rfl, ⟨Lay.nil _ _ _, Lim.nil, rfl, by decide⟩, Nat.le_refl _⟩
  · have e1 : v1 = .slice (some a) len cap := by simpa using e1
    subst e1
    simp only [if_true] at hz
    obtain ⟨l, hcame⟩ := came_of_ints (b := b) hl hm hz hc hw
    exact ⟨b, some a, len, cap, l, rfl, hcame, hl⟩
end

end Go.Proofs.YtbffpkmfhkphdaaGreatDoor

/- Layer 34: slices.Reverse of texts of one's own. -/
import Derived.Test.YtpdbcahiipbhnaaDoorN3
import Derived.Lib.RowBridge
namespace Go.Proofs.YtpdbcahiipbhnaaDoor
open Go.RowKit

theorem strs_rev (ss : List ByteArray) : (Lib.strsOf (fun i => ss.getD i ⟨#[]⟩) ss.length).reverse.map encStr = ss.reverse.map Value.string := by
  have h : Lib.strsOf (fun i => ss.getD i ⟨#[]⟩) ss.length = ss.map fun s => s.data.toList := by
    unfold Lib.strsOf
    apply List.ext_getElem?
    intro i
    by_cases hi : i < ss.length
    · rw [List.getElem?_map, List.getElem?_map, List.getElem?_range hi, List.getElem?_eq_getElem hi]
      simp [List.getD_eq_getElem?_getD, hi]
    · rw [List.getElem?_eq_none (by simp; omega), List.getElem?_eq_none (by simp; omega)]
  rw [h, ← List.map_reverse, List.map_map]
  apply List.map_congr_left
  intro s _
  simp [encStr]
theorem Reverse_own (B : Nat) (v : Value) (ss : List ByteArray) (w : World) (h : Own w B 1 v ss.length (ss.map Value.string)) (hn : ss.length ≤ 100000) :
    Calls Tryd.prog 52 #[v] w fun e w' => e = .returned (.tuple #[]) ∧ Own w' B 1 v ss.length (ss.reverse.map Value.string) ∧ w.grownBy w' v.ownBlock := by
  rcases h.2 with ⟨rfl, h0⟩ | ⟨g, o, cap, rfl, hB, hgs, hnc, hcm, hr, hth⟩
  · have hs : ss = [] := List.eq_nil_of_length_eq_zero h0
    subst hs
    refine (Tryd.slices_Reverse_string_empty none 0 w).mono ?_
    rintro e w' ⟨rfl, rfl⟩
    exact ⟨rfl, h, ⟨rfl, rfl, rfl, Nat.le_refl _, fun _ _ _ => rfl⟩⟩
  · have hc : ∀ i, i < ss.length → w.cell? ⟨g, o + i, none⟩ = some (.string (ss.getD i ⟨#[]⟩)) := fun i hi => by
      refine hr i _ ?_
      rw [List.getElem?_map, List.getElem?_eq_getElem hi]
      simp [List.getD_eq_getElem?_getD, hi]
    refine (Tryd.slices_Reverse_string_cells g o ss.length cap (fun i => ss.getD i ⟨#[]⟩) w (by omega) hc (fun j hj => (hth j (by omega)).2)).mono ?_
    rintro e w' ⟨rfl, q, rfl⟩
    rw [strs_rev]
    have hl : (ss.reverse.map Value.string).length = ss.length := by simp
    have ht2 : (w.drewN q).there g o (ss.reverse.map Value.string).length := fun j hj => hth j (by rw [hl] at hj; omega)
    have ht3 : (w.drewN q).there g o (cap * 1) := hth
    refine ⟨rfl, ⟨by rw [hl]; omega, .inr ⟨g, o, cap, rfl, hB, by rw [size_setCells]; exact hgs, hnc, hcm, World.rangeAt_setCells_same _ _ _ _ ht2, World.there_setCells ht3 _ _ _⟩⟩, ?_⟩
    have := grownBy_setCells (w.drewN q) g o (ss.reverse.map Value.string)
    exact ⟨this.1, this.2, this.3, this.4, this.5⟩
end Go.Proofs.YtpdbcahiipbhnaaDoor

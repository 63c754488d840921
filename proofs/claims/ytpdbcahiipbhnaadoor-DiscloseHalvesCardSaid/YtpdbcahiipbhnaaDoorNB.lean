/- Layer 34: the laws' head holds. -/
import Derived.Test.YtpdbcahiipbhnaaDoorNA
namespace Go.Proofs.YtpdbcahiipbhnaaDoor
open Go.RowKit

theorem fX_I : fX.I := ⟨⟨by decide, by decide⟩, ⟨by decide, by decide⟩, ⟨by decide, by decide⟩, ⟨by decide, by decide⟩, ⟨by decide, by decide⟩⟩
theorem fY_I : fY.I := ⟨⟨by decide, by decide⟩, ⟨by decide, by decide⟩, ⟨by decide, by decide⟩, ⟨by decide, by decide⟩, ⟨by decide, by decide⟩⟩
theorem tag_le (u a b : ByteArray) : (tagB u a b).size ≤ 100000 := by rw [tagB_size]; decide
theorem three_le {a b c : ByteArray} (ha : a.size ≤ 100000) (hb : b.size ≤ 100000) (hc : c.size ≤ 100000) : ∀ s ∈ [a, b, c], s.size ≤ 100000 := fun s hs => by
  simp only [List.mem_cons, List.not_mem_nil, or_false] at hs
  rcases hs with rfl | rfl | rfl <;> assumption
theorem two_le {a c : ByteArray} (ha : a.size ≤ 100000) (hc : c.size ≤ 100000) : ∀ s ∈ [a, c], s.size ≤ 100000 := fun s hs => by
  simp only [List.mem_cons, List.not_mem_nil, or_false] at hs
  rcases hs with rfl | rfl <;> assumption
theorem hd_root (a b c : ByteArray) (ha : a.size ≤ 100000) (hb : b.size ≤ 100000) (hc : c.size ≤ 100000) (w : World) (g k : Nat) (h : StrsAt w (some ⟨g, 0, none⟩) g 0 [a, b, c]) (ht : Tabs w) :
    Calls Tryd.prog 24 #[.slice (some ⟨g, 0, none⟩) 3 k] w fun e w' => e = .returned (.string (nodB (nodB a b) c)) ∧ Below w.heap.size w w' := by
  have := Root_any [a, b, c] (some ⟨g, 0, none⟩) g 0 k w (by simp) (three_le ha hb hc) h ht
  rw [root3] at this
  exact this
theorem hd_p1 (a b c : ByteArray) (ha : a.size ≤ 100000) (hb : b.size ≤ 100000) (hc : c.size ≤ 100000) (w : World) (g : Nat) (h : StrsAt w (some ⟨g, 0, none⟩) g 0 [a, b, c]) (ht : Tabs w) :
    Calls Tryd.prog 20 #[.slice (some ⟨g, 0, none⟩) 3 3, .int .i64 1] w fun e w' => ∃ ao cap lb lo, e = .returned (.tuple #[.slice ao 2 cap, .int .i64 0]) ∧ StrsAt w' ao lb lo [a, c] ∧ Below w.heap.size w w' := by
  have := Prove_strs [a, b, c] (some ⟨g, 0, none⟩) g 0 3 1 w (by simp) (three_le ha hb hc) (by simp) (by simp) h ht
  rw [show [a, b, c].length = 3 from rfl, path_1] at this
  exact this.mono fun e w' ⟨a1, a2, a3, a4, h1, h2, _, h3⟩ => ⟨a1, a2, a3, a4, h1, h2, h3⟩
theorem hd_p2 (a b c : ByteArray) (ha : a.size ≤ 100000) (hb : b.size ≤ 100000) (hc : c.size ≤ 100000) (w : World) (g : Nat) (h : StrsAt w (some ⟨g, 0, none⟩) g 0 [a, b, c]) (ht : Tabs w) :
    Calls Tryd.prog 20 #[.slice (some ⟨g, 0, none⟩) 3 3, .int .i64 2] w fun e w' => ∃ ao cap lb lo, e = .returned (.tuple #[.slice ao 1 cap, .int .i64 0]) ∧ StrsAt w' ao lb lo [nodB a b] ∧ Below w.heap.size w w' := by
  have := Prove_strs [a, b, c] (some ⟨g, 0, none⟩) g 0 3 2 w (by simp) (three_le ha hb hc) (by simp) (by simp) h ht
  rw [show [a, b, c].length = 3 from rfl, path_2] at this
  exact this.mono fun e w' ⟨a1, a2, a3, a4, h1, h2, _, h3⟩ => ⟨a1, a2, a3, a4, h1, h2, h3⟩
theorem hd_chk (r s : ByteArray) (i : Int) (x : Fct) (a c : ByteArray) (v : Bool) (hr : checkB r 3 i (leafB x s) [a, c] = v) (hx : x.I) (hs : s.size ≤ 100000) (ha : a.size ≤ 100000) (hc : c.size ≤ 100000) (w : World) (ao : Option Addr) (cap lb lo : Nat) (h : StrsAt w ao lb lo [a, c]) (ht : Tabs w) :
    Calls Tryd.prog 27 #[.string r, .int .i64 3, .int .i64 i, .agg x.vals, .string s, .slice ao 2 cap] w fun e w' => e = .returned (.bool v) ∧ Below w.heap.size w w' := by
  have := Check34_any r s 3 i x [a, c] ao lb lo cap w hx hs (by simp) (two_le ha hc) h ht
  rw [hr] at this
  exact this
theorem head34 (w : World) (ht : Tabs w) : Calls Tryd.prog 18 #[] w fun e w' => e = .returned (.bool true) ∧ Below w.heap.size w w' := by
  have h0 : (leafB fX ⟨#[115]⟩).size ≤ 100000 := tag_le _ _ _
  have h1 : (leafB fY ⟨#[116]⟩).size ≤ 100000 := tag_le _ _ _
  have hc : cB.size ≤ 100000 := by decide
  have k1 : checkB (nodB (nodB (leafB fX ⟨#[115]⟩) (leafB fY ⟨#[116]⟩)) cB) 3 1 (leafB fY ⟨#[116]⟩) [leafB fX ⟨#[115]⟩, cB] = true := by rw [chk_1]; exact decide_eq_true rfl
  have k2 : checkB (nodB (nodB (leafB fX ⟨#[115]⟩) (leafB fY ⟨#[116]⟩)) cB) 3 0 (leafB fY ⟨#[116]⟩) [leafB fX ⟨#[115]⟩, cB] = false := by rw [chk_0]; exact decide_eq_false ne_n10
  have k3 : checkB (nodB (nodB (leafB fX ⟨#[115]⟩) (leafB fY ⟨#[116]⟩)) cB) 3 1 (leafB fX ⟨#[116]⟩) [leafB fX ⟨#[115]⟩, cB] = false := by rw [chk_1]; exact decide_eq_false ne_n02
  have k4 : checkB (nodB (nodB (leafB fX ⟨#[115]⟩) (leafB fY ⟨#[116]⟩)) cB) 3 1 (leafB fY ⟨#[115]⟩) [leafB fX ⟨#[115]⟩, cB] = false := by rw [chk_1]; exact decide_eq_false ne_n03
  have FX := fun w ht => Leaf_any fX ⟨#[115]⟩ w fX_I (by decide) ht
  have FY := fun w ht => Leaf_any fY ⟨#[116]⟩ w fY_I (by decide) ht
  have F1 := fun w ao cap lb lo h ht => hd_chk _ ⟨#[116]⟩ 1 fY _ cB true k1 fY_I (by decide) h0 hc w ao cap lb lo h ht
  have F2 := fun w ao cap lb lo h ht => hd_chk _ ⟨#[116]⟩ 0 fY _ cB false k2 fY_I (by decide) h0 hc w ao cap lb lo h ht
  have F3 := fun w ao cap lb lo h ht => hd_chk _ ⟨#[116]⟩ 1 fX _ cB false k3 fX_I (by decide) h0 hc w ao cap lb lo h ht
  have F4 := fun w ao cap lb lo h ht => hd_chk _ ⟨#[115]⟩ 1 fY _ cB false k4 fY_I (by decide) h0 hc w ao cap lb lo h ht
  clear k1 k2 k3 k4
  generalize leafB fX ⟨#[115]⟩ = l0 at *
  generalize leafB fY ⟨#[116]⟩ = l1 at *
  exact head34_main l0 l1 (nodB l0 l1) (nodB (nodB l0 l1) cB) (rootB []) w ht FX FY
    (fun w g c _ h ht => hd_root l0 l1 cB h0 h1 hc w g c h ht)
    (fun w g _ _ h ht => hd_p1 l0 l1 cB h0 h1 hc w g h ht)
    (fun w g _ _ h ht => hd_p2 l0 l1 cB h0 h1 hc w g h ht)
    (fun w ht => node34_any l0 l1 w h0 h1 ht)
    (fun w ht => node34_any (nodB l0 l1) cB w (tag_le _ _ _) hc ht)
    F1 F2 F3 F4
    (fun w ht => Root_nil none 0 w ht)
    (fun w ht => Sum_is noneW (rootB []) w (by decide) (by rw [rootB_nil]) ht)
end Go.Proofs.YtpdbcahiipbhnaaDoor

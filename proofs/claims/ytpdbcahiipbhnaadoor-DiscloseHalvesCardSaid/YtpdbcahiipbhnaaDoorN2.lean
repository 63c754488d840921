/- Layer 34: the root of leaves. -/
import Derived.Test.YtpdbcahiipbhnaaDoorN1
import Derived.Deep.RegionHeldLaw
import Derived.Laws.EntriesVeiled
namespace Go.Proofs.YtpdbcahiipbhnaaDoor
open Go.RowKit

/-- A list of texts in memory. -/
structure StrsAt (w : World) (ao : Option Addr) (lb lo : Nat) (l : List ByteArray) : Prop where
  ao : 0 < l.length → ao = some ⟨lb, lo, none⟩ ∧ lb < w.heap.size
  at_ : ∀ i s, l[i]? = some s → w.cell? ⟨lb, lo + i, none⟩ = some (.string s)
theorem StrsAt.step {w w' : World} {ao : Option Addr} {lb lo : Nat} {l : List ByteArray} (h : StrsAt w ao lb lo l) (hb : Below w.heap.size w w') : StrsAt w' ao lb lo l :=
  ⟨fun hl => ⟨(h.ao hl).1, Nat.lt_of_lt_of_le (h.ao hl).2 hb.size⟩, fun i s hs => (hb.cell (p := ⟨lb, lo + i, none⟩) (h.ao (by have := (List.getElem?_eq_some_iff.1 hs).1; omega)).2).trans (h.at_ i s hs)⟩
/-- A leaf. -/
abbrev leafAt (l : List ByteArray) (i : Nat) : ByteArray := l.getD i ⟨#[]⟩
theorem leafAt_some {l : List ByteArray} {i : Nat} (h : i < l.length) : l[i]? = some (leafAt l i) := by
  rw [leafAt, List.getD_eq_getElem?_getD, List.getElem?_eq_getElem h]; rfl
theorem rootR_size (f : Nat → ByteArray) (n lo : Nat) (h : ∀ i, lo ≤ i → i < lo + n → (f i).size ≤ 100000) (hn : 1 ≤ n) : (rootR nodB f lo n).size ≤ 100000 := by
  by_cases h2 : 2 ≤ n
  · rw [rootR_two _ _ _ _ h2, nodB, tagB_size]; decide
  · rw [rootR_one _ _ _ _ (by omega)]; exact h lo (Nat.le_refl _) (by omega)
/-- The boxes of Root: the leaves, the function itself; the leaves. -/
structure RtB (w0 w : World) (n1 n2 : Nat) (ao : Option Addr) (lb lo c : Nat) (l : List ByteArray) : Prop where
  trk : Trk w0 w
  c1 : w.cell? ⟨n1, 0, none⟩ = some (.slice ao l.length c)
  c2 : w.cell? ⟨n2, 0, none⟩ = some (.func (.func 57) #[] #[.pointer (some ⟨n1, 0, none⟩), .pointer (some ⟨n2, 0, none⟩)])
  l1 : n1 < w.heap.size
  l2 : n2 < w.heap.size
  l : StrsAt w ao lb lo l
theorem RtB.step {w0 w w' : World} {n1 n2 : Nat} {ao : Option Addr} {lb lo c : Nat} {l : List ByteArray} (h : RtB w0 w n1 n2 ao lb lo c l) (hb : Below w.heap.size w w') : RtB w0 w' n1 n2 ao lb lo c l :=
  ⟨h.trk.step hb, (hb.cell (p := ⟨n1, 0, none⟩) h.l1).trans h.c1, (hb.cell (p := ⟨n2, 0, none⟩) h.l2).trans h.c2, Nat.lt_of_lt_of_le h.l1 hb.size, Nat.lt_of_lt_of_le h.l2 hb.size, h.l.step hb⟩
theorem RtB.again {w0 w : World} {n1 n2 : Nat} {ao : Option Addr} {lb lo c : Nat} {l : List ByteArray} (h : RtB w0 w n1 n2 ao lb lo c l) : RtB w w n1 n2 ao lb lo c l :=
  ⟨Trk.start h.trk.tabs, h.c1, h.c2, h.l1, h.l2, h.l⟩
theorem keep_rt {w0 w w' : World} {n1 n2 : Nat} {ao : Option Addr} {lb lo c : Nat} {l : List ByteArray} {v : Value} (hb : Below w.heap.size w w') (H : w.cell? ⟨n2, 0, none⟩ = some v ∧ RtB w0 w n1 n2 ao lb lo c l) : w'.cell? ⟨n2, 0, none⟩ = some v ∧ RtB w0 w' n1 n2 ao lb lo c l :=
  ⟨(hb.cell (p := ⟨n2, 0, none⟩) H.2.l2).trans H.1, H.2.step hb⟩
theorem held_rt {w0 w : World} {n1 n2 : Nat} {ao : Option Addr} {lb lo c : Nat} {l : List ByteArray} {v : Value} (H : w.cell? ⟨n2, 0, none⟩ = some v ∧ RtB w0 w n1 n2 ao lb lo c l) : Trk w0 w := H.2.trk
set_option maxHeartbeats 2000000 in
set_option maxRecDepth 100000 in
theorem Root1_one (ao : Option Addr) (lb lo c n1 n2 : Nat) (l : List ByteArray) (fr to_ : Nat) (w w0 : World) (hlt : fr < l.length) (h1 : to_ = fr + 1) (hl : l.length ≤ 1000) (h : RtB w0 w n1 n2 ao lb lo c l) :
    Calls Tryd.prog 57 #[.int .i64 fr, .int .i64 to_, .pointer (some ⟨n1, 0, none⟩), .pointer (some ⟨n2, 0, none⟩)] w fun e w' => e = .returned (.string (leafAt l fr)) ∧ Below w.heap.size w w' := by
  obtain ⟨rfl, la⟩ := h.l.ao (by omega)
  have hc := h.l.at_ fr _ (leafAt_some hlt)
  have c1 := h.c1
  generalize leafAt l fr = s at *
  have HX : Hid (n1 < w.heap.size) := Lib.hid h.l1
  have e1 : ((to_ : Int) - (fr : Int) == 1) = true := by have : (to_ : Int) - (fr : Int) = 1 := by omega
                                                         simpa using this
  have e2 : (to_ : Int) - (fr : Int) = 1 := by omega
  have i1 : (0 : Int) ≤ (fr : Int) := by omega
  have i2 : (fr : Int) < (l.length : Int) := by omega
  have i3 : (fr : Int) ≤ 1000 := by omega
  have i4 : (to_ : Int) ≤ 1001 := by omega
  clear h h1
  go_enter Tryd.func57, Tryd.ntmps57
  go_wp2_with fail
  go_ret
  exact ⟨rfl, Below.refl _ _⟩
set_option maxHeartbeats 4000000 in
set_option maxRecDepth 100000 in
theorem Root1_two (ao : Option Addr) (lb lo c n1 n2 : Nat) (l : List ByteArray) (fr to_ mid : Nat) (ra rb rr : ByteArray) (w : World) (hto : to_ ≤ l.length) (h2 : 2 ≤ to_ - fr) (hmid : mid = fr + halfN (to_ - fr)) (hl : l.length ≤ 1000) (h : RtB w w n1 n2 ao lb lo c l)
    (hA : ∀ w' , RtB w w' n1 n2 ao lb lo c l → Calls Tryd.prog 57 #[.int .i64 fr, .int .i64 mid, .pointer (some ⟨n1, 0, none⟩), .pointer (some ⟨n2, 0, none⟩)] w' fun e w'' => e = .returned (.string ra) ∧ Below w'.heap.size w' w'')
    (hB : ∀ w' , RtB w w' n1 n2 ao lb lo c l → Calls Tryd.prog 57 #[.int .i64 mid, .int .i64 to_, .pointer (some ⟨n1, 0, none⟩), .pointer (some ⟨n2, 0, none⟩)] w' fun e w'' => e = .returned (.string rb) ∧ Below w'.heap.size w' w'')
    (hT : ∀ w' , RtB w w' n1 n2 ao lb lo c l → Calls Tryd.prog 54 #[.string nodeW, .string ra, .string rb] w' fun e w'' => e = .returned (.string rr) ∧ Below w'.heap.size w' w'') :
    Calls Tryd.prog 57 #[.int .i64 fr, .int .i64 to_, .pointer (some ⟨n1, 0, none⟩), .pointer (some ⟨n2, 0, none⟩)] w fun e w' => e = .returned (.string rr) ∧ Below w.heap.size w w' := by
  have hh := halfN_lt h2
  have HH := Lib.hid (fun w => half_any (to_ - fr) w (by omega))
  have HA := Lib.hid hA
  have HB := Lib.hid hB
  have HT := Lib.hid hT
  have H0 := Lib.hid h
  have c2 := h.c2
  have hl2 := h.l2
  have e1 : ((to_ : Int) - (fr : Int) == 1) = false := by have : ¬ (to_ : Int) - (fr : Int) = 1 := by omega
                                                          simpa using this
  have e2 : (to_ : Int) - (fr : Int) = ((to_ - fr : Nat) : Int) := by omega
  have e3 : (fr : Int) + ((halfN (to_ - fr) : Nat) : Int) = (mid : Int) := by omega
  have i4 : (to_ : Int) ≤ 1001 := by omega
  have i5 : (mid : Int) ≤ 1001 := by omega
  have i6 : (fr : Int) ≤ 1001 := by omega
  clear hA hB hT h hh hmid
  generalize halfN (to_ - fr) = hf at *
  generalize to_ - fr = df at *
  have i7 : (df : Int) ≤ 1001 := by omega
  have e1' : ((df : Int) == 1) = false := by have : ¬ (df : Int) = 1 := by omega
                                             simpa using this
  go_enter Tryd.func57, Tryd.ntmps57
  go_wp2_with fail
  refine (HH.out _).mono ?_
  rintro e wx ⟨rfl, rfl⟩
  go_wp2_with fail
  have HINI := Lib.hid (And.intro c2 H0.out)
  clear c2
  go_region_held_law (fun w' => w'.cell? ⟨n2, 0, none⟩ = some (.func (.func 57) #[] #[.pointer (some ⟨n1, 0, none⟩), .pointer (some ⟨n2, 0, none⟩)]) ∧ RtB w w' n1 n2 ao lb lo c l) (first | (with_reducible assumption) | (with_reducible exact HINI.out) | (with_reducible refine keep_rt hba ?_; with_reducible assumption) | (with_reducible refine keep_rt hbb ?_; with_reducible assumption) | (with_reducible refine keep_rt hbc ?_; with_reducible assumption) | (refine keep_rt (drewN_below _ 1) ?_; first | (with_reducible assumption) | (with_reducible exact HINI.out))) (first | (go_at_call_of 57 (Value.int IntKind.i64 (fr : Int)); with_reducible refine (HA.out _ ?TT).mono ?_; (case TT => first | exact (And.right (by assumption)) | exact HINI.out.2 | exact HINI.out.2.step (drewN_below _ 1)); rintro e wa ⟨rfl, hba⟩) | (go_at_call_of 57 (Value.int IntKind.i64 (mid : Int)); with_reducible refine (HB.out _ ?TT).mono ?_; (case TT => first | exact (And.right (by assumption)) | exact HINI.out.2 | exact HINI.out.2.step (drewN_below _ 1)); rintro e wb ⟨rfl, hbb⟩) | (go_at_call 54; with_reducible refine (HT.out _ ?TT).mono ?_; (case TT => first | exact (And.right (by assumption)) | exact HINI.out.2 | exact HINI.out.2.step (drewN_below _ 1)); rintro e wc ⟨rfl, hbc⟩))
  all_goals
    have HF := Lib.hid (held_rt (w0 := w) (n1 := n1) (n2 := n2) (ao := ao) (lb := lb) (lo := lo) (c := c) (l := l) (by assumption))
    go_wp2_with fail
    go_ret
    exact ⟨rfl, HF.out.bel⟩
/-- Root's inner function, at every range of leaves. -/
theorem Root1_any (ao : Option Addr) (lb lo c n1 n2 : Nat) (l : List ByteArray) (hl : l.length ≤ 1000) (hs : ∀ s ∈ l, s.size ≤ 100000) : ∀ (n fr to_ : Nat) (w w0 : World), to_ - fr = n → 1 ≤ n → to_ ≤ l.length → RtB w0 w n1 n2 ao lb lo c l →
    Calls Tryd.prog 57 #[.int .i64 fr, .int .i64 to_, .pointer (some ⟨n1, 0, none⟩), .pointer (some ⟨n2, 0, none⟩)] w fun e w' => e = .returned (.string (rootR nodB (leafAt l) fr n)) ∧ Below w.heap.size w w' := by
  intro n
  induction n using Nat.strongRecOn with
  | ind n ih =>
    intro fr to_ w w0 hn h1 hto h
    by_cases h2 : 2 ≤ n
    · subst hn
      have hh := halfN_lt h2
      have hp := halfN_pos (to_ - fr)
      have hsz : ∀ lo n, 1 ≤ n → lo + n ≤ l.length → (rootR nodB (leafAt l) lo n).size ≤ 100000 := fun lo n hn hle => rootR_size _ _ _ (fun i h1 h2 => hs _ (by
        have := leafAt_some (l := l) (i := i) (by omega)
        exact List.mem_of_getElem? this)) hn
      rw [rootR_two _ _ _ _ h2]
      refine Root1_two ao lb lo c n1 n2 l fr to_ (fr + halfN (to_ - fr)) (rootR nodB (leafAt l) fr (halfN (to_ - fr))) (rootR nodB (leafAt l) (fr + halfN (to_ - fr)) (to_ - fr - halfN (to_ - fr))) _ w hto h2 rfl hl h.again ?_ ?_ ?_
      · intro w' h'
        exact ih _ hh fr (fr + halfN (to_ - fr)) w' w (by omega) hp (by omega) h'
      · intro w' h'
        have := ih (to_ - fr - halfN (to_ - fr)) (by omega) (fr + halfN (to_ - fr)) to_ w' w (by omega) (by omega) hto h'
        exact this
      · intro w' h'
        exact tagged_any nodeW _ _ w' (by decide) (hsz _ _ hp (by omega)) (hsz _ _ (by omega) (by omega)) h'.trk.tabs
    · rw [rootR_one _ _ _ _ (by omega)]
      exact Root1_one ao lb lo c n1 n2 l fr to_ w w0 (by omega) (by omega) hl h
/-- The root of a list of leaves. -/
@[irreducible] def rootB (l : List ByteArray) : ByteArray := if l.length = 0 then hexB [110, 111, 110, 101] else rootR nodB (leafAt l) 0 l.length
theorem rootB_nil : rootB [] = hexB [110, 111, 110, 101] := by unfold rootB; rfl
theorem rootB_pos {l : List ByteArray} (h : 1 ≤ l.length) : rootB l = rootR nodB (leafAt l) 0 l.length := by unfold rootB; rw [if_neg (by omega)]
theorem rootB_size {l : List ByteArray} (hs : ∀ s ∈ l, s.size ≤ 100000) : (rootB l).size ≤ 100000 := by
  by_cases h : 1 ≤ l.length
  · rw [rootB_pos h]
    exact rootR_size _ _ _ (fun i h1 h2 => hs _ (List.mem_of_getElem? (leafAt_some (l := l) (i := i) (by omega)))) h
  · have : l = [] := List.eq_nil_of_length_eq_zero (by omega)
    subst this
    rw [rootB_nil, hexB_size]; decide
abbrev noneW : ByteArray := ⟨#[110, 111, 110, 101]⟩
set_option maxHeartbeats 2000000 in
set_option maxRecDepth 100000 in
theorem Root_nil (ao : Option Addr) (c : Nat) (w : World) (ht : Tabs w) :
    Calls Tryd.prog 24 #[.slice ao 0 c] w fun e w' => e = .returned (.string (rootB [])) ∧ Below w.heap.size w w' := by
  have HS := Lib.hid (fun w ht => Sum_is noneW (rootB []) w (by decide) (by rw [rootB_nil]) ht)
  have T0 := Lib.hid ((Trk.start ht).alloc (.cells #[.slice ao 0 c] 22))
  generalize rootB [] = r at *
  clear ht
  go_enter Tryd.func24, Tryd.ntmps24
  go_wp2_with fail
  refine (HS.out _ T0.out.tabs).mono ?_
  rintro e w1 ⟨rfl, hb⟩
  have T1 := Lib.hid (T0.out.step hb)
  clear hb
  go_wp2_with fail
  go_ret
  exact ⟨rfl, T1.out.bel⟩
set_option maxHeartbeats 2000000 in
set_option maxRecDepth 100000 in
theorem Root_pos (l : List ByteArray) (ao : Option Addr) (lb lo c : Nat) (w : World) (h1 : 1 ≤ l.length) (hl : l.length ≤ 1000) (hs : ∀ s ∈ l, s.size ≤ 100000) (hat : StrsAt w ao lb lo l) (ht : Tabs w) :
    Calls Tryd.prog 24 #[.slice ao l.length c] w fun e w' => e = .returned (.string (rootB l)) ∧ Below w.heap.size w w' := by
  have HR := Lib.hid (fun n1 n2 w w0 h => Root1_any ao lb lo c n1 n2 l hl hs l.length 0 l.length w w0 (by omega) h1 (Nat.le_refl _) h)
  have HE := Lib.hid (rootB_pos h1)
  generalize rootR nodB (leafAt l) 0 l.length = r at *
  generalize rootB l = rb at *
  have HAT := Lib.hid hat
  have HTT := Lib.hid ht
  have e1 : ((l.length : Int) == 0) = false := by have : ¬ (l.length : Int) = 0 := by omega
                                                  simpa using this
  have e2 : ¬ l.length = 0 := by omega
  clear hat ht h1 hs
  have z1 : (w.alloc (.cells #[.slice ao l.length c] 22)).heap.size = w.heap.size + 1 := by simp
  have n1 : (w.alloc (.cells #[.slice ao l.length c] 22)).cell? ⟨w.heap.size, 0, none⟩ = some (.slice ao l.length c) := new0 rfl rfl
  have n2 : ((w.alloc (.cells #[.slice ao l.length c] 22)).alloc (.cells #[.func (.func 57) #[] #[.pointer (some ⟨w.heap.size, 0, none⟩), .pointer (some ⟨w.heap.size + 1, 0, none⟩)]] 86)).cell? ⟨w.heap.size, 0, none⟩ = some (.slice ao l.length c) := ((alloc_below _ _).cell (p := ⟨w.heap.size, 0, none⟩) (by show w.heap.size < _; omega)).trans n1
  have zs : ((w.alloc (.cells #[.slice ao l.length c] 22)).alloc (.cells #[.func (.func 57) #[] #[.pointer (some ⟨w.heap.size, 0, none⟩), .pointer (some ⟨w.heap.size + 1, 0, none⟩)]] 86)).heap.size = w.heap.size + 2 := by simp
  have BB : Below w.heap.size w ((w.alloc (.cells #[.slice ao l.length c] 22)).alloc (.cells #[.func (.func 57) #[] #[.pointer (some ⟨w.heap.size, 0, none⟩), .pointer (some ⟨w.heap.size + 1, 0, none⟩)]] 86)) := ((Below.refl w.heap.size w).alloc (Nat.le_refl _) _).alloc (by omega) _
  have RB : RtB w ((w.alloc (.cells #[.slice ao l.length c] 22)).alloc (.cells #[.func (.func 57) #[] #[.pointer (some ⟨w.heap.size, 0, none⟩), .pointer (some ⟨w.heap.size + 1, 0, none⟩)]] 86)) w.heap.size (w.heap.size + 1) ao lb lo c l :=
    ⟨⟨HTT.out.below BB (Nat.le_refl _), BB⟩, n2, new0 z1.symm rfl, by rw [zs]; omega, by rw [zs]; omega, HAT.out.step BB⟩
  have HRB := Lib.hid RB
  have HBB := Lib.hid BB
  clear z1 n1 n2 zs BB RB
  go_enter Tryd.func24, Tryd.ntmps24
  go_wp2_with fail
  refine (HR.out _ _ _ _ HRB.out).mono ?_
  rintro e w1 ⟨rfl, hb⟩
  have B2 := Lib.hid (HBB.out.trans (hb.mono HBB.out.size))
  clear hb
  go_wp2_with fail
  go_ret
  exact ⟨by rw [HE.out]; rfl, B2.out⟩
theorem Root_any (l : List ByteArray) (ao : Option Addr) (lb lo c : Nat) (w : World) (hl : l.length ≤ 1000) (hs : ∀ s ∈ l, s.size ≤ 100000) (hat : StrsAt w ao lb lo l) (ht : Tabs w) :
    Calls Tryd.prog 24 #[.slice ao l.length c] w fun e w' => e = .returned (.string (rootB l)) ∧ Below w.heap.size w w' := by
  by_cases h : 1 ≤ l.length
  · exact Root_pos l ao lb lo c w h hl hs hat ht
  · obtain rfl : l = [] := List.eq_nil_of_length_eq_zero (by omega)
    exact Root_nil ao c w ht
end Go.Proofs.YtpdbcahiipbhnaaDoor

/- DiscloseHalves: the walk and the law. -/
import Derived.Test.YtpdbcahiipbhnaaDoorNB
namespace Go.Proofs.YtpdbcahiipbhnaaDoor
open Go.RowKit

/-- The root of leaves in two halves. -/
theorem root_halves {l m : List ByteArray} {j : Nat} (hj : l.length = 2 ^ j) (h1 : 1 ≤ m.length) (h2 : m.length ≤ l.length) : rootB (l ++ m) = nodB (rootB l) (rootB m) := by
  have hp := Nat.one_le_two_pow (n := j)
  have hn : (l ++ m).length = l.length + m.length := List.length_append
  rw [rootB_pos (by omega), rootB_pos (l := l) (by omega), rootB_pos h1, rootR_two _ _ _ _ (by omega), ← halfN_is (n := (l ++ m).length) (j := j) (.inr (by omega)) (by omega), ← hj, hn, show l.length + m.length - l.length = m.length by omega]
  have e1 : rootR nodB (leafAt (l ++ m)) 0 l.length = rootR nodB (leafAt l) 0 l.length := rootR_congr _ _ _ _ _ (fun i _ hi => by
    simp only [leafAt, List.getD_eq_getElem?_getD]
    rw [List.getElem?_append_left (by omega)]) (by omega)
  have e2 : rootR nodB (leafAt (l ++ m)) (0 + l.length) m.length = rootR nodB (leafAt m) 0 m.length := by
    rw [Nat.zero_add, ← Nat.add_zero l.length, ← rootR_shift]
    refine rootR_congr _ _ _ _ _ (fun i _ hi => ?_) h1
    simp only [leafAt, List.getD_eq_getElem?_getD]
    rw [List.getElem?_append_right (by omega), show l.length + i - l.length = i by omega]
  rw [e1, e2]
theorem StrsAt.src {w : World} {ao : Option Addr} {lb lo c : Nat} {l : List ByteArray} (h : StrsAt w ao lb lo l) : Src Tryd.prog 1 22 (.slice ao l.length c) l.length (l.map Value.string) w := by
  rcases l with _ | ⟨e, t⟩
  · rcases ao with _ | a
    · exact Src.ofNil w Tryd.underlying22 c
    · exact Src.ofSlice w Tryd.underlying22 a 0 c [] rfl (fun j u hj => by simp at hj) (fun u hu => by cases hu)
  · have ha := (h.ao (by simp)).1
    rw [ha]
    exact Src.ofSlice w Tryd.underlying22 ⟨lb, lo, none⟩ _ c ((e :: t).map Value.string) (by simp) (fun j u hj => by
      rw [Addr.add_mid]
      rw [List.getElem?_map] at hj
      obtain ⟨s, hs, rfl⟩ := Option.map_eq_some_iff.1 hj
      exact h.at_ j s hs) (fun u hu => by
      obtain ⟨s, _, rfl⟩ := List.mem_map.1 hu
      rfl)
theorem own_empty1 (w : World) (t : TypeId) : Own (w.alloc (.cells #[] t)) w.heap.size 1 (.slice (some ⟨w.heap.size, 0, none⟩) 0 0) 0 [] :=
  ⟨rfl, .inr ⟨w.heap.size, 0, 0, rfl, Nat.le_refl _, by simp, Nat.le_refl _, by unfold maxLen; omega, fun j u hj => by simp at hj, fun j hj => by omega⟩⟩
theorem app_str {w : World} {ops : Array Oper} {rest : List Oper} {op : Oper} {a : Act} {Q : Exit → Act → World → Prop} (hgd : op.guard = none) (s x : Operand)
    (ho : op.op = .call { callee := .builtin .append, args := #[s, x], argTypes := #[22, 22] })
    (B : Nat) (v : Value) (n : Nat) (xs : List Value) (hs : a.eval s = v) (hown : Own w B 1 v n xs) (xv : Value) (m : Nat) (news : List Value) (hx : a.eval x = xv) (hsrc : Src Tryd.prog 1 22 xv m news w)
    (hbytes : n + m ≤ 1000000) (hbase : B ≤ w.heap.size)
    (h : ∀ v' w', Own w' B 1 v' (n + m) (xs ++ news) → w.grownBy w' v.ownBlock → (n + m ≠ 0 → v' ≠ .slice none 0 0) → wpList Tryd.prog ops Q rest (a.put op.dst v') w') : wpList Tryd.prog ops Q (op :: rest) a w := by
  obtain ⟨i0, hi, hz0, hz1, hz2⟩ := info_parts infoStr
  exact wpList_append_Own hgd s x 22 22 ho B 9 i0 _ 1 16 Tryd.underlying22 hi hz0 hz1 hz2 rfl v n xs hs hown xv m news hx hsrc (by unfold maxLen; omega) (by omega) hbase h
set_option maxHeartbeats 4000000 in
set_option maxRecDepth 100000 in
theorem halves_s1 (l m : List ByteArray) (ao bo : Option Addr) (lb lo c mb mo d : Nat) (w : World) (hl : StrsAt w ao lb lo l) (hm : StrsAt w bo mb mo m) (ht : Tabs w) (nl : l.length ≤ 9223372036854775807) (_ : m.length ≤ 9223372036854775807) (f1 : smallB l 32 = false) :
    Calls Tryd.prog 7 #[.slice ao l.length c, .slice bo m.length d] w fun e w' => e = .returned (.bool true) ∧ Below w.heap.size w w' := by
  have HL := Lib.hid hl
  have HM := Lib.hid hm
  have T0 := Lib.hid (Trk.start ht)
  clear hl hm ht
  go_enter Tryd.func7, Tryd.ntmps7
  go_wp2_with fail
  refine (head34 _ T0.out.tabs).mono ?_
  rintro e v1 ⟨rfl, hb⟩
  have T1 := Lib.hid (T0.out.step hb)
  replace HL := Lib.hid (HL.out.step hb)
  replace HM := Lib.hid (HM.out.step hb)
  clear hb
  go_wp2_with fail
  have hx := small_any l ao lb lo c 32 v1 nl HL.out
  rw [f1] at hx
  refine hx.mono ?_
  rintro e wx ⟨rfl, rfl⟩
  clear hx
  go_wp2_with fail
  go_ret
  exact ⟨rfl, T1.out.bel⟩
set_option maxHeartbeats 4000000 in
set_option maxRecDepth 100000 in
theorem halves_s2 (l m : List ByteArray) (ao bo : Option Addr) (lb lo c mb mo d : Nat) (w : World) (hl : StrsAt w ao lb lo l) (hm : StrsAt w bo mb mo m) (ht : Tabs w) (nl : l.length ≤ 9223372036854775807) (nm : m.length ≤ 9223372036854775807) (f1 : smallB l 32 = true) (f2 : smallB m 32 = false) :
    Calls Tryd.prog 7 #[.slice ao l.length c, .slice bo m.length d] w fun e w' => e = .returned (.bool true) ∧ Below w.heap.size w w' := by
  have HL := Lib.hid hl
  have HM := Lib.hid hm
  have T0 := Lib.hid (Trk.start ht)
  clear hl hm ht
  go_enter Tryd.func7, Tryd.ntmps7
  go_wp2_with fail
  refine (head34 _ T0.out.tabs).mono ?_
  rintro e v1 ⟨rfl, hb⟩
  have T1 := Lib.hid (T0.out.step hb)
  replace HL := Lib.hid (HL.out.step hb)
  replace HM := Lib.hid (HM.out.step hb)
  clear hb
  go_wp2_with fail
  have hx := small_any l ao lb lo c 32 v1 nl HL.out
  rw [f1] at hx
  refine hx.mono ?_
  rintro e wx ⟨rfl, rfl⟩
  clear hx
  go_wp2_with fail
  have hx := small_any m bo mb mo d 32 v1 nm HM.out
  rw [f2] at hx
  refine hx.mono ?_
  rintro e wx ⟨rfl, rfl⟩
  clear hx
  go_wp2_with fail
  go_ret
  exact ⟨rfl, T1.out.bel⟩
set_option maxHeartbeats 4000000 in
set_option maxRecDepth 100000 in
theorem halves_e (l m : List ByteArray) (ao bo : Option Addr) (lb lo c mb mo d : Nat) (w : World) (hl : StrsAt w ao lb lo l) (hm : StrsAt w bo mb mo m) (ht : Tabs w) (nl : l.length ≤ 9223372036854775807) (nm : m.length ≤ 9223372036854775807) (f1 : smallB l 32 = true) (f2 : smallB m 32 = true) (e1 : m = []) :
    Calls Tryd.prog 7 #[.slice ao l.length c, .slice bo m.length d] w fun e w' => e = .returned (.bool true) ∧ Below w.heap.size w w' := by
  subst e1
  have HL := Lib.hid hl
  have HM := Lib.hid hm
  have T0 := Lib.hid (Trk.start ht)
  clear hl hm ht
  go_enter Tryd.func7, Tryd.ntmps7
  go_wp2_with fail
  refine (head34 _ T0.out.tabs).mono ?_
  rintro e v1 ⟨rfl, hb⟩
  have T1 := Lib.hid (T0.out.step hb)
  replace HL := Lib.hid (HL.out.step hb)
  replace HM := Lib.hid (HM.out.step hb)
  clear hb
  go_wp2_with fail
  have hx := small_any l ao lb lo c 32 v1 nl HL.out
  rw [f1] at hx
  refine hx.mono ?_
  rintro e wx ⟨rfl, rfl⟩
  clear hx
  go_wp2_with fail
  have hx := small_any [] bo mb mo d 32 v1 nm HM.out
  rw [f2] at hx
  refine hx.mono ?_
  rintro e wx ⟨rfl, rfl⟩
  clear hx
  go_wp2_with fail
  go_ret
  exact ⟨rfl, T1.out.bel⟩
set_option maxHeartbeats 4000000 in
set_option maxRecDepth 100000 in
theorem halves_g (l m : List ByteArray) (ao bo : Option Addr) (lb lo c mb mo d : Nat) (w : World) (hl : StrsAt w ao lb lo l) (hm : StrsAt w bo mb mo m) (ht : Tabs w) (nl : l.length ≤ 9223372036854775807) (nm : m.length ≤ 9223372036854775807) (f1 : smallB l 32 = true) (f2 : smallB m 32 = true) (_ : ¬ m.length = 0) (e1 : l.length < m.length) :
    Calls Tryd.prog 7 #[.slice ao l.length c, .slice bo m.length d] w fun e w' => e = .returned (.bool true) ∧ Below w.heap.size w w' := by
  have q0 : ((m.length : Int) == 0) = false := by have : ¬ (m.length : Int) = 0 := by omega
                                                  simpa using this
  have q1 : (l.length : Int) < (m.length : Int) := by omega
  have HL := Lib.hid hl
  have HM := Lib.hid hm
  have T0 := Lib.hid (Trk.start ht)
  clear hl hm ht
  go_enter Tryd.func7, Tryd.ntmps7
  go_wp2_with fail
  refine (head34 _ T0.out.tabs).mono ?_
  rintro e v1 ⟨rfl, hb⟩
  have T1 := Lib.hid (T0.out.step hb)
  replace HL := Lib.hid (HL.out.step hb)
  replace HM := Lib.hid (HM.out.step hb)
  clear hb
  go_wp2_with fail
  have hx := small_any l ao lb lo c 32 v1 nl HL.out
  rw [f1] at hx
  refine hx.mono ?_
  rintro e wx ⟨rfl, rfl⟩
  clear hx
  go_wp2_with fail
  have hx := small_any m bo mb mo d 32 v1 nm HM.out
  rw [f2] at hx
  refine hx.mono ?_
  rintro e wx ⟨rfl, rfl⟩
  clear hx
  go_wp2_with fail
  go_ret
  exact ⟨rfl, T1.out.bel⟩
set_option maxHeartbeats 4000000 in
set_option maxRecDepth 100000 in
theorem halves_main (l m : List ByteArray) (ao bo : Option Addr) (lb lo c mb mo d : Nat) (w : World) (hl : StrsAt w ao lb lo l) (hm : StrsAt w bo mb mo m) (ht : Tabs w) (nl : l.length ≤ 9223372036854775807) (nm : m.length ≤ 9223372036854775807) (f1 : smallB l 32 = true) (f2 : smallB m 32 = true) (g1 : 1 ≤ m.length) (g2 : m.length ≤ l.length) (l32 : l.length ≤ 32) (sa : ∀ s ∈ l, s.size ≤ 100000) (sb : ∀ s ∈ m, s.size ≤ 100000) (sab : ∀ s ∈ l ++ m, s.size ≤ 100000) :
    Calls Tryd.prog 7 #[.slice ao l.length c, .slice bo m.length d] w fun e w' => e = .returned (.bool true) ∧ Below w.heap.size w w' := by
  have q0 : ((m.length : Int) == 0) = false := by have : ¬ (m.length : Int) = 0 := by omega
                                                  simpa using this
  have q1 : ¬ (l.length : Int) < (m.length : Int) := by omega
  have HL := Lib.hid hl
  have HM := Lib.hid hm
  have T0 := Lib.hid (Trk.start ht)
  clear hl hm ht
  go_enter Tryd.func7, Tryd.ntmps7
  go_wp2_with fail
  refine (head34 _ T0.out.tabs).mono ?_
  rintro e v1 ⟨rfl, hb⟩
  have T1 := Lib.hid (T0.out.step hb)
  replace HL := Lib.hid (HL.out.step hb)
  replace HM := Lib.hid (HM.out.step hb)
  clear hb
  go_wp2_with fail
  have hx := small_any l ao lb lo c 32 v1 nl HL.out
  rw [f1] at hx
  refine hx.mono ?_
  rintro e wx ⟨rfl, rfl⟩
  clear hx
  go_wp2_with fail
  have hx := small_any m bo mb mo d 32 v1 nm HM.out
  rw [f2] at hx
  refine hx.mono ?_
  rintro e wx ⟨rfl, rfl⟩
  clear hx
  go_wp2_with fail
  go_loopg [6] 65 (fun gk p wr => ∃ j, gk + 2 ^ j = 66 ∧ p = .int .i64 ((2 ^ j : Nat) : Int) ∧ v1 = wr)
  case atStart => exact ⟨0, by omega, rfl, rfl⟩
  case round =>
    obtain ⟨j, hg, rfl, rfl⟩ := hrel
    have hp := Nat.pow_succ 2 j
    have h1 : 1 ≤ 2 ^ j := Nat.one_le_two_pow
    have HRH := Lib.hid (fun (h : l.length = 2 ^ j) => root_halves h g1 g2)
    generalize hK : 2 ^ j = K at *
    have HP := Lib.hid hp
    have HK := Lib.hid hK
    clear hp hK
    by_cases hlt : K < l.length
    · have k1 : (K : Int) < (l.length : Int) := by omega
      have k2 : (K : Int) ≤ 32 := by omega
      go_wp2_with fail
      go_roundg (gk - K)
      case measure => omega
      case rel => exact ⟨j + 1, by rw [HP.out]; omega, by rw [HP.out]; go_num, rfl⟩
    · have k1 : ¬ (K : Int) < (l.length : Int) := by omega
      by_cases he : K = l.length
      · have q2 : ((K : Int) != (l.length : Int)) = false := by rw [he]; simp
        have q3 : ((K : Int) == (l.length : Int)) = true := by rw [he]; simp
        have hrh := HRH.out he.symm
        clear he HRH HP HK hg h1
        have HSL := Lib.hid ((HL.out.step (alloc_below v1 (.cells #[] 9))).src (c := c))
        have HRT := Lib.hid (fun ao' lb' lo' c' w h ht => Root_any (l ++ m) ao' lb' lo' c' w (by rw [List.length_append]; omega) sab h ht)
        rw [hrh] at HRT
        have RL := Lib.hid (fun w h ht => Root_any l ao lb lo c w (by omega) sa h ht)
        have RM := Lib.hid (fun w h ht => Root_any m bo mb mo d w (by omega) sb h ht)
        have RN := Lib.hid (fun w ht => node34_any (rootB l) (rootB m) w (rootB_size sa) (rootB_size sb) ht)
        have HLM : Hid ((l ++ m).length = l.length + m.length) := Lib.hid List.length_append
        generalize nodB (rootB l) (rootB m) = rr at *
        generalize rootB l = ra at *
        generalize rootB m = rb at *
        clear hrh
        go_wp2_with (first | (at_builtin; refine app_str rfl _ _ rfl v1.heap.size _ 0 [] rfl (own_empty1 v1 9) _ l.length (l.map Value.string) rfl HSL.out (by omega) (by simp) ?_; intro vx w8 hown hgrow _; rw [Nat.zero_add, List.nil_append] at hown; have B8 : Below v1.heap.size v1 w8 := ((Below.refl v1.heap.size v1).alloc (Nat.le_refl _) (.cells #[] 9)).grown hgrow (by simp) (fun k hk => by cases hk; exact Nat.le_refl _); have HO := Lib.hid hown; have HB8 := Lib.hid B8; have M8 := Lib.hid (HM.out.step B8); obtain ⟨ax, cx, hvx, _, _⟩ := hown.shape; subst hvx; clear hown hgrow B8) | (at_builtin; refine app_str rfl _ _ rfl v1.heap.size _ l.length (l.map Value.string) rfl HO.out _ m.length (m.map Value.string) rfl (M8.out.src (c := d)) (by omega) HB8.out.size ?_; intro v3 w9 hown3 hgrow3 _; have hlt3 := HO.out.lt; have B9 : Below v1.heap.size w8 w9 := (Below.refl v1.heap.size w8).grown hgrow3 HB8.out.size (fun g hg => (hlt3 g hg).1); have HB9 := Lib.hid (HB8.out.trans B9); have HOW := Lib.hid hown3; obtain ⟨av, cv, hv3, _, _⟩ := hown3.shape; subst hv3; clear hown3 hgrow3 hlt3 B9))
        have hO : Own w9 v1.heap.size 1 (.slice av (l.length + m.length) cv) (l ++ m).length ((l ++ m).map Value.string) := by
          rw [HLM.out, List.map_append]; exact HOW.out
        obtain ⟨ao2, cap2, lb2, lo2, hv2, hS, _⟩ := hO.strs
        rw [HLM.out] at hv2
        injection hv2 with e1 e2 e3
        subst e1 e3
        have T9 := Lib.hid (T1.out.step HB9.out)
        have L9 := Lib.hid (HL.out.step HB9.out)
        have M9 := Lib.hid (HM.out.step HB9.out)
        have hr := HRT.out _ _ _ cv w9 hS T9.out.tabs
        rw [HLM.out] at hr
        clear hO hS HOW HB9 HB8 HO M8 HSL HRT
        refine hr.mono ?_
        rintro e w10 ⟨rfl, hb⟩
        have T10 := Lib.hid (T9.out.step hb)
        have L10 := Lib.hid (L9.out.step hb)
        have M10 := Lib.hid (M9.out.step hb)
        clear hb hr
        go_wp2_with fail
        refine (RL.out _ L10.out T10.out.tabs).mono ?_
        rintro e w11 ⟨rfl, hb⟩
        have T11 := Lib.hid (T10.out.step hb)
        have M11 := Lib.hid (M10.out.step hb)
        clear hb
        go_wp2_with fail
        refine (RM.out _ M11.out T11.out.tabs).mono ?_
        rintro e w12 ⟨rfl, hb⟩
        have T12 := Lib.hid (T11.out.step hb)
        clear hb
        go_wp2_with fail
        refine (RN.out _ T12.out.tabs).mono ?_
        rintro e w13 ⟨rfl, hb⟩
        have T13 := Lib.hid (T12.out.step hb)
        clear hb
        go_wp2_with fail
        go_ret
        exact ⟨by first | rfl | simp, T13.out.bel⟩
      · have q2 : ((K : Int) != (l.length : Int)) = true := bne_iff_ne.2 (by omega)
        have q3 : ((K : Int) == (l.length : Int)) = false := beq_eq_false_iff_ne.2 (by omega)
        clear he
        go_wp2_with fail
        go_ret
        exact ⟨rfl, T1.out.bel⟩
theorem law_DiscloseHalves (l : List ByteArray) (ao : Option Addr) (lb lo c : Nat) (m : List ByteArray) (bo : Option Addr) (mb mo d : Nat) (w : World) (hl : StrsAt w ao lb lo l) (nl : l.length ≤ 9223372036854775807) (_ : l.length ≤ c) (hm : StrsAt w bo mb mo m) (nm : m.length ≤ 9223372036854775807) (_ : m.length ≤ d) (ht : Tabs w) :
    Calls Tryd.prog 7 #[.slice ao l.length c, .slice bo m.length d] w fun e w' => e = .returned (.bool true) ∧ Below w.heap.size w w' := by
  rcases f1 : smallB l 32 with _ | _
  · exact halves_s1 l m ao bo lb lo c mb mo d w hl hm ht nl nm f1
  rcases f2 : smallB m 32 with _ | _
  · exact halves_s2 l m ao bo lb lo c mb mo d w hl hm ht nl nm f1 f2
  have k1 := smallB_iff.1 f1
  have k2 := smallB_iff.1 f2
  by_cases h1 : m.length = 0
  · exact halves_e l m ao bo lb lo c mb mo d w hl hm ht nl nm f1 f2 (List.eq_nil_of_length_eq_zero h1)
  by_cases h2 : l.length < m.length
  · exact halves_g l m ao bo lb lo c mb mo d w hl hm ht nl nm f1 f2 h1 h2
  have sa : ∀ s ∈ l, s.size ≤ 100000 := fun s hs => Nat.le_trans (k1.2 s hs) (by decide)
  have sb : ∀ s ∈ m, s.size ≤ 100000 := fun s hs => Nat.le_trans (k2.2 s hs) (by decide)
  exact halves_main l m ao bo lb lo c mb mo d w hl hm ht nl nm f1 f2 (by omega) (by omega) (by omega) sa sb (fun s hs => (List.mem_append.1 hs).elim (sa s) (sb s))
end Go.Proofs.YtpdbcahiipbhnaaDoor

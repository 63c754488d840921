/- RatioOrder: for every three ratios. -/
import Derived.Test.YtfcdoifijgbjeaaDoorF5
import Derived.Test.YtfcdoifijgbjeaaDoorF5a
import Derived.Test.YtfcdoifijgbjeaaDoorF5b
import Derived.Test.YtfcdoifijgbjeaaDoorF5c
namespace Go.Proofs.YtfcdoifijgbjeaaDoor
open Go.RowKit

/-- What Cmp returns for two valid ratios. -/
@[irreducible] def cq (p q : Rat) : Int := sg3 (p.num * q.den - q.num * p.den)
theorem cq_lt {p q : Rat} (h : p < q) : cq p q = -1 := by
  unfold cq; exact sg3_neg (by have := Rat.lt_iff p q |>.1 h; omega)
theorem cq_eq (p : Rat) : cq p p = 0 := by unfold cq; exact sg3_zero (by omega)
theorem cq_gt {p q : Rat} (h : q < p) : cq p q = 1 := by
  unfold cq; exact sg3_pos (by have := Rat.lt_iff q p |>.1 h; omega)
theorem cq_tri (p q : Rat) : (p < q ∧ cq p q = -1) ∨ (p = q ∧ cq p q = 0) ∨ (q < p ∧ cq p q = 1) := by
  by_cases h1 : p < q
  · exact .inl ⟨h1, cq_lt h1⟩
  · by_cases h2 : q < p
    · exact .inr (.inr ⟨h2, cq_gt h2⟩)
    · have : p = q := Rat.le_antisymm (Rat.not_lt.1 h2) (Rat.not_lt.1 h1)
      subst this
      exact .inr (.inl ⟨rfl, cq_eq p⟩)
theorem cq_swap (p q : Rat) : cq q p = -cq p q := by
  rcases cq_tri p q with ⟨h, e⟩ | ⟨h, e⟩ | ⟨h, e⟩
  · rw [e, cq_gt h]; rfl
  · subst h; rw [e]; rfl
  · rw [e, cq_lt h]
theorem cq_le {p q : Rat} : cq p q ≤ 0 ↔ p ≤ q := by
  rcases cq_tri p q with ⟨h, e⟩ | ⟨h, e⟩ | ⟨h, e⟩
  · rw [e]; exact ⟨fun _ => (Rat.lt_iff_le_and_ne.1 h).1, fun _ => by omega⟩
  · subst h; rw [e]; exact ⟨fun _ => Rat.le_refl, fun _ => by omega⟩
  · rw [e]; exact ⟨fun h => by omega, fun h2 => absurd h (Rat.not_lt.2 h2)⟩
theorem cq_same {p q p' q' : Rat} (h1 : p' < q' ↔ p < q) (h2 : q' < p' ↔ q < p) : cq p' q' = cq p q := by
  rcases cq_tri p q with ⟨h, e⟩ | ⟨h, e⟩ | ⟨h, e⟩
  · rw [e, cq_lt (h1.2 h)]
  · rw [e]
    rcases cq_tri p' q' with ⟨h', _⟩ | ⟨_, e'⟩ | ⟨h', _⟩
    · rw [h] at h1; exact absurd (h1.1 h') (Rat.not_lt.2 Rat.le_refl)
    · exact e'
    · rw [h] at h2; exact absurd (h2.1 h') (Rat.not_lt.2 Rat.le_refl)
  · rw [e, cq_gt (h2.2 h)]
theorem cq_add (p q r : Rat) : cq (p + r) (q + r) = cq p q := cq_same Rat.add_lt_add_right Rat.add_lt_add_right
theorem cq_mul (p q r : Rat) (h : 0 < r.num) : cq (p * r) (q * r) = cq p q := by
  have hr : 0 < r := (Rat.lt_iff 0 r).2 (by show (0 : Int) * r.den < r.num * 1; omega)
  exact cq_same (Rat.mul_lt_mul_right hr) (Rat.mul_lt_mul_right hr)
theorem cq_bool (p q : Rat) : (p.num == q.num && (p.den : Int) == (q.den : Int)) = (cq p q == 0) := by
  rcases cq_tri p q with ⟨h, e⟩ | ⟨h, e⟩ | ⟨h, e⟩
  · rw [e]
    by_cases h1 : p.num = q.num ∧ (p.den : Int) = q.den
    · have := q_ext h1.1 h1.2; subst this; exact absurd h (Rat.not_lt.2 Rat.le_refl)
    · have : (p.num == q.num && (p.den : Int) == (q.den : Int)) = false := by
        rw [Bool.and_eq_false_iff]; simp only [beq_eq_false_iff_ne]; by_cases h2 : p.num = q.num
        · exact .inr fun h3 => h1 ⟨h2, h3⟩
        · exact .inl h2
      rw [this]; rfl
  · subst h; rw [e]; simp
  · rw [e]
    by_cases h1 : p.num = q.num ∧ (p.den : Int) = q.den
    · have := q_ext h1.1 h1.2; subst this; exact absurd h (Rat.not_lt.2 Rat.le_refl)
    · have : (p.num == q.num && (p.den : Int) == (q.den : Int)) = false := by
        rw [Bool.and_eq_false_iff]; simp only [beq_eq_false_iff_ne]; by_cases h2 : p.num = q.num
        · exact .inr fun h3 => h1 ⟨h2, h3⟩
        · exact .inl h2
      rw [this]; rfl
theorem Cmp_q (p q : Rat) (w : World) (hp : Rok p) (hq : Rok q) :
    Calls Tryd.prog 16 #[.agg #[.int .i64 p.num, .int .i64 p.den], .agg #[.int .i64 q.num, .int .i64 q.den]] w fun e' w' => e' = .returned (.int .i64 (cq p q)) ∧ Below w.heap.size w w' := by
  have h := Cmp_ok p q w hp hq
  unfold cq; exact h
theorem AddR (p r : Rat) (hp : Rok p) (hr : Rok r) : (Rok (p + r) ∧ ∀ w, Calls Tryd.prog 17 #[.agg #[.int .i64 p.num, .int .i64 p.den], .agg #[.int .i64 r.num, .int .i64 r.den]] w (Ret3 w (p + r).num (p + r).den 0)) ∨
    ∀ w, Calls Tryd.prog 17 #[.agg #[.int .i64 p.num, .int .i64 p.den], .agg #[.int .i64 r.num, .int .i64 r.den]] w (Ret3 w 0 0 2) := by
  have h := fun w => Add_ok p r w hp hr
  by_cases hs : Rok (p + r)
  · rw [resN_ok hs, resD_ok hs, resE_ok hs] at h; exact .inl ⟨hs, h⟩
  · rw [resN_no hs, resD_no hs, resE_no hs] at h; exact .inr h
theorem MulR (p r : Rat) (hp : Rok p) (hr : Rok r) : (Rok (p * r) ∧ ∀ w, Calls Tryd.prog 18 #[.agg #[.int .i64 p.num, .int .i64 p.den], .agg #[.int .i64 r.num, .int .i64 r.den]] w (Ret3 w (p * r).num (p * r).den 0)) ∨
    ∀ w, Calls Tryd.prog 18 #[.agg #[.int .i64 p.num, .int .i64 p.den], .agg #[.int .i64 r.num, .int .i64 r.den]] w (Ret3 w 0 0 2) := by
  have h := fun w => Mul_ok p r w hp hr
  by_cases hs : Rok (p * r)
  · rw [resN_ok hs, resD_ok hs, resE_ok hs] at h; exact .inl ⟨hs, h⟩
  · rw [resN_no hs, resD_no hs, resE_no hs] at h; exact .inr h

set_option maxHeartbeats 4000000 in
theorem law_RatioOrder (an ad bn bd cn cd : Int) (w : World) (h1 : (Lit.int .i64 an).wf = true) (h2 : (Lit.int .i64 ad).wf = true) (h3 : (Lit.int .i64 bn).wf = true) (h4 : (Lit.int .i64 bd).wf = true) (h5 : (Lit.int .i64 cn).wf = true) (h6 : (Lit.int .i64 cd).wf = true) (ht : Tabs w) :
    Calls Tryd.prog 4 #[.agg #[.int .i64 an, .int .i64 ad], .agg #[.int .i64 bn, .int .i64 bd], .agg #[.int .i64 cn, .int .i64 cd]] w fun e w' => e = .returned (.bool true) ∧ Below w.heap.size w w' := by
  have i : ∀ {x : Int}, (Lit.int .i64 x).wf = true → I64 x := fun h => by simp only [Lit.wf, Bool.and_eq_true, decide_eq_true_eq] at h; exact h
  rcases hva : vld an ad with _ | _
  · exact order_i1 an ad bn bd cn cd w ht (V_no (i h1) (i h2) hva)
  rcases hvb : vld bn bd with _ | _
  · exact order_i2 an ad bn bd cn cd w ht (V_yes (i h1) (i h2) hva) (V_no (i h3) (i h4) hvb)
  rcases hvc : vld cn cd with _ | _
  · exact order_i3 an ad bn bd cn cd w ht (V_yes (i h1) (i h2) hva) (V_yes (i h3) (i h4) hvb) (V_no (i h5) (i h6) hvc)
  obtain ⟨p, rfl, rfl, hp⟩ := vld_q hva
  obtain ⟨q, rfl, rfl, hq⟩ := vld_q hvb
  obtain ⟨r, rfl, rfl, hr⟩ := vld_q hvc
  clear h1 h2 h3 h4 h5 h6 hva hvb hvc i
  have vA := V_ok hp
  have vB := V_ok hq
  have vC := V_ok hr
  have cK := fun w => Cmp_q p q w hp hq
  have cL := fun w => Cmp_q q p w hq hp
  rw [cq_swap p q] at cL
  have cU := fun w => Cmp_q q r w hq hr
  have cW := fun w => Cmp_q p r w hp hr
  have kb : -1 ≤ cq p q ∧ cq p q ≤ 1 := by rcases cq_tri p q with ⟨_, e⟩ | ⟨_, e⟩ | ⟨_, e⟩ <;> rw [e] <;> decide
  have hAB := cq_bool p q
  by_cases hkp : 0 < cq p q
  · skip
    rcases AddR p r hp hr with ⟨hS, sS⟩ | sS
    · rcases AddR q r hq hr with ⟨hT, sT⟩ | sT
      · have gST := fun w => Cmp_q (p + r) (q + r) w hS hT
        rw [cq_add] at gST
        by_cases hcn : r.num ≤ 0
        · rcases MulR p r hp hr with ⟨_, sX⟩ | sX <;> rcases MulR q r hq hr with ⟨_, sY⟩ | sY <;> exact order_131 _ _ _ _ _ _ _ _ _ _ _ _ _ _ _ _ _ _ _ w ht vA vB vC cK cL _ hAB kb.1 kb.2 rfl hkp sS sT sX sY (by decide) (by decide) gST hcn
        · have hcn : 0 < r.num := by omega
          rcases MulR p r hp hr with ⟨hX, sX⟩ | sX
          · rcases MulR q r hq hr with ⟨hY, sY⟩ | sY
            · have zXY := fun w => Cmp_q (p * r) (q * r) w hX hY
              rw [cq_mul p q r hcn] at zXY
              exact order_134 _ _ _ _ _ _ _ _ _ _ _ _ _ _ _ _ _ _ _ w ht vA vB vC cK cL _ hAB kb.1 kb.2 rfl hkp sS sT sX sY (by decide) (by decide) gST hcn (by decide) (by decide) zXY
            · exact order_133 _ _ _ _ _ _ _ _ _ _ _ _ _ _ _ _ _ _ _ w ht vA vB vC cK cL _ hAB kb.1 kb.2 rfl hkp sS sT sX sY (by decide) (by decide) gST hcn (by decide) (by decide)
          · rcases MulR q r hq hr with ⟨hY, sY⟩ | sY <;> exact order_132 _ _ _ _ _ _ _ _ _ _ _ _ _ _ _ _ _ _ _ w ht vA vB vC cK cL _ hAB kb.1 kb.2 rfl hkp sS sT sX sY (by decide) (by decide) gST hcn (by decide)
      · skip
        by_cases hcn : r.num ≤ 0
        · rcases MulR p r hp hr with ⟨_, sX⟩ | sX <;> rcases MulR q r hq hr with ⟨_, sY⟩ | sY <;> exact order_121 _ _ _ _ _ _ _ _ _ _ _ _ _ _ _ _ _ _ _ w ht vA vB vC cK cL _ hAB kb.1 kb.2 rfl hkp sS sT sX sY (by decide) (by decide) hcn
        · have hcn : 0 < r.num := by omega
          rcases MulR p r hp hr with ⟨hX, sX⟩ | sX
          · rcases MulR q r hq hr with ⟨hY, sY⟩ | sY
            · have zXY := fun w => Cmp_q (p * r) (q * r) w hX hY
              rw [cq_mul p q r hcn] at zXY
              exact order_124 _ _ _ _ _ _ _ _ _ _ _ _ _ _ _ _ _ _ _ w ht vA vB vC cK cL _ hAB kb.1 kb.2 rfl hkp sS sT sX sY (by decide) (by decide) hcn (by decide) (by decide) zXY
            · exact order_123 _ _ _ _ _ _ _ _ _ _ _ _ _ _ _ _ _ _ _ w ht vA vB vC cK cL _ hAB kb.1 kb.2 rfl hkp sS sT sX sY (by decide) (by decide) hcn (by decide) (by decide)
          · rcases MulR q r hq hr with ⟨hY, sY⟩ | sY <;> exact order_122 _ _ _ _ _ _ _ _ _ _ _ _ _ _ _ _ _ _ _ w ht vA vB vC cK cL _ hAB kb.1 kb.2 rfl hkp sS sT sX sY (by decide) (by decide) hcn (by decide)
    · rcases AddR q r hq hr with ⟨hT, sT⟩ | sT
      · skip
        by_cases hcn : r.num ≤ 0
        · rcases MulR p r hp hr with ⟨_, sX⟩ | sX <;> rcases MulR q r hq hr with ⟨_, sY⟩ | sY <;> exact order_111 _ _ _ _ _ _ _ _ _ _ _ _ _ _ _ _ _ _ _ w ht vA vB vC cK cL _ hAB kb.1 kb.2 rfl hkp sS sT sX sY (by decide) hcn
        · have hcn : 0 < r.num := by omega
          rcases MulR p r hp hr with ⟨hX, sX⟩ | sX
          · rcases MulR q r hq hr with ⟨hY, sY⟩ | sY
            · have zXY := fun w => Cmp_q (p * r) (q * r) w hX hY
              rw [cq_mul p q r hcn] at zXY
              exact order_114 _ _ _ _ _ _ _ _ _ _ _ _ _ _ _ _ _ _ _ w ht vA vB vC cK cL _ hAB kb.1 kb.2 rfl hkp sS sT sX sY (by decide) hcn (by decide) (by decide) zXY
            · exact order_113 _ _ _ _ _ _ _ _ _ _ _ _ _ _ _ _ _ _ _ w ht vA vB vC cK cL _ hAB kb.1 kb.2 rfl hkp sS sT sX sY (by decide) hcn (by decide) (by decide)
          · rcases MulR q r hq hr with ⟨hY, sY⟩ | sY <;> exact order_112 _ _ _ _ _ _ _ _ _ _ _ _ _ _ _ _ _ _ _ w ht vA vB vC cK cL _ hAB kb.1 kb.2 rfl hkp sS sT sX sY (by decide) hcn (by decide)
      · skip
        by_cases hcn : r.num ≤ 0
        · rcases MulR p r hp hr with ⟨_, sX⟩ | sX <;> rcases MulR q r hq hr with ⟨_, sY⟩ | sY <;> exact order_111 _ _ _ _ _ _ _ _ _ _ _ _ _ _ _ _ _ _ _ w ht vA vB vC cK cL _ hAB kb.1 kb.2 rfl hkp sS sT sX sY (by decide) hcn
        · have hcn : 0 < r.num := by omega
          rcases MulR p r hp hr with ⟨hX, sX⟩ | sX
          · rcases MulR q r hq hr with ⟨hY, sY⟩ | sY
            · have zXY := fun w => Cmp_q (p * r) (q * r) w hX hY
              rw [cq_mul p q r hcn] at zXY
              exact order_114 _ _ _ _ _ _ _ _ _ _ _ _ _ _ _ _ _ _ _ w ht vA vB vC cK cL _ hAB kb.1 kb.2 rfl hkp sS sT sX sY (by decide) hcn (by decide) (by decide) zXY
            · exact order_113 _ _ _ _ _ _ _ _ _ _ _ _ _ _ _ _ _ _ _ w ht vA vB vC cK cL _ hAB kb.1 kb.2 rfl hkp sS sT sX sY (by decide) hcn (by decide) (by decide)
          · rcases MulR q r hq hr with ⟨hY, sY⟩ | sY <;> exact order_112 _ _ _ _ _ _ _ _ _ _ _ _ _ _ _ _ _ _ _ w ht vA vB vC cK cL _ hAB kb.1 kb.2 rfl hkp sS sT sX sY (by decide) hcn (by decide)
  · have hkp : cq p q ≤ 0 := by omega
    by_cases hu : 0 < cq q r
    · skip
      rcases AddR p r hp hr with ⟨hS, sS⟩ | sS
      · rcases AddR q r hq hr with ⟨hT, sT⟩ | sT
        · have gST := fun w => Cmp_q (p + r) (q + r) w hS hT
          rw [cq_add] at gST
          by_cases hcn : r.num ≤ 0
          · rcases MulR p r hp hr with ⟨_, sX⟩ | sX <;> rcases MulR q r hq hr with ⟨_, sY⟩ | sY <;> exact order_231 _ _ _ _ _ _ _ _ _ _ _ _ _ _ _ _ _ _ _ _ w ht vA vB vC cK cL _ hAB kb.1 kb.2 rfl cU hkp hu sS sT sX sY (by decide) (by decide) gST hcn
          · have hcn : 0 < r.num := by omega
            rcases MulR p r hp hr with ⟨hX, sX⟩ | sX
            · rcases MulR q r hq hr with ⟨hY, sY⟩ | sY
              · have zXY := fun w => Cmp_q (p * r) (q * r) w hX hY
                rw [cq_mul p q r hcn] at zXY
                exact order_234 _ _ _ _ _ _ _ _ _ _ _ _ _ _ _ _ _ _ _ _ w ht vA vB vC cK cL _ hAB kb.1 kb.2 rfl cU hkp hu sS sT sX sY (by decide) (by decide) gST hcn (by decide) (by decide) zXY
              · exact order_233 _ _ _ _ _ _ _ _ _ _ _ _ _ _ _ _ _ _ _ _ w ht vA vB vC cK cL _ hAB kb.1 kb.2 rfl cU hkp hu sS sT sX sY (by decide) (by decide) gST hcn (by decide) (by decide)
            · rcases MulR q r hq hr with ⟨hY, sY⟩ | sY <;> exact order_232 _ _ _ _ _ _ _ _ _ _ _ _ _ _ _ _ _ _ _ _ w ht vA vB vC cK cL _ hAB kb.1 kb.2 rfl cU hkp hu sS sT sX sY (by decide) (by decide) gST hcn (by decide)
        · skip
          by_cases hcn : r.num ≤ 0
          · rcases MulR p r hp hr with ⟨_, sX⟩ | sX <;> rcases MulR q r hq hr with ⟨_, sY⟩ | sY <;> exact order_221 _ _ _ _ _ _ _ _ _ _ _ _ _ _ _ _ _ _ _ _ w ht vA vB vC cK cL _ hAB kb.1 kb.2 rfl cU hkp hu sS sT sX sY (by decide) (by decide) hcn
          · have hcn : 0 < r.num := by omega
            rcases MulR p r hp hr with ⟨hX, sX⟩ | sX
            · rcases MulR q r hq hr with ⟨hY, sY⟩ | sY
              · have zXY := fun w => Cmp_q (p * r) (q * r) w hX hY
                rw [cq_mul p q r hcn] at zXY
                exact order_224 _ _ _ _ _ _ _ _ _ _ _ _ _ _ _ _ _ _ _ _ w ht vA vB vC cK cL _ hAB kb.1 kb.2 rfl cU hkp hu sS sT sX sY (by decide) (by decide) hcn (by decide) (by decide) zXY
              · exact order_223 _ _ _ _ _ _ _ _ _ _ _ _ _ _ _ _ _ _ _ _ w ht vA vB vC cK cL _ hAB kb.1 kb.2 rfl cU hkp hu sS sT sX sY (by decide) (by decide) hcn (by decide) (by decide)
            · rcases MulR q r hq hr with ⟨hY, sY⟩ | sY <;> exact order_222 _ _ _ _ _ _ _ _ _ _ _ _ _ _ _ _ _ _ _ _ w ht vA vB vC cK cL _ hAB kb.1 kb.2 rfl cU hkp hu sS sT sX sY (by decide) (by decide) hcn (by decide)
      · rcases AddR q r hq hr with ⟨hT, sT⟩ | sT
        · skip
          by_cases hcn : r.num ≤ 0
          · rcases MulR p r hp hr with ⟨_, sX⟩ | sX <;> rcases MulR q r hq hr with ⟨_, sY⟩ | sY <;> exact order_211 _ _ _ _ _ _ _ _ _ _ _ _ _ _ _ _ _ _ _ _ w ht vA vB vC cK cL _ hAB kb.1 kb.2 rfl cU hkp hu sS sT sX sY (by decide) hcn
          · have hcn : 0 < r.num := by omega
            rcases MulR p r hp hr with ⟨hX, sX⟩ | sX
            · rcases MulR q r hq hr with ⟨hY, sY⟩ | sY
              · have zXY := fun w => Cmp_q (p * r) (q * r) w hX hY
                rw [cq_mul p q r hcn] at zXY
                exact order_214 _ _ _ _ _ _ _ _ _ _ _ _ _ _ _ _ _ _ _ _ w ht vA vB vC cK cL _ hAB kb.1 kb.2 rfl cU hkp hu sS sT sX sY (by decide) hcn (by decide) (by decide) zXY
              · exact order_213 _ _ _ _ _ _ _ _ _ _ _ _ _ _ _ _ _ _ _ _ w ht vA vB vC cK cL _ hAB kb.1 kb.2 rfl cU hkp hu sS sT sX sY (by decide) hcn (by decide) (by decide)
            · rcases MulR q r hq hr with ⟨hY, sY⟩ | sY <;> exact order_212 _ _ _ _ _ _ _ _ _ _ _ _ _ _ _ _ _ _ _ _ w ht vA vB vC cK cL _ hAB kb.1 kb.2 rfl cU hkp hu sS sT sX sY (by decide) hcn (by decide)
        · skip
          by_cases hcn : r.num ≤ 0
          · rcases MulR p r hp hr with ⟨_, sX⟩ | sX <;> rcases MulR q r hq hr with ⟨_, sY⟩ | sY <;> exact order_211 _ _ _ _ _ _ _ _ _ _ _ _ _ _ _ _ _ _ _ _ w ht vA vB vC cK cL _ hAB kb.1 kb.2 rfl cU hkp hu sS sT sX sY (by decide) hcn
          · have hcn : 0 < r.num := by omega
            rcases MulR p r hp hr with ⟨hX, sX⟩ | sX
            · rcases MulR q r hq hr with ⟨hY, sY⟩ | sY
              · have zXY := fun w => Cmp_q (p * r) (q * r) w hX hY
                rw [cq_mul p q r hcn] at zXY
                exact order_214 _ _ _ _ _ _ _ _ _ _ _ _ _ _ _ _ _ _ _ _ w ht vA vB vC cK cL _ hAB kb.1 kb.2 rfl cU hkp hu sS sT sX sY (by decide) hcn (by decide) (by decide) zXY
              · exact order_213 _ _ _ _ _ _ _ _ _ _ _ _ _ _ _ _ _ _ _ _ w ht vA vB vC cK cL _ hAB kb.1 kb.2 rfl cU hkp hu sS sT sX sY (by decide) hcn (by decide) (by decide)
            · rcases MulR q r hq hr with ⟨hY, sY⟩ | sY <;> exact order_212 _ _ _ _ _ _ _ _ _ _ _ _ _ _ _ _ _ _ _ _ w ht vA vB vC cK cL _ hAB kb.1 kb.2 rfl cU hkp hu sS sT sX sY (by decide) hcn (by decide)
    · have hu : cq q r ≤ 0 := by omega
      have hv : cq p r ≤ 0 := cq_le.2 (Rat.le_trans (cq_le.1 hkp) (cq_le.1 hu))
      rcases AddR p r hp hr with ⟨hS, sS⟩ | sS
      · rcases AddR q r hq hr with ⟨hT, sT⟩ | sT
        · have gST := fun w => Cmp_q (p + r) (q + r) w hS hT
          rw [cq_add] at gST
          by_cases hcn : r.num ≤ 0
          · rcases MulR p r hp hr with ⟨_, sX⟩ | sX <;> rcases MulR q r hq hr with ⟨_, sY⟩ | sY <;> exact order_331 _ _ _ _ _ _ _ _ _ _ _ _ _ _ _ _ _ _ _ _ _ w ht vA vB vC cK cL _ hAB kb.1 kb.2 rfl cU cW hkp hu hv sS sT sX sY (by decide) (by decide) gST hcn
          · have hcn : 0 < r.num := by omega
            rcases MulR p r hp hr with ⟨hX, sX⟩ | sX
            · rcases MulR q r hq hr with ⟨hY, sY⟩ | sY
              · have zXY := fun w => Cmp_q (p * r) (q * r) w hX hY
                rw [cq_mul p q r hcn] at zXY
                exact order_334 _ _ _ _ _ _ _ _ _ _ _ _ _ _ _ _ _ _ _ _ _ w ht vA vB vC cK cL _ hAB kb.1 kb.2 rfl cU cW hkp hu hv sS sT sX sY (by decide) (by decide) gST hcn (by decide) (by decide) zXY
              · exact order_333 _ _ _ _ _ _ _ _ _ _ _ _ _ _ _ _ _ _ _ _ _ w ht vA vB vC cK cL _ hAB kb.1 kb.2 rfl cU cW hkp hu hv sS sT sX sY (by decide) (by decide) gST hcn (by decide) (by decide)
            · rcases MulR q r hq hr with ⟨hY, sY⟩ | sY <;> exact order_332 _ _ _ _ _ _ _ _ _ _ _ _ _ _ _ _ _ _ _ _ _ w ht vA vB vC cK cL _ hAB kb.1 kb.2 rfl cU cW hkp hu hv sS sT sX sY (by decide) (by decide) gST hcn (by decide)
        · skip
          by_cases hcn : r.num ≤ 0
          · rcases MulR p r hp hr with ⟨_, sX⟩ | sX <;> rcases MulR q r hq hr with ⟨_, sY⟩ | sY <;> exact order_321 _ _ _ _ _ _ _ _ _ _ _ _ _ _ _ _ _ _ _ _ _ w ht vA vB vC cK cL _ hAB kb.1 kb.2 rfl cU cW hkp hu hv sS sT sX sY (by decide) (by decide) hcn
          · have hcn : 0 < r.num := by omega
            rcases MulR p r hp hr with ⟨hX, sX⟩ | sX
            · rcases MulR q r hq hr with ⟨hY, sY⟩ | sY
              · have zXY := fun w => Cmp_q (p * r) (q * r) w hX hY
                rw [cq_mul p q r hcn] at zXY
                exact order_324 _ _ _ _ _ _ _ _ _ _ _ _ _ _ _ _ _ _ _ _ _ w ht vA vB vC cK cL _ hAB kb.1 kb.2 rfl cU cW hkp hu hv sS sT sX sY (by decide) (by decide) hcn (by decide) (by decide) zXY
              · exact order_323 _ _ _ _ _ _ _ _ _ _ _ _ _ _ _ _ _ _ _ _ _ w ht vA vB vC cK cL _ hAB kb.1 kb.2 rfl cU cW hkp hu hv sS sT sX sY (by decide) (by decide) hcn (by decide) (by decide)
            · rcases MulR q r hq hr with ⟨hY, sY⟩ | sY <;> exact order_322 _ _ _ _ _ _ _ _ _ _ _ _ _ _ _ _ _ _ _ _ _ w ht vA vB vC cK cL _ hAB kb.1 kb.2 rfl cU cW hkp hu hv sS sT sX sY (by decide) (by decide) hcn (by decide)
      · rcases AddR q r hq hr with ⟨hT, sT⟩ | sT
        · skip
          by_cases hcn : r.num ≤ 0
          · rcases MulR p r hp hr with ⟨_, sX⟩ | sX <;> rcases MulR q r hq hr with ⟨_, sY⟩ | sY <;> exact order_311 _ _ _ _ _ _ _ _ _ _ _ _ _ _ _ _ _ _ _ _ _ w ht vA vB vC cK cL _ hAB kb.1 kb.2 rfl cU cW hkp hu hv sS sT sX sY (by decide) hcn
          · have hcn : 0 < r.num := by omega
            rcases MulR p r hp hr with ⟨hX, sX⟩ | sX
            · rcases MulR q r hq hr with ⟨hY, sY⟩ | sY
              · have zXY := fun w => Cmp_q (p * r) (q * r) w hX hY
                rw [cq_mul p q r hcn] at zXY
                exact order_314 _ _ _ _ _ _ _ _ _ _ _ _ _ _ _ _ _ _ _ _ _ w ht vA vB vC cK cL _ hAB kb.1 kb.2 rfl cU cW hkp hu hv sS sT sX sY (by decide) hcn (by decide) (by decide) zXY
              · exact order_313 _ _ _ _ _ _ _ _ _ _ _ _ _ _ _ _ _ _ _ _ _ w ht vA vB vC cK cL _ hAB kb.1 kb.2 rfl cU cW hkp hu hv sS sT sX sY (by decide) hcn (by decide) (by decide)
            · rcases MulR q r hq hr with ⟨hY, sY⟩ | sY <;> exact order_312 _ _ _ _ _ _ _ _ _ _ _ _ _ _ _ _ _ _ _ _ _ w ht vA vB vC cK cL _ hAB kb.1 kb.2 rfl cU cW hkp hu hv sS sT sX sY (by decide) hcn (by decide)
        · skip
          by_cases hcn : r.num ≤ 0
          · rcases MulR p r hp hr with ⟨_, sX⟩ | sX <;> rcases MulR q r hq hr with ⟨_, sY⟩ | sY <;> exact order_311 _ _ _ _ _ _ _ _ _ _ _ _ _ _ _ _ _ _ _ _ _ w ht vA vB vC cK cL _ hAB kb.1 kb.2 rfl cU cW hkp hu hv sS sT sX sY (by decide) hcn
          · have hcn : 0 < r.num := by omega
            rcases MulR p r hp hr with ⟨hX, sX⟩ | sX
            · rcases MulR q r hq hr with ⟨hY, sY⟩ | sY
              · have zXY := fun w => Cmp_q (p * r) (q * r) w hX hY
                rw [cq_mul p q r hcn] at zXY
                exact order_314 _ _ _ _ _ _ _ _ _ _ _ _ _ _ _ _ _ _ _ _ _ w ht vA vB vC cK cL _ hAB kb.1 kb.2 rfl cU cW hkp hu hv sS sT sX sY (by decide) hcn (by decide) (by decide) zXY
              · exact order_313 _ _ _ _ _ _ _ _ _ _ _ _ _ _ _ _ _ _ _ _ _ w ht vA vB vC cK cL _ hAB kb.1 kb.2 rfl cU cW hkp hu hv sS sT sX sY (by decide) hcn (by decide) (by decide)
            · rcases MulR q r hq hr with ⟨hY, sY⟩ | sY <;> exact order_312 _ _ _ _ _ _ _ _ _ _ _ _ _ _ _ _ _ _ _ _ _ w ht vA vB vC cK cL _ hAB kb.1 kb.2 rfl cU cW hkp hu hv sS sT sX sY (by decide) hcn (by decide)
end Go.Proofs.YtfcdoifijgbjeaaDoor

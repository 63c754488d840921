/- RatioField: for every three ratios. -/
import Derived.Test.YtfcdoifijgbjeaaDoorF8
import Derived.Test.YtfcdoifijgbjeaaDoorF8a
import Derived.Test.YtfcdoifijgbjeaaDoorF8b
import Derived.Test.YtfcdoifijgbjeaaDoorF8c
import Derived.Test.YtfcdoifijgbjeaaDoorF8d
namespace Go.Proofs.YtfcdoifijgbjeaaDoor
open Go.RowKit

theorem AddR (p r : Rat) (hp : Rok p) (hr : Rok r) : (Rok (p + r) ∧ ∀ w, Calls Tryd.prog 17 #[.agg #[.int .i64 p.num, .int .i64 p.den], .agg #[.int .i64 r.num, .int .i64 r.den]] w (Ret3 w (p + r).num (p + r).den 0)) ∨
    ∀ w, Calls Tryd.prog 17 #[.agg #[.int .i64 p.num, .int .i64 p.den], .agg #[.int .i64 r.num, .int .i64 r.den]] w (Ret3 w 0 0 2) := by
  have h := fun w => Add_ok p r w hp hr
  by_cases hs : Rok (p + r)
  · rw [resN_ok hs, resD_ok hs, resE_ok hs] at h; exact .inl ⟨hs, h⟩
  · rw [resN_no hs, resD_no hs, resE_no hs] at h; exact .inr h
theorem MulR (p r : Rat) (hp : Rok p) (hr : Rok r) : (Rok (p * r) ∧ ∀ w, Calls Tryd.prog 18 #[.agg #[.int .i64 p.num, .int .i64 p.den], .agg #[.int .i64 r.num, .int .i64 r.den]] w (Ret3 w (p * r).num (p * r).den 0)) ∨
    ∀ w, Calls Tryd.prog 18 #[.agg #[.int .i64 p.num, .int .i64 p.den], .agg #[.int .i64 r.num, .int .i64 r.den]] w (Ret3 w 0 0 2) := by
  have h := fun w => Mul_ok p r w hp hr
  by_cases hs : Rok (p * r)
  · rw [resN_ok hs, resD_ok hs, resE_ok hs] at h; exact .inl ⟨hs, h⟩
  · rw [resN_no hs, resD_no hs, resE_no hs] at h; exact .inr h
theorem SubBack (p q : Rat) (hp : Rok p) (hq : Rok q) (hs : Rok (p + q)) (w : World) : Calls Tryd.prog 28 #[.agg #[.int .i64 (p + q).num, .int .i64 (p + q).den], .agg #[.int .i64 q.num, .int .i64 q.den]] w (Ret3 w p.num p.den 0) := by
  have h := Sub_ok (p + q) q w hs hq
  rw [Rat.add_assoc, Rat.add_neg_cancel, Rat.add_zero, resN_ok hp, resD_ok hp, resE_ok hp] at h
  exact h
theorem DivBack (p q : Rat) (hp : Rok p) (hq : Rok q) (hs : Rok (p * q)) (h0 : q.num ≠ 0) (w : World) : Calls Tryd.prog 31 #[.agg #[.int .i64 (p * q).num, .int .i64 (p * q).den], .agg #[.int .i64 q.num, .int .i64 q.den]] w (Ret3 w p.num p.den 0) := by
  have h := Div_ok (p * q) q w hs hq h0
  have hq0 : q ≠ 0 := fun e => h0 (by rw [e]; rfl)
  rw [Rat.mul_assoc, Rat.mul_inv_cancel q hq0, Rat.mul_one, resN_ok hp, resD_ok hp, resE_ok hp] at h
  exact h

set_option maxHeartbeats 4000000 in
theorem law_RatioField (an ad bn bd cn cd : Int) (w : World) (h1 : (Lit.int .i64 an).wf = true) (h2 : (Lit.int .i64 ad).wf = true) (h3 : (Lit.int .i64 bn).wf = true) (h4 : (Lit.int .i64 bd).wf = true) (h5 : (Lit.int .i64 cn).wf = true) (h6 : (Lit.int .i64 cd).wf = true) (ht : Tabs w) :
    Calls Tryd.prog 9 #[.agg #[.int .i64 an, .int .i64 ad], .agg #[.int .i64 bn, .int .i64 bd], .agg #[.int .i64 cn, .int .i64 cd]] w fun e w' => e = .returned (.bool true) ∧ Below w.heap.size w w' := by
  have i : ∀ {x : Int}, (Lit.int .i64 x).wf = true → I64 x := fun h => by simp only [Lit.wf, Bool.and_eq_true, decide_eq_true_eq] at h; exact h
  rcases hva : vld an ad with _ | _
  · exact field_i1 an ad bn bd cn cd w ht (V_no (i h1) (i h2) hva)
  rcases hvb : vld bn bd with _ | _
  · exact field_i2 an ad bn bd cn cd w ht (V_yes (i h1) (i h2) hva) (V_no (i h3) (i h4) hvb)
  rcases hvc : vld cn cd with _ | _
  · exact field_i3 an ad bn bd cn cd w ht (V_yes (i h1) (i h2) hva) (V_yes (i h3) (i h4) hvb) (V_no (i h5) (i h6) hvc)
  obtain ⟨p, rfl, rfl, hp⟩ := vld_q hva
  obtain ⟨q, rfl, rfl, hq⟩ := vld_q hvb
  obtain ⟨r, rfl, rfl, hr⟩ := vld_q hvc
  clear h1 h2 h3 h4 h5 h6 hva hvb hvc i
  have vA := V_ok hp
  have vB := V_ok hq
  have vC := V_ok hr
  have sab := fun w => Add_ok p q w hp hq
  have sba := fun w => Add_ok q p w hq hp
  rw [Rat.add_comm q p] at sba
  have pab := fun w => Mul_ok p q w hp hq
  have pba := fun w => Mul_ok q p w hq hp
  rw [Rat.mul_comm q p] at pba
  by_cases hs : Rok (p + q)
  · rw [resN_ok hs, resD_ok hs, resE_ok hs] at sab sba
    by_cases hm : Rok (p * q)
    · rw [resN_ok hm, resD_ok hm, resE_ok hm] at pab pba
      by_cases h0 : q.num = 0
      · skip
        rcases AddR q r hq hr with ⟨hu, cU⟩ | cU
        · skip
          rcases MulR q r hq hr with ⟨hv, cV⟩ | cV
          · skip
            rcases MulR p r hp hr with ⟨hw, cQ⟩ | cQ
            · exact field_11111 _ _ _ _ _ _ _ _ _ _ _ _ _ _ _ _ _ _ _ _ _ _ _ _ _ w ht vA vB vC sab sba pab pba (SubBack p q hp hq hs) (by simp [h0]) cU cV cQ (fun w => Add_ok (p + q) r w hs hr) (fun w => by rw [Rat.add_assoc]; exact Add_ok p (q + r) w hp hu) (fun w => Mul_ok (p * q) r w hm hr) (fun w => by rw [Rat.mul_assoc]; exact Mul_ok p (q * r) w hp hv) (fun w => Mul_ok p (q + r) w hp hu) (fun w => by rw [Rat.mul_add]; exact Add_ok (p * q) (p * r) w hm hw)
            · exact field_11110 _ _ _ _ _ _ _ _ _ _ _ _ _ _ _ _ _ _ _ _ w ht vA vB vC sab sba pab pba (SubBack p q hp hq hs) (by simp [h0]) cU cV cQ (fun w => Add_ok (p + q) r w hs hr) (fun w => by rw [Rat.add_assoc]; exact Add_ok p (q + r) w hp hu) (fun w => Mul_ok (p * q) r w hm hr) (fun w => by rw [Rat.mul_assoc]; exact Mul_ok p (q * r) w hp hv)
          · skip
            rcases MulR p r hp hr with ⟨hw, cQ⟩ | cQ
            · exact field_11101 _ _ _ _ _ _ _ _ _ _ _ _ _ _ _ _ _ _ _ _ w ht vA vB vC sab sba pab pba (SubBack p q hp hq hs) (by simp [h0]) cU cV cQ (fun w => Add_ok (p + q) r w hs hr) (fun w => by rw [Rat.add_assoc]; exact Add_ok p (q + r) w hp hu) (fun w => Mul_ok p (q + r) w hp hu) (fun w => by rw [Rat.mul_add]; exact Add_ok (p * q) (p * r) w hm hw)
            · exact field_11100 _ _ _ _ _ _ _ _ _ _ _ _ _ _ _ w ht vA vB vC sab sba pab pba (SubBack p q hp hq hs) (by simp [h0]) cU cV cQ (fun w => Add_ok (p + q) r w hs hr) (fun w => by rw [Rat.add_assoc]; exact Add_ok p (q + r) w hp hu)
        · skip
          have cQ := fun w => Mul_ok p r w hp hr
          rcases MulR q r hq hr with ⟨hv, cV⟩ | cV
          · skip
            exact field_11012 _ _ _ _ _ _ _ _ _ _ _ _ _ _ _ _ _ _ w ht vA vB vC sab sba pab pba (SubBack p q hp hq hs) (by simp [h0]) cU cV cQ (fun w => Mul_ok (p * q) r w hm hr) (fun w => by rw [Rat.mul_assoc]; exact Mul_ok p (q * r) w hp hv)
          · skip
            exact field_11002 _ _ _ _ _ _ _ _ _ _ _ _ _ w ht vA vB vC sab sba pab pba (SubBack p q hp hq hs) (by simp [h0]) cU cV cQ
      · skip
        rcases AddR q r hq hr with ⟨hu, cU⟩ | cU
        · skip
          rcases MulR q r hq hr with ⟨hv, cV⟩ | cV
          · skip
            rcases MulR p r hp hr with ⟨hw, cQ⟩ | cQ
            · exact field_12111 _ _ _ _ _ _ _ _ _ _ _ _ _ _ _ _ _ _ _ _ _ _ _ _ _ w ht vA vB vC sab sba pab pba (SubBack p q hp hq hs) (DivBack p q hp hq hm h0) (by simp [h0]) cU cV cQ (fun w => Add_ok (p + q) r w hs hr) (fun w => by rw [Rat.add_assoc]; exact Add_ok p (q + r) w hp hu) (fun w => Mul_ok (p * q) r w hm hr) (fun w => by rw [Rat.mul_assoc]; exact Mul_ok p (q * r) w hp hv) (fun w => Mul_ok p (q + r) w hp hu) (fun w => by rw [Rat.mul_add]; exact Add_ok (p * q) (p * r) w hm hw)
            · exact field_12110 _ _ _ _ _ _ _ _ _ _ _ _ _ _ _ _ _ _ _ _ w ht vA vB vC sab sba pab pba (SubBack p q hp hq hs) (DivBack p q hp hq hm h0) (by simp [h0]) cU cV cQ (fun w => Add_ok (p + q) r w hs hr) (fun w => by rw [Rat.add_assoc]; exact Add_ok p (q + r) w hp hu) (fun w => Mul_ok (p * q) r w hm hr) (fun w => by rw [Rat.mul_assoc]; exact Mul_ok p (q * r) w hp hv)
          · skip
            rcases MulR p r hp hr with ⟨hw, cQ⟩ | cQ
            · exact field_12101 _ _ _ _ _ _ _ _ _ _ _ _ _ _ _ _ _ _ _ _ w ht vA vB vC sab sba pab pba (SubBack p q hp hq hs) (DivBack p q hp hq hm h0) (by simp [h0]) cU cV cQ (fun w => Add_ok (p + q) r w hs hr) (fun w => by rw [Rat.add_assoc]; exact Add_ok p (q + r) w hp hu) (fun w => Mul_ok p (q + r) w hp hu) (fun w => by rw [Rat.mul_add]; exact Add_ok (p * q) (p * r) w hm hw)
            · exact field_12100 _ _ _ _ _ _ _ _ _ _ _ _ _ _ _ w ht vA vB vC sab sba pab pba (SubBack p q hp hq hs) (DivBack p q hp hq hm h0) (by simp [h0]) cU cV cQ (fun w => Add_ok (p + q) r w hs hr) (fun w => by rw [Rat.add_assoc]; exact Add_ok p (q + r) w hp hu)
        · skip
          have cQ := fun w => Mul_ok p r w hp hr
          rcases MulR q r hq hr with ⟨hv, cV⟩ | cV
          · skip
            exact field_12012 _ _ _ _ _ _ _ _ _ _ _ _ _ _ _ _ _ _ w ht vA vB vC sab sba pab pba (SubBack p q hp hq hs) (DivBack p q hp hq hm h0) (by simp [h0]) cU cV cQ (fun w => Mul_ok (p * q) r w hm hr) (fun w => by rw [Rat.mul_assoc]; exact Mul_ok p (q * r) w hp hv)
          · skip
            exact field_12002 _ _ _ _ _ _ _ _ _ _ _ _ _ w ht vA vB vC sab sba pab pba (SubBack p q hp hq hs) (DivBack p q hp hq hm h0) (by simp [h0]) cU cV cQ
    · rw [resN_no hm, resD_no hm, resE_no hm] at pab pba
      rcases AddR q r hq hr with ⟨hu, cU⟩ | cU
      · skip
        have cV := fun w => Mul_ok q r w hq hr
        have cQ := fun w => Mul_ok p r w hp hr
        exact field_10122 _ _ _ _ _ _ _ _ _ _ _ _ _ _ _ _ _ _ _ w ht vA vB vC sab sba pab pba (SubBack p q hp hq hs) cU cV cQ (fun w => Add_ok (p + q) r w hs hr) (fun w => by rw [Rat.add_assoc]; exact Add_ok p (q + r) w hp hu)
      · skip
        have cV := fun w => Mul_ok q r w hq hr
        have cQ := fun w => Mul_ok p r w hp hr
        exact field_10022 _ _ _ _ _ _ _ _ _ _ _ _ _ _ w ht vA vB vC sab sba pab pba (SubBack p q hp hq hs) cU cV cQ
  · rw [resN_no hs, resD_no hs, resE_no hs] at sab sba
    by_cases hm : Rok (p * q)
    · rw [resN_ok hm, resD_ok hm, resE_ok hm] at pab pba
      by_cases h0 : q.num = 0
      · skip
        rcases AddR q r hq hr with ⟨hu, cU⟩ | cU
        · skip
          rcases MulR q r hq hr with ⟨hv, cV⟩ | cV
          · skip
            rcases MulR p r hp hr with ⟨hw, cQ⟩ | cQ
            · exact field_01111 _ _ _ _ _ _ _ _ _ _ _ _ _ _ _ _ _ _ _ _ w ht vA vB vC sab sba pab pba (by simp [h0]) cU cV cQ (fun w => Mul_ok (p * q) r w hm hr) (fun w => by rw [Rat.mul_assoc]; exact Mul_ok p (q * r) w hp hv) (fun w => Mul_ok p (q + r) w hp hu) (fun w => by rw [Rat.mul_add]; exact Add_ok (p * q) (p * r) w hm hw)
            · exact field_01110 _ _ _ _ _ _ _ _ _ _ _ _ _ _ _ w ht vA vB vC sab sba pab pba (by simp [h0]) cU cV cQ (fun w => Mul_ok (p * q) r w hm hr) (fun w => by rw [Rat.mul_assoc]; exact Mul_ok p (q * r) w hp hv)
          · skip
            rcases MulR p r hp hr with ⟨hw, cQ⟩ | cQ
            · exact field_01101 _ _ _ _ _ _ _ _ _ _ _ _ _ _ _ w ht vA vB vC sab sba pab pba (by simp [h0]) cU cV cQ (fun w => Mul_ok p (q + r) w hp hu) (fun w => by rw [Rat.mul_add]; exact Add_ok (p * q) (p * r) w hm hw)
            · exact field_01100 _ _ _ _ _ _ _ _ _ _ w ht vA vB vC sab sba pab pba (by simp [h0]) cU cV cQ
        · skip
          have cQ := fun w => Mul_ok p r w hp hr
          rcases MulR q r hq hr with ⟨hv, cV⟩ | cV
          · skip
            exact field_01012 _ _ _ _ _ _ _ _ _ _ _ _ _ _ _ _ w ht vA vB vC sab sba pab pba (by simp [h0]) cU cV cQ (fun w => Mul_ok (p * q) r w hm hr) (fun w => by rw [Rat.mul_assoc]; exact Mul_ok p (q * r) w hp hv)
          · skip
            exact field_01002 _ _ _ _ _ _ _ _ _ _ _ w ht vA vB vC sab sba pab pba (by simp [h0]) cU cV cQ
      · skip
        rcases AddR q r hq hr with ⟨hu, cU⟩ | cU
        · skip
          rcases MulR q r hq hr with ⟨hv, cV⟩ | cV
          · skip
            rcases MulR p r hp hr with ⟨hw, cQ⟩ | cQ
            · exact field_02111 _ _ _ _ _ _ _ _ _ _ _ _ _ _ _ _ _ _ _ _ w ht vA vB vC sab sba pab pba (DivBack p q hp hq hm h0) (by simp [h0]) cU cV cQ (fun w => Mul_ok (p * q) r w hm hr) (fun w => by rw [Rat.mul_assoc]; exact Mul_ok p (q * r) w hp hv) (fun w => Mul_ok p (q + r) w hp hu) (fun w => by rw [Rat.mul_add]; exact Add_ok (p * q) (p * r) w hm hw)
            · exact field_02110 _ _ _ _ _ _ _ _ _ _ _ _ _ _ _ w ht vA vB vC sab sba pab pba (DivBack p q hp hq hm h0) (by simp [h0]) cU cV cQ (fun w => Mul_ok (p * q) r w hm hr) (fun w => by rw [Rat.mul_assoc]; exact Mul_ok p (q * r) w hp hv)
          · skip
            rcases MulR p r hp hr with ⟨hw, cQ⟩ | cQ
            · exact field_02101 _ _ _ _ _ _ _ _ _ _ _ _ _ _ _ w ht vA vB vC sab sba pab pba (DivBack p q hp hq hm h0) (by simp [h0]) cU cV cQ (fun w => Mul_ok p (q + r) w hp hu) (fun w => by rw [Rat.mul_add]; exact Add_ok (p * q) (p * r) w hm hw)
            · exact field_02100 _ _ _ _ _ _ _ _ _ _ w ht vA vB vC sab sba pab pba (DivBack p q hp hq hm h0) (by simp [h0]) cU cV cQ
        · skip
          have cQ := fun w => Mul_ok p r w hp hr
          rcases MulR q r hq hr with ⟨hv, cV⟩ | cV
          · skip
            exact field_02012 _ _ _ _ _ _ _ _ _ _ _ _ _ _ _ _ w ht vA vB vC sab sba pab pba (DivBack p q hp hq hm h0) (by simp [h0]) cU cV cQ (fun w => Mul_ok (p * q) r w hm hr) (fun w => by rw [Rat.mul_assoc]; exact Mul_ok p (q * r) w hp hv)
          · skip
            exact field_02002 _ _ _ _ _ _ _ _ _ _ _ w ht vA vB vC sab sba pab pba (DivBack p q hp hq hm h0) (by simp [h0]) cU cV cQ
    · rw [resN_no hm, resD_no hm, resE_no hm] at pab pba
      rcases AddR q r hq hr with ⟨hu, cU⟩ | cU
      · skip
        have cV := fun w => Mul_ok q r w hq hr
        have cQ := fun w => Mul_ok p r w hp hr
        exact field_00122 _ _ _ _ _ _ _ _ _ _ _ _ _ _ w ht vA vB vC sab sba pab pba cU cV cQ
      · skip
        have cV := fun w => Mul_ok q r w hq hr
        have cQ := fun w => Mul_ok p r w hp hr
        exact field_00022 _ _ _ _ _ _ _ _ _ _ _ _ w ht vA vB vC sab sba pab pba cU cV cQ
end Go.Proofs.YtfcdoifijgbjeaaDoor

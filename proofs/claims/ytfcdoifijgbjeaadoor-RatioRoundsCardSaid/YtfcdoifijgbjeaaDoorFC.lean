/- RatioRounds: for every two ratios and number of parts. -/
import Derived.Test.YtfcdoifijgbjeaaDoorFB
namespace Go.Proofs.YtfcdoifijgbjeaaDoor
open Go.RowKit

theorem Cmp_cq (p q : Rat) (hp : Rok p) (hq : Rok q) (w : World) :
    Calls Tryd.prog 16 #[.agg #[.int .i64 p.num, .int .i64 p.den], .agg #[.int .i64 q.num, .int .i64 q.den]] w fun e' w' => e' = .returned (.int .i64 (cq p q)) ∧ Below w.heap.size w w' := by
  have h := Cmp_ok p q w hp hq
  unfold cq; exact h
theorem tmod_two (k : Int) (h : k % 2 = 0) : k.tmod 2 = 0 := by
  obtain ⟨m, hm⟩ := Int.dvd_of_emod_eq_zero h
  rw [hm]; exact Int.mul_tmod_right _ _
set_option maxHeartbeats 1000000 in
theorem law_RatioRounds (an ad bn bd raw : Int) (w : World) (h1 : (Lit.int .i64 an).wf = true) (h2 : (Lit.int .i64 ad).wf = true) (h3 : (Lit.int .i64 bn).wf = true) (h4 : (Lit.int .i64 bd).wf = true) (_ : (Lit.int .i64 raw).wf = true) (ht : Tabs w) :
    Calls Tryd.prog 6 #[.agg #[.int .i64 an, .int .i64 ad], .agg #[.int .i64 bn, .int .i64 bd], .int .i64 raw] w fun e w' => e = .returned (.bool true) ∧ Below w.heap.size w w' := by
  have i : ∀ {x : Int}, (Lit.int .i64 x).wf = true → I64 x := fun h => by simp only [Lit.wf, Bool.and_eq_true, decide_eq_true_eq] at h; exact h
  rcases hva : vld an ad with _ | _
  · exact rounds_i1 an ad bn bd raw w ht (V_no (i h1) (i h2) hva)
  rcases hvb : vld bn bd with _ | _
  · exact rounds_i2 an ad bn bd raw w ht (V_yes (i h1) (i h2) hva) (V_no (i h3) (i h4) hvb)
  obtain ⟨p, rfl, rfl, hp⟩ := vld_q hva
  obtain ⟨q, rfl, rfl, hq⟩ := vld_q hvb
  clear h1 h2 h3 h4 hva hvb i
  have p1 := hp.1
  have p2 := hp.2
  have q1 := hq.1
  have q2 := hq.2
  have pd := q_den_pos p
  have qd := q_den_pos q
  by_cases big : 1000000000 < max p.num (-p.num)
  · exact rounds_i3 _ _ _ _ raw w ht (V_ok hp) (V_ok hq) (by omega) (by omega) big
  by_cases big2 : 1000000000 < max q.num (-q.num)
  · exact rounds_i4 _ _ _ _ raw w ht (V_ok hp) (V_ok hq) (by omega) (by omega) (by omega) (by omega) (by omega) big2
  have hr1 : -1000 < raw.tmod 1000 := by
    have := Int.lt_tmod_of_pos raw (by decide : (0 : Int) < 1000); omega
  have hr2 : raw.tmod 1000 < 1000 := Int.tmod_lt_of_pos raw (by decide)
  obtain ⟨n, hn⟩ : ∃ n, 1 + max (raw.tmod 1000) (-(raw.tmod 1000)) = n := ⟨_, rfl⟩
  have n1 : 1 ≤ n := by omega
  have n2 : n ≤ 1000 := by omega
  have near : ∀ r : Rat, Rok r → r.num.natAbs ≤ 1000000000 → (rnd r.num r.den n).natAbs ≤ 1000000000000 := fun r hr hb => by
    have hd := q_den_pos r
    have hm : (r.num * n).natAbs ≤ 1000000000 * 1000 := mul_bd hb (by omega)
    exact near_abs (by omega) (rnd_near r.num r.den n (by omega)) (M := 1000000000000) (by omega)
  have bp := near p hp (by omega)
  have bq := near q hq (by omega)
  obtain ⟨ox, mx, kx, rx⟩ := rnd_parts (rnd p.num p.den n) n n1 n2 bp
  obtain ⟨oy, _, _, _⟩ := rnd_parts (rnd q.num q.den n) n n1 n2 bq
  have hRa := fun w => Round_ok p n w hp n1 (by omega)
  have hRb := fun w => Round_ok q n w hq n1 (by omega)
  have hRx := fun w => Round_ok (Rat.divInt (rnd p.num p.den n) n) n w ox n1 (by omega)
  rw [rx] at hRx
  rw [resN_ok ox, resD_ok ox, resE_ok ox] at hRa hRx
  rw [resN_ok oy, resD_ok oy, resE_ok oy] at hRb
  have hx := near_abs (M := 1000000000000) (by omega) (rnd_near p.num p.den n (by omega)) (by have := mul_bd (x := p.num) (y := n) (a := 1000000000) (b := 1000) (by omega) (by omega); omega)
  have nr := rnd_near p.num p.den n (by omega)
  have hCab := Cmp_cq p q hp hq
  have hCxy := Cmp_cq _ _ ox oy
  have vx := V_ok ox
  have hle : cq p q ≤ 0 → cq (Rat.divInt (rnd p.num p.den n) n) (Rat.divInt (rnd q.num q.den n) n) ≤ 0 := fun h => cq_le.2 (div_mono n1 (rnd_mono p q n n1 (cq_le.1 h)))
  have xd := q_den_pos (Rat.divInt (rnd p.num p.den n) n)
  have xd2 := ox.2
  generalize Rat.divInt (rnd p.num p.den n) n = x at *
  generalize Rat.divInt (rnd q.num q.den n) n = y at *
  generalize rnd p.num p.den n = k at *
  generalize rnd q.num q.den n = k' at *
  have mt : n.tmod x.den = 0 := by rw [Int.tmod_eq_emod_of_nonneg (by omega)]; exact mx
  obtain ⟨t, htt⟩ : ∃ t, n / (x.den : Int) = t := ⟨_, rfl⟩
  have qt : n.tdiv x.den = t := by rw [Int.tdiv_eq_ediv_of_nonneg (by omega)]; exact htt
  have t1 : 0 ≤ t := by rw [← htt]; exact Int.ediv_nonneg (by omega) (by omega)
  have t2 : t ≤ n := by rw [← htt]; exact Int.ediv_le_self _ (by omega)
  rw [htt] at kx
  have b1 : (k * (p.den : Int)).natAbs ≤ 1000000000000 * 1000000 := mul_bd bp (by omega)
  have b2 : (p.num * n).natAbs ≤ 1000000000 * 1000 := mul_bd (by omega) (by omega)
  have u1 := nr.up
  have u2 := nr.dn
  have u3 := nr.tu
  have u4 := nr.td
  have w1 : wrap64 k = k := wrap_abs bp (by decide)
  have w2 : wrap64 (k * p.den) = k * p.den := wrap_abs b1 (by decide)
  have w3 : wrap64 (p.num * n) = p.num * n := wrap_abs b2 (by decide)
  have w4 : wrap64 (k * p.den - p.num * n) = k * p.den - p.num * n := by unfold wrap64; omega
  by_cases hc : cq p q ≤ 0
  · exact rounds_le _ _ _ _ raw _ n _ _ _ _ t k _ _ _ w ht (V_ok hp) (V_ok hq) (by omega) (by omega) (by omega) (by omega) (by omega) (by omega) rfl hr1 hr2 hn hRa hRb hRx vx (by omega) mt qt (by omega) (by omega) kx w1 w2 w3 w4 rfl (by omega) (by omega) u1 u2 (fun h => tmod_two _ (u3 h)) (fun h => tmod_two _ (u4 h)) hCab hc hCxy (hle hc)
  · exact rounds_gt _ _ _ _ raw _ n _ _ _ _ t k _ _ w ht (V_ok hp) (V_ok hq) (by omega) (by omega) (by omega) (by omega) (by omega) (by omega) rfl hr1 hr2 hn hRa hRb hRx vx (by omega) mt qt (by omega) (by omega) kx w1 w2 w3 w4 rfl (by omega) (by omega) u1 u2 (fun h => tmod_two _ (u3 h)) (fun h => tmod_two _ (u4 h)) hCab (by omega)
end Go.Proofs.YtfcdoifijgbjeaaDoor

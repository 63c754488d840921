/- Layer 29: signatures. -/
import Derived.Test.YtpdbcahiipbhnaaDoorP4
namespace Go.Proofs.YtpdbcahiipbhnaaDoor
open Go.RowKit

/-- The text of the secret number. -/
@[irreducible] def kT (x : Nat) (t : ByteArray) : ByteArray := ((⟨#[107, 32]⟩ ++ decB x) ++ ⟨#[32]⟩) ++ t
theorem kT_eq (x : Nat) (t : ByteArray) : ((⟨#[107, 32]⟩ ++ decB x) ++ ⟨#[32]⟩) ++ t = kT x t := by unfold kT; rfl
theorem kT_size (x : Nat) (t : ByteArray) (hx : x < 9223372036854775808) (ht : t.size ≤ 100000) : (kT x t).size ≤ 1000000 := by
  have h1 := decB_size x hx
  rw [← kT_eq]
  simp only [ByteArray.size_append]
  show 2 + (decB x).size + 1 + t.size ≤ _
  omega
/-- The secret number. -/
@[irreducible] def kay (x : Nat) (t : ByteArray) : Nat := 1 + (Sha.number (kT x t).data.toList 2147483645).toNat
theorem kay_eq (x : Nat) (t : ByteArray) : 1 + Sha.number (kT x t).data.toList 2147483645 = (kay x t : Nat) := by
  unfold kay
  have : 0 ≤ Sha.number (kT x t).data.toList 2147483645 := by unfold Sha.number; rw [if_neg (by omega)]; exact Int.emod_nonneg _ (by omega)
  omega
theorem kay_lt (x : Nat) (t : ByteArray) : 1 ≤ kay x t ∧ kay x t ≤ 2147483645 := by
  have h := kay_eq x t
  have h2 : Sha.number (kT x t).data.toList 2147483645 < 2147483645 := by unfold Sha.number; rw [if_neg (by omega)]; exact Int.emod_lt_of_pos _ (by omega)
  have h3 : 0 ≤ Sha.number (kT x t).data.toList 2147483645 := by unfold Sha.number; rw [if_neg (by omega)]; exact Int.emod_nonneg _ (by omega)
  omega

theorem results_cell_tmp_mid {P : Program} {fn : Func} {p u : Tmp} {ty : TypeId} (h : fn.results = #[.cell p ty, .tmp u]) (tmps : Array Value) (w : World) (b o : Nat) (cs : List Value) (d : TypeDesc)
    (hp : tmps.getD p undef = .pointer (some ⟨b, o, none⟩)) (hc : w.rangeAt b o cs) (hu : P.underlying ty = some d) (hd : d.isRow = true) (hi : (P.info? ty).map (·.size) = some cs.length) :
    (results fn tmps).run P w = .ok (.tuple #[.agg cs.toArray, tmps.getD u undef]) w := by
  have hp' : tmps[p]?.getD undef = .pointer (some ⟨b, o, none⟩) := by simpa using hp
  rw [results_cell_tmp h]
  simp [hp', asAddr, run_loadVar_mid w b o ty cs d hc hu hd hi]

set_option maxHeartbeats 1000000 in
theorem Sign_bad (x : Int) (t : ByteArray) (w : World) (hP : ∀ w, Calls Tryd.prog 47 #[.int .i64 x] w fun e w' => e = .returned (.tuple #[.int .i64 0, .int .i64 1]) ∧ w = w') :
    Calls Tryd.prog 75 #[.int .i64 x, .string t] w fun e w' => e = .returned (.tuple #[.agg #[.int .i64 0, .int .i64 0], .int .i64 1]) ∧ Below w.heap.size w w' := by
  have HP := Lib.hid hP
  clear hP
  go_enter Tryd.func75, Tryd.ntmps75
  go_wp2_with fail
  refine (HP.out _).mono ?_
  rintro e w2 ⟨rfl, rfl⟩
  go_wp2_with fail
  exact bodyPost_ret (results_cell_tmp_mid Tryd.results75 _ _ w.heap.size 0 [.int .i64 0, .int .i64 0] _ rfl (rangeAt_new w #[.int .i64 0, .int .i64 0] 61) Tryd.underlying61 rfl (by kernel_rfl)) rfl ⟨rfl, (Below.refl _ _).alloc (Nat.le_refl _) _⟩

/-- The second number of a signature. -/
def sgS (x : Nat) (t : ByteArray) : Nat := (kay x t + chal (pw 7 (kay x t)) (pw 7 x) t * x % 2147483646) % 2147483646

theorem sign_nums {k c x : Nat} (hk : k ≤ 2147483645) (hc : c < 2147483646) (hx : x < 2147483646) :
    wrap64 ((c : Int) * (x : Int)) = ((c * x : Nat) : Int) ∧ (((c * x : Nat) : Int)).tmod 2147483646 = ((c * x % 2147483646 : Nat) : Int) ∧
    wrap64 ((k : Int) + ((c * x % 2147483646 : Nat) : Int)) = ((k + c * x % 2147483646 : Nat) : Int) ∧ (((k + c * x % 2147483646 : Nat) : Int)).tmod 2147483646 = (((k + c * x % 2147483646) % 2147483646 : Nat) : Int) ∧
    wrap64 ((c * x % 2147483646 : Nat) : Int) = ((c * x % 2147483646 : Nat) : Int) ∧ wrap64 (((k + c * x % 2147483646) % 2147483646 : Nat) : Int) = (((k + c * x % 2147483646) % 2147483646 : Nat) : Int) := by
  have h1 : c * x ≤ 2147483645 * 2147483645 := Nat.mul_le_mul (by omega) (by omega)
  have h2 : ((c : Int) * (x : Int)) = ((c * x : Nat) : Int) := by simp
  refine ⟨by rw [h2]; unfold wrap64; omega, by rw [Int.tmod_eq_emod_of_nonneg (by omega)]; omega, by unfold wrap64; omega, by rw [Int.tmod_eq_emod_of_nonneg (by omega)]; omega, by unfold wrap64; omega, by unfold wrap64; omega⟩

set_option maxHeartbeats 1000000 in
theorem Sign_ok (x : Nat) (t : ByteArray) (w : World) (h1 : 1 ≤ x) (h2 : x < 2147483646) (ht : t.size ≤ 100000) (htab : Tabs w) :
    Calls Tryd.prog 75 #[.int .i64 x, .string t] w fun e w' => e = .returned (.tuple #[.agg #[.int .i64 (pw 7 (kay x t) : Nat), .int .i64 (sgS x t : Nat)], .int .i64 0]) ∧ Below w.heap.size w w' := by
  have HT := Lib.hid htab
  have HPub := Lib.hid (fun w => Public_ok x w h1 h2)
  have HI := Lib.hid (fun w => Itoa_any x w (by omega))
  have hk := kay_lt x t
  have hr := pw_lt 7 (kay x t)
  have hy := pw_lt 7 x
  have hc := chal_lt (pw 7 (kay x t)) (pw 7 x) t
  have HPow := Lib.hid (fun w => Power7 (kay x t) w (by omega))
  have HCh := Lib.hid (fun w => chal_any (pw 7 (kay x t)) (pw 7 x) t w (by omega) (by omega) ht)
  have HN := Lib.hid (fun w => Number_any (kT x t) 2147483645 w (kT_size x t (by omega) ht))
  have HKT := Lib.hid (kT_eq x t)
  have hke := kay_eq x t
  have hkw : wrap64 (1 + Sha.number (kT x t).data.toList 2147483645) = (kay x t : Nat) := by rw [hke]; unfold wrap64; omega
  have s1 := decB_size x (by omega)
  obtain ⟨n1, n2, n3, n4, n5, n6⟩ := sign_nums (k := kay x t) (x := x) hk.2 hc h2
  have HS : Hid (sgS x t = (kay x t + chal (pw 7 (kay x t)) (pw 7 x) t * x % 2147483646) % 2147483646) := Lib.hid rfl
  generalize sgS x t = sg at HS ⊢
  rw [← HS.out] at n4 n6
  generalize chal (pw 7 (kay x t)) (pw 7 x) t = c at *
  generalize pw 7 (kay x t) = r at *
  generalize pw 7 x = y at *
  generalize kay x t = k at *
  generalize Sha.number (kT x t).data.toList 2147483645 = num at *
  generalize kT x t = kt at *
  generalize decB x = dx at *
  generalize c * x = cx at *
  generalize cx % 2147483646 = m at *
  generalize k + m = q at *
  clear htab hke hk hr hy hc h1 h2
  go_enter Tryd.func75, Tryd.ntmps75
  go_wp2_with fail
  refine (HPub.out _).mono ?_
  rintro e w2 ⟨rfl, rfl⟩
  go_wp2_with fail
  have hth := there_new w #[.int .i64 0, .int .i64 0] 61 2 (by simp)
  have hb0 := (Below.refl w.heap.size w).alloc (Nat.le_refl _) (.cells #[.int .i64 0, .int .i64 0] 61)
  have HT0 := Lib.hid (HT.out.alloc (.cells #[.int .i64 0, .int .i64 0] 61))
  have hs0 : w.heap.size < (w.alloc (.cells #[.int .i64 0, .int .i64 0] 61)).heap.size := by simp
  generalize w.alloc (.cells #[.int .i64 0, .int .i64 0] 61) = w0 at *
  have HB0 := Lib.hid hb0
  have HTH := Lib.hid hth
  clear hb0 hth
  refine (HI.out _ HT0.out).mono ?_
  rintro e w1 ⟨rfl, hb1⟩
  have H1 := Lib.hid (HT0.out.below hb1 (Nat.le_refl _))
  have hs1 := hb1.size
  go_wp2_with fail
  rw [HKT.out]
  refine (HN.out _ H1.out (by omega)).mono ?_
  rintro e w2 ⟨rfl, hb2⟩
  have H2 := Lib.hid (H1.out.below hb2 (Nat.le_refl _))
  have hs2 := hb2.size
  go_wp2_with fail
  refine (HPow.out _).mono ?_
  rintro e w3 ⟨rfl, rfl⟩
  go_wp2_with fail
  refine (HCh.out _ H2.out).mono ?_
  rintro e w3 ⟨rfl, hb3⟩
  have hs3 := hb3.size
  have hb := hb1.trans ((hb2.mono (by omega)).trans (hb3.mono (by omega)))
  have HTH3 := Lib.hid (there_below HTH.out hb hs0)
  have HB3 := Lib.hid (HB0.out.trans (hb.mono (by omega)))
  clear hb1 hb2 hb3 hb
  have c0 := there_cell HTH3.out 0 (by omega)
  have c1 := there_cell HTH3.out 1 (by omega)
  have f0 := (HTH3.out 0 (by omega)).2
  have f1 := (HTH3.out 1 (by omega)).2
  rw [Nat.zero_add] at c0 c1 f0 f1
  have hr3 : w3.rangeAt w.heap.size 0 [valAt w3 ⟨w.heap.size, 0, none⟩, valAt w3 ⟨w.heap.size, 1, none⟩] := fun j u hj => by
    match j, hj with
    | 0, hj => simp at hj; subst hj; simpa using c0
    | 1, hj => simp at hj; subst hj; simpa using c1
  have HR3 := Lib.hid (rangeAt_set (rangeAt_set hr3 0 (.int .i64 r)) 1 (.int .i64 sg))
  have HB4 := Lib.hid ((HB3.out.setCell (p := ⟨w.heap.size, 0, none⟩) (Nat.le_refl _) (.int .i64 r)).setCell (p := ⟨w.heap.size, 1, none⟩) (Nat.le_refl _) (.int .i64 sg))
  clear hr3
  go_wp2_with fail
  exact bodyPost_ret (results_cell_tmp_mid Tryd.results75 _ _ w.heap.size 0 [.int .i64 r, .int .i64 sg] _ rfl HR3.out Tryd.underlying61 rfl (by kernel_rfl)) rfl ⟨rfl, HB4.out⟩
end Go.Proofs.YtpdbcahiipbhnaaDoor

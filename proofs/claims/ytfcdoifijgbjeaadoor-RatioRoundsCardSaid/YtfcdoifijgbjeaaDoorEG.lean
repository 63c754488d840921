/- Layer 01: what the laws share: tracked cells, of, the head's calls. -/
import Derived.Test.YtfcdoifijgbjeaaDoorEF
namespace Go.Proofs.YtfcdoifijgbjeaaDoor
open Go.RowKit

/-- What holds of every world behind a beginning: the tables; old memory is as it was. -/
structure Trk (w0 w : World) : Prop where
  tabs : Tabs w
  bel : Below w0.heap.size w0 w
theorem Trk.step {w0 w w' : World} (h : Trk w0 w) (hb : Below w.heap.size w w') : Trk w0 w' := ⟨h.tabs.below hb (Nat.le_refl _), h.bel.trans (hb.mono h.bel.size)⟩
theorem Trk.alloc {w0 w : World} (h : Trk w0 w) (o : Obj) : Trk w0 (w.alloc o) := h.step ((Below.refl _ _).alloc (Nat.le_refl _) o)
/-- Two cells of a block that is there. -/
@[irreducible] def C2 (w : World) (n : Nat) (a b : Value) : Prop := n < w.heap.size ∧ (w.cell? ⟨n, 0, none⟩ = some a ∧ w.cell? ⟨n, 1, none⟩ = some b)
theorem C2.lt {w : World} {n : Nat} {a b : Value} (h : C2 w n a b) : n < w.heap.size := by unfold C2 at h; exact h.1
theorem C2.cells {w : World} {n : Nat} {a b : Value} (h : C2 w n a b) : w.cell? ⟨n, 0, none⟩ = some a ∧ w.cell? ⟨n, 1, none⟩ = some b := by unfold C2 at h; exact h.2
theorem C2.mk {w : World} {n : Nat} {a b : Value} (h1 : n < w.heap.size) (h2 : w.cell? ⟨n, 0, none⟩ = some a ∧ w.cell? ⟨n, 1, none⟩ = some b) : C2 w n a b := by unfold C2; exact ⟨h1, h2⟩
theorem C2.step {w w' : World} {n : Nat} {a b : Value} (h : C2 w n a b) (hb : Below w.heap.size w w') : C2 w' n a b :=
  .mk (Nat.lt_of_lt_of_le h.lt hb.size) (cells2_below h.cells hb h.lt)
theorem C2.alloc {w : World} {n : Nat} {a b : Value} (h : C2 w n a b) (o : Obj) : C2 (w.alloc o) n a b := h.step ((Below.refl _ _).alloc (Nat.le_refl _) o)
theorem C2.new (w : World) (a b : Value) (t : TypeId) : C2 (w.alloc (.cells #[a, b] t)) w.heap.size a b := .mk (by simp) ⟨new0 rfl rfl, new0 rfl rfl⟩
theorem C2.drew {w : World} {n : Nat} {a b : Value} (h : C2 w n a b) : C2 w.drew n a b := h.step (drewN_below w 1)

theorem results_one {P : Program} {fn : Func} {p : Tmp} {ty : TypeId} (h : fn.results = #[.cell p ty]) (tmps : Array Value) (w : World) (b o : Nat) (cs : List Value) (d : TypeDesc)
    (hp : tmps.getD p undef = .pointer (some ⟨b, o, none⟩)) (hc : w.rangeAt b o cs) (hu : P.underlying ty = some d) (hd : d.isRow = true) (hi : (P.info? ty).map (·.size) = some cs.length) :
    (results fn tmps).run P w = .ok (.agg cs.toArray) w := by
  have hp' : tmps[p]?.getD undef = .pointer (some ⟨b, o, none⟩) := by simpa using hp
  simp [results, h, hp', asAddr, run_loadVar_mid w b o ty cs d hc hu hd hi]

set_option maxHeartbeats 1000000 in
theorem of_any (n d : Int) (w : World) :
    Calls Tryd.prog 20 #[.int .i64 n, .int .i64 d] w fun e w' => e = .returned (.agg #[.int .i64 n, .int .i64 d]) ∧ Below w.heap.size w w' := by
  go_enter Tryd.func20, Tryd.ntmps20
  go_wp2_with fail
  exact bodyPost_ret (results_one Tryd.results20 _ _ w.heap.size 0 [.int .i64 n, .int .i64 d] _ rfl (rangeAt_new w #[.int .i64 n, .int .i64 d] 25) Tryd.underlying25 rfl (by kernel_rfl)) rfl ⟨rfl, (Below.refl _ _).alloc (Nat.le_refl _) _⟩

theorem res_val {q : Rat} {n d : Int} (ok : Rok q) (h1 : q.num = n) (h2 : (q.den : Int) = d) : resN q = n ∧ resD q = d ∧ resE q = 0 := ⟨by rw [resN_ok ok, h1], by rw [resD_ok ok, h2], resE_ok ok⟩
theorem res_over {q : Rat} (h : ¬ Rok q) : resN q = 0 ∧ resD q = 0 ∧ resE q = 2 := ⟨resN_no h, resD_no h, resE_no h⟩
/-- The results of a call that returns a ratio and an error. -/
abbrev Ret3 (w : World) (n d c : Int) : Ending → World → Prop := fun e w' => e = .returned (.tuple #[.agg #[.int .i64 n, .int .i64 d], .int .i64 c]) ∧ Below w.heap.size w w'

theorem hMake1 (w : World) : Calls Tryd.prog 13 #[.int .i64 6, .int .i64 (-4)] w (Ret3 w (-3) 2 0) := by
  obtain ⟨a, b, c⟩ := res_val (q := Rat.divInt 6 (-4)) (n := -3) (d := 2) (by decide +kernel) (by decide +kernel) (by decide +kernel)
  have h := Make_any 6 (-4) w (by decide) (by decide) (by decide) (by decide) (by decide)
  rw [a, b, c] at h; exact h
theorem hMake2 (w : World) : Calls Tryd.prog 13 #[.int .i64 0, .int .i64 (-7)] w (Ret3 w 0 1 0) := by
  obtain ⟨a, b, c⟩ := res_val (q := Rat.divInt 0 (-7)) (n := 0) (d := 1) (by decide +kernel) (by decide +kernel) (by decide +kernel)
  have h := Make_any 0 (-7) w (by decide) (by decide) (by decide) (by decide) (by decide)
  rw [a, b, c] at h; exact h
theorem hMake4 (w : World) : Calls Tryd.prog 13 #[.int .i64 1, .int .i64 1000001] w (Ret3 w 0 0 2) := by
  obtain ⟨a, b, c⟩ := res_over (q := Rat.divInt 1 1000001) (by decide +kernel)
  have h := Make_any 1 1000001 w (by decide) (by decide) (by decide) (by decide) (by decide)
  rw [a, b, c] at h; exact h
abbrev r16 : Rat := ⟨1, 6, by decide, by decide⟩
abbrev r13 : Rat := ⟨1, 3, by decide, by decide⟩
abbrev r23 : Rat := ⟨2, 3, by decide, by decide⟩
abbrev r94 : Rat := ⟨9, 4, by decide, by decide⟩
theorem hAdd (w : World) : Calls Tryd.prog 17 #[.agg #[.int .i64 1, .int .i64 6], .agg #[.int .i64 1, .int .i64 3]] w (Ret3 w 1 2 0) := by
  obtain ⟨a, b, c⟩ := res_val (q := r16 + r13) (n := 1) (d := 2) (by decide +kernel) (by decide +kernel) (by decide +kernel)
  have h := Add_ok r16 r13 w (by decide +kernel) (by decide +kernel)
  rw [a, b, c] at h; exact h
theorem hMul (w : World) : Calls Tryd.prog 18 #[.agg #[.int .i64 2, .int .i64 3], .agg #[.int .i64 9, .int .i64 4]] w (Ret3 w 3 2 0) := by
  obtain ⟨a, b, c⟩ := res_val (q := r23 * r94) (n := 3) (d := 2) (by decide +kernel) (by decide +kernel) (by decide +kernel)
  have h := Mul_ok r23 r94 w (by decide +kernel) (by decide +kernel)
  rw [a, b, c] at h; exact h
theorem hDiv (w : World) : Calls Tryd.prog 31 #[.agg #[.int .i64 1, .int .i64 2], .agg #[.int .i64 0, .int .i64 1]] w (Ret3 w 0 0 1) :=
  Div_zero ⟨1, 2, by decide, by decide⟩ ⟨0, 1, by decide, by decide⟩ w (by decide +kernel) (by decide +kernel) rfl
theorem hRound (w : World) : Calls Tryd.prog 21 #[.agg #[.int .i64 3, .int .i64 8], .int .i64 4] w (Ret3 w 1 2 0) := by
  have e : rnd 3 8 4 = 2 := by rw [rnd_eq]; decide
  obtain ⟨a, b, c⟩ := res_val (q := Rat.divInt 2 4) (n := 1) (d := 2) (by decide +kernel) (by decide +kernel) (by decide +kernel)
  have h := Round_ok ⟨3, 8, by decide, by decide⟩ 4 w (by decide +kernel) (by decide) (by decide)
  rw [show rnd (Rat.num ⟨3, 8, by decide, by decide⟩) ((Rat.den ⟨3, 8, by decide, by decide⟩ : Nat) : Int) 4 = 2 from e, a, b, c] at h; exact h
theorem hFloor (w : World) : Calls Tryd.prog 19 #[.agg #[.int .i64 (-1), .int .i64 2]] w fun e w' => e = .returned (.int .i64 (-1)) ∧ Below w.heap.size w w' :=
  Floor_ok ⟨-1, 2, by decide, by decide⟩ w (by decide +kernel)
theorem hValid1 (w : World) : Calls Tryd.prog 15 #[.agg #[.int .i64 (-3), .int .i64 2]] w fun e w' => e = .returned (.bool true) ∧ Below w.heap.size w w' :=
  Valid_is (-3) 2 true w (by decide) (by decide) (by decide) (by decide) (by rw [vld_eq]; decide)
theorem hValid2 (w : World) : Calls Tryd.prog 15 #[.agg #[.int .i64 2, .int .i64 4]] w fun e w' => e = .returned (.bool false) ∧ Below w.heap.size w w' :=
  Valid_is 2 4 false w (by decide) (by decide) (by decide) (by decide) (by rw [vld_eq]; decide)
theorem hCmp (w : World) : Calls Tryd.prog 16 #[.agg #[.int .i64 1, .int .i64 3], .agg #[.int .i64 1, .int .i64 2]] w fun e w' => e = .returned (.int .i64 (-1)) ∧ Below w.heap.size w w' := by
  have h := Cmp_ok ⟨1, 3, by decide, by decide⟩ ⟨1, 2, by decide, by decide⟩ w (by decide +kernel) (by decide +kernel)
  rw [sg3_neg (by decide +kernel)] at h; exact h
theorem numB_two : numB 2 = ⟨#[50]⟩ := by
  rw [numB_eq]; unfold Lib.itoa; rw [if_neg (by decide), Lib.decDigits_one (by decide)]; rfl
theorem numB_m3 : numB (-3) = ⟨#[45, 51]⟩ := by
  rw [numB_eq]; unfold Lib.itoa; rw [if_pos (by decide), Lib.decDigits_one (by decide)]; rfl
theorem hText (w : World) (ht : Tabs w) : Calls Tryd.prog 22 #[.agg #[.int .i64 (-3), .int .i64 2]] w fun e w' => e = .returned (.string ⟨#[45, 51, 47, 50]⟩) ∧ Below w.heap.size w w' := by
  have h := Text_ok ⟨-3, 2, by decide, by decide⟩ w (by decide +kernel) ht
  rw [txt_frac (by decide)] at h
  have e : numB (-3) ++ (⟨#[47]⟩ ++ numB 2) = ⟨#[45, 51, 47, 50]⟩ := by rw [numB_two, numB_m3]; rfl
  rw [show numB (Rat.num ⟨-3, 2, by decide, by decide⟩) ++ (⟨#[47]⟩ ++ numB ((Rat.den ⟨-3, 2, by decide, by decide⟩ : Nat) : Int)) = ⟨#[45, 51, 47, 50]⟩ from e] at h
  exact h
theorem txt_42 (q : Rat) (hq : Rok q) : txt q ≠ ⟨#[52, 47, 50]⟩ := by
  intro h
  have hl : (txt q).data.toList = [52] ++ 47 :: [50] := by rw [h]; rfl
  have hd : ∀ (m : Nat), m < 10 → Lib.itoa (m : Int) = [UInt8.ofNat (48 + m)] := fun m hm => by
    unfold Lib.itoa; rw [if_neg (by omega), show ((m : Int)).toNat = m by omega, Lib.decDigits_one hm]
  have inj : ∀ x y : Int, x.natAbs ≤ 1000000000000 → y.natAbs ≤ 1000000000000 → Lib.itoa x = Lib.itoa y → x = y := fun x y hx hy e => by
    have h1 := parse_itoa x hx
    rw [e, parse_itoa y hy] at h1
    injection h1 with h1
    exact h1.symm
  by_cases hc : (1 : Int) < q.den
  · have e : (txt q).data.toList = Lib.itoa q.num ++ 47 :: Lib.itoa q.den := by rw [txt_frac hc]; simp [ByteArray.data_append, numB_list]
    have c1 := cut_hit (Lib.itoa q.num) (Lib.itoa q.den) (itoa_no47 _)
    have c2 := cut_hit [52] [50] (by decide)
    rw [← e, hl, c2] at c1
    have n4 : q.num = 4 := inj _ _ hq.1 (by decide) ((congrArg Prod.fst c1).symm.trans (hd 4 (by decide)).symm)
    have n2 : (q.den : Int) = 2 := inj _ _ (by have := hq.2; omega) (by decide) ((congrArg (fun x => x.2.1) c1).symm.trans (hd 2 (by decide)).symm)
    have := q.reduced
    rw [n4, show q.den = 2 by omega] at this
    exact absurd this (by decide)
  · rw [txt_int hc, numB_list] at hl
    exact itoa_no47 q.num 47 (by rw [hl]; simp) rfl
theorem hParse (w : World) (ht : Tabs w) : Calls Tryd.prog 23 #[.string ⟨#[52, 47, 50]⟩] w (Ret3 w 0 0 5) :=
  Parse_not ⟨#[52, 47, 50]⟩ w (by decide) txt_42 ht
end Go.Proofs.YtfcdoifijgbjeaaDoor

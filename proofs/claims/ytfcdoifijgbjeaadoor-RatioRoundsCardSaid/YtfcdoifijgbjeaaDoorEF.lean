/- Layer 01: Parse at every text. -/
import Derived.Test.YtfcdoifijgbjeaaDoorEE
import Derived.Lib.AtoiErrMem
namespace Go.Proofs.YtfcdoifijgbjeaaDoor
open Go.RowKit

theorem Cut_any (l : ByteArray) (w : World) (hs : l.size ≤ 1000) (ht : Tabs w) :
    Calls Tryd.prog 46 #[.string l, .string ⟨#[47]⟩] w fun e w' => e = .returned (.tuple #[.string ⟨(Lib.cut l.data.toList [47]).1.toArray⟩, .string ⟨(Lib.cut l.data.toList [47]).2.1.toArray⟩, .bool (Lib.cut l.data.toList [47]).2.2]) ∧ Below w.heap.size w w' := by
  obtain ⟨m, hm⟩ := ht.mx
  refine (Tryd.strings_Cut l ⟨#[47]⟩ m w (by omega) hm).mono ?_
  rintro e w' ⟨he, n, rfl⟩
  exact ⟨he, drewN_below w n⟩
theorem PI_ok (s : ByteArray) (v : Int) (w : World) (hs : s.size ≤ 1000) (h : Lib.parseIntB 64 s.data.toList = .ok v) :
    Calls Tryd.prog 47 #[.string s, .int .i64 10, .int .i64 64] w fun e w' => e = .returned (.tuple #[.int .i64 v, .nilIface]) ∧ Below w.heap.size w w' := by
  refine (Tryd.strconv_ParseInt_10_at64_ok s (by omega) v h w).mono ?_
  rintro e w' ⟨he, rfl | ⟨t, rfl⟩⟩
  · exact ⟨he, Below.refl _ _⟩
  · exact ⟨he, Lib.bytesWorld_below _ _ _⟩
theorem PI_no (s : ByteArray) (w : World) (hs : s.size ≤ 1000) (h : ∀ v, Lib.parseIntB 64 s.data.toList ≠ .ok v) (ht : Tabs w) :
    Calls Tryd.prog 47 #[.string s, .int .i64 10, .int .i64 64] w fun e w' => (∃ v p, e = .returned (.tuple #[.int .i64 v, .iface 77 p])) ∧ Below w.heap.size w w' := by
  rcases hp : Lib.parseIntB 64 s.data.toList with v | _ | _
  · exact absurd hp (h v)
  · obtain ⟨ev, h1, h2⟩ := ht.eS
    refine (Tryd.strconv_ParseInt_10_at64_syntax s (by omega) hp ev w h1 h2).mono ?_
    rintro e w' ⟨N, he, _, _, hb⟩
    exact ⟨⟨_, _, he⟩, hb⟩
  · obtain ⟨ev, h1, h2⟩ := ht.eR
    refine (Tryd.strconv_ParseInt_10_at64_range s (by omega) hp ev w h1 h2).mono ?_
    rintro e w' ⟨N, he, _, _, hb⟩
    exact ⟨⟨_, _, he⟩, hb⟩

/-- Text at every pair of integers. -/
theorem Text_any (n d : Int) (w : World) (hn : I64 n) (hd : I64 d) (ht : Tabs w) :
    ∃ x, (x = ⟨#[]⟩ ∧ vld n d = false ∨ ∃ q, Rok q ∧ q.num = n ∧ (q.den : Int) = d ∧ x = txt q) ∧
    Calls Tryd.prog 22 #[.agg #[.int .i64 n, .int .i64 d]] w fun e w' => e = .returned (.string x) ∧ Below w.heap.size w w' := by
  rcases h : vld n d with _ | _
  · exact ⟨_, .inl ⟨rfl, rfl⟩, Text_no n d w (V_no hn hd h)⟩
  · obtain ⟨q, rfl, rfl, hq⟩ := vld_q h
    exact ⟨_, .inr ⟨q, hq, rfl, rfl, rfl⟩, Text_ok q w hq ht⟩

theorem numB_list (n : Int) : (numB n).data.toList = Lib.itoa n := by rw [numB_eq]
theorem itoa_ne (n : Int) : Lib.itoa n ≠ [] := by
  unfold Lib.itoa
  split
  · simp
  · exact dec_ne _
theorem txt_ne (q : Rat) : (txt q).data.toList ≠ [] := by
  by_cases h : (1 : Int) < q.den
  · rw [txt_frac h]; simp [ByteArray.data_append, numB_list, itoa_ne]
  · rw [txt_int h, numB_list]; exact itoa_ne _
theorem txt_size (q : Rat) (hq : Rok q) : (txt q).size ≤ 1000 := by
  have h1 := numB_size q.num hq.1
  have h2 := numB_size (q.den : Int) (by have := hq.2; omega)
  by_cases h : (1 : Int) < q.den
  · rw [txt_frac h, ByteArray.size_append, ByteArray.size_append]
    show _ + (1 + _) ≤ _
    omega
  · rw [txt_int h]; omega

/-- The text of a valid ratio is parsed as the ratio. -/
theorem Parse_txt (q : Rat) (w : World) (hq : Rok q) (ht : Tabs w) :
    Calls Tryd.prog 23 #[.string (txt q)] w fun e w' => e = .returned (.tuple #[.agg #[.int .i64 q.num, .int .i64 q.den], .int .i64 0]) ∧ Below w.heap.size w w' := by
  have hs := txt_size q hq
  have h1 := numB_size q.num hq.1
  have h2 := numB_size (q.den : Int) (by have := hq.2; omega)
  have p1 : Lib.parseIntB 64 (numB q.num).data.toList = .ok q.num := by rw [numB_list]; exact parse_itoa _ hq.1
  have p2 : Lib.parseIntB 64 (numB q.den).data.toList = .ok (q.den : Int) := by rw [numB_list]; exact parse_itoa _ (by have := hq.2; omega)
  by_cases h : (1 : Int) < q.den
  · have hc : Lib.cut (txt q).data.toList [47] = ((numB q.num).data.toList, (numB q.den).data.toList, true) := by
      rw [txt_frac h]
      have := cut_hit (numB q.num).data.toList (numB q.den).data.toList (by rw [numB_list]; exact itoa_no47 _)
      simpa [ByteArray.data_append] using this
    refine Parse_ok2 (txt q) (numB q.num) (numB q.den) _ _ w ht (fun w ht => ?_) (fun w _ => PI_ok _ _ w (by omega) p1) (fun w _ => PI_ok _ _ w (by omega) p2) (fun w ht => Text_ok q w hq ht)
    have := Cut_any (txt q) w hs ht
    rw [hc] at this
    simpa using this
  · have hd1 : (q.den : Int) = 1 := by have := q.den_nz; omega
    have hc : Lib.cut (txt q).data.toList [47] = ((numB q.num).data.toList, [], false) := by
      rw [txt_int h]
      exact cut_miss _ (by rw [numB_list]; exact itoa_no47 _)
    rw [hd1]
    refine Parse_ok1 (txt q) (numB q.num) ⟨#[]⟩ _ w ht (fun w ht => ?_) (fun w _ => PI_ok _ _ w (by omega) p1) (fun w ht => ?_)
    · have := Cut_any (txt q) w hs ht
      rw [hc] at this
      simpa using this
    · have := Text_ok q w hq ht
      rwa [hd1] at this

theorem cut_sizes (l : List UInt8) : (Lib.cut l [47]).1.length ≤ l.length ∧ (Lib.cut l [47]).2.1.length ≤ l.length := by
  unfold Lib.cut
  split
  · simp only [List.length_take, List.length_drop]; omega
  · simp
theorem parse_range {l : List UInt8} {v : Int} (h : Lib.parseIntB 64 l = .ok v) : I64 v := by
  unfold Lib.parseIntB at h
  unfold I64
  rcases l with _ | ⟨c, r⟩
  · cases h
  · simp only at h
    split at h
    · cases h
    · cases h
    · rename_i u _
      split at h
      · cases h
      · split at h
        · cases h
        · rename_i a b
          injection h with h
          have e : (2 : Nat) ^ (64 - 1) = 9223372036854775808 := by decide
          rw [e] at a b
          split at h
          · rename_i hc
            simp only [hc, true_and] at b
            omega
          · rename_i hc
            simp only [hc, not_false_iff, true_and] at a
            omega
theorem parse_nil : ∀ v, Lib.parseIntB 64 [] ≠ .ok v := fun v h => by cases h
theorem ne_list {x l : ByteArray} (h : x ≠ l) : (!x.toList == l.toList) = true := by
  have : x.toList ≠ l.toList := fun e => h (by
    obtain ⟨x, rfl⟩ : ∃ k : List UInt8, x = ⟨k.toArray⟩ := ⟨x.data.toList, by simp⟩
    obtain ⟨l, rfl⟩ : ∃ k : List UInt8, l = ⟨k.toArray⟩ := ⟨l.data.toList, by simp⟩
    have e : x = l := by simpa using e
    rw [e])
  simp [this]

/-- A text that is the text of no valid ratio is not parsed. -/
theorem Parse_not (l : ByteArray) (w : World) (hs : l.size ≤ 1000) (h : ∀ q, Rok q → txt q ≠ l) (ht : Tabs w) :
    Calls Tryd.prog 23 #[.string l] w fun e w' => e = .returned (.tuple #[.agg #[.int .i64 0, .int .i64 0], .int .i64 5]) ∧ Below w.heap.size w w' := by
  have hl : l.data.toList.length = l.size := Array.length_toList
  obtain ⟨z1, z2⟩ := cut_sizes l.data.toList
  have hC := fun w ht => Cut_any l w hs ht
  rcases hc : Lib.cut l.data.toList [47] with ⟨a, b, f⟩
  rw [hc] at z1 z2
  simp only at z1 z2
  simp only [hc] at hC
  have s1 : (⟨a.toArray⟩ : ByteArray).size ≤ 1000 := by show a.toArray.size ≤ _; simp; omega
  have s2 : (⟨b.toArray⟩ : ByteArray).size ≤ 1000 := by show b.toArray.size ≤ _; simp; omega
  have key : ∀ n d, I64 n → I64 d → a ≠ [] → ∀ w, Tabs w → ∃ x, (!x.toList == l.toList) = true ∧ Calls Tryd.prog 22 #[.agg #[.int .i64 n, .int .i64 d]] w fun e w' => e = .returned (.string x) ∧ Below w.heap.size w w' := fun n d hn hd ha w ht => by
    obtain ⟨x, hx, hcall⟩ := Text_any n d w hn hd ht
    refine ⟨x, ?_, hcall⟩
    rcases hx with ⟨rfl, _⟩ | ⟨q, hq, _, _, rfl⟩
    · refine ne_list fun e => ha ?_
      have : l.data.toList = [] := by rw [← e]
      rw [this] at hc
      have : Lib.cut [] [47] = ([], [], false) := cut_miss [] (by simp)
      rw [this] at hc
      exact (congrArg Prod.fst hc).symm
    · exact ne_list (h q hq)
  by_cases h1 : ∃ n, Lib.parseIntB 64 a = .ok n
  · obtain ⟨n, h1⟩ := h1
    have ha : a ≠ [] := fun e => parse_nil n (e ▸ h1)
    have hn := parse_range h1
    have P1 := fun w (_ : Tabs w) => PI_ok ⟨a.toArray⟩ n w s1 (by simpa using h1)
    rcases f with _ | _
    · rcases hv : vld n 1 with _ | _
      · exact Parse_no1 l _ _ n ⟨#[]⟩ w ht hC P1 (fun w _ => Text_no n 1 w (V_no hn ⟨by omega, by omega⟩ hv)) (by
          obtain ⟨x, hx, _⟩ := key n 1 hn ⟨by omega, by omega⟩ ha w ht
          refine ne_list fun e => ha ?_
          have : l.data.toList = [] := by rw [← e]
          rw [this] at hc
          have : Lib.cut [] [47] = ([], [], false) := cut_miss [] (by simp)
          rw [this] at hc
          exact (congrArg Prod.fst hc).symm)
      · obtain ⟨q, e1, e2, hq⟩ := vld_q hv
        exact Parse_no1 l _ _ n (txt q) w ht hC P1 (fun w ht => by have := Text_ok q w hq ht; rwa [e1, e2] at this) (ne_list (h q hq))
    · by_cases h2 : ∃ d, Lib.parseIntB 64 b = .ok d
      · obtain ⟨d, h2⟩ := h2
        have hd := parse_range h2
        have P2 := fun w (_ : Tabs w) => PI_ok ⟨b.toArray⟩ d w s2 (by simpa using h2)
        rcases hv : vld n d with _ | _
        · exact Parse_no2 l _ _ n d ⟨#[]⟩ w ht hC P1 P2 (fun w _ => Text_no n d w (V_no hn hd hv)) (by
            refine ne_list fun e => ha ?_
            have : l.data.toList = [] := by rw [← e]
            rw [this] at hc
            have : Lib.cut [] [47] = ([], [], false) := cut_miss [] (by simp)
            rw [this] at hc
            exact (congrArg Prod.fst hc).symm)
        · obtain ⟨q, e1, e2, hq⟩ := vld_q hv
          exact Parse_no2 l _ _ n d (txt q) w ht hC P1 P2 (fun w ht => by have := Text_ok q w hq ht; rwa [e1, e2] at this) (ne_list (h q hq))
      · exact Parse_e2 l _ _ n w ht hC P1 (fun w ht => PI_no ⟨b.toArray⟩ w s2 (fun v e => h2 ⟨v, by simpa using e⟩) ht)
  · rcases f with _ | _
    · exact Parse_e1f l _ _ w ht hC (fun w ht => PI_no ⟨a.toArray⟩ w s1 (fun v e => h1 ⟨v, by simpa using e⟩) ht)
    · exact Parse_e1t l _ _ w ht hC (fun w ht => PI_no ⟨a.toArray⟩ w s1 (fun v e => h1 ⟨v, by simpa using e⟩) ht)
/-- Two ratios with one text are one. -/
theorem txt_inj {p q : Rat} (hp : Rok p) (hq : Rok q) (h : txt p = txt q) : p = q := by
  have cut_txt : ∀ q : Rat, Rok q → (Lib.cut (txt q).data.toList [47]).1 = Lib.itoa q.num ∧ ((Lib.cut (txt q).data.toList [47]).2.2 = true → (Lib.cut (txt q).data.toList [47]).2.1 = Lib.itoa q.den) ∧ ((Lib.cut (txt q).data.toList [47]).2.2 = false → q.den = 1) := fun q hq => by
    by_cases h : (1 : Int) < q.den
    · have := cut_hit (numB q.num).data.toList (numB q.den).data.toList (by rw [numB_list]; exact itoa_no47 _)
      rw [txt_frac h]
      have e : (numB q.num ++ (⟨#[47]⟩ ++ numB q.den)).data.toList = (numB q.num).data.toList ++ 47 :: (numB q.den).data.toList := by simp [ByteArray.data_append]
      rw [e, this, numB_list, numB_list]
      exact ⟨rfl, fun _ => rfl, (fun h => by cases h)⟩
    · rw [txt_int h, cut_miss _ (by rw [numB_list]; exact itoa_no47 _), numB_list]
      exact ⟨rfl, (fun h => by cases h), fun _ => by have := q.den_nz; omega⟩
  obtain ⟨a1, a2, a3⟩ := cut_txt p hp
  obtain ⟨b1, b2, b3⟩ := cut_txt q hq
  rw [h] at a1 a2 a3
  have inj : ∀ x y : Int, x.natAbs ≤ 1000000000000 → y.natAbs ≤ 1000000000000 → Lib.itoa x = Lib.itoa y → x = y := fun x y hx hy e => by
    have h1 := parse_itoa x hx
    rw [e, parse_itoa y hy] at h1
    injection h1 with h1
    exact h1.symm
  have hn : p.num = q.num := inj _ _ hp.1 hq.1 (a1.symm.trans b1)
  refine q_ext hn ?_
  rcases hf : (Lib.cut (txt q).data.toList [47]).2.2 with _ | _
  · rw [a3 hf, b3 hf]
  · exact inj _ _ (by have := hp.2; omega) (by have := hq.2; omega) ((a2 hf).symm.trans (b2 hf))
end Go.Proofs.YtfcdoifijgbjeaaDoor

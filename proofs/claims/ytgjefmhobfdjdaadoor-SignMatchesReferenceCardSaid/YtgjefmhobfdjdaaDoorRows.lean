/-
  NARROWER THAN 'FOR EVERY INPUT', by the rows' own cells (each row's printed sentence says how): DigestMatchesReference: laid · DigestForm: laid · DigestNumbers: laid · DigestDigits: laid · DigestDifferent: laid · SignMatchesReference: laid · SignVerifies: laid · SignEquation: laid · SignOnce: laid · SignPowers: laid · SignKeys: laid · SignTexts: laid.
  DERIVED. THE GIVEN ROWS OF THIS SEAT. 12 by the template 'for every input the law returns true; each argument reads behind the call as it read before'; 0 by the template 'total and deterministic' (their statements: YtgjefmhobfdjdaaDoorTotals.lean).
  GIVEN WITH THE SEED: the statements are not yours to turn. If you find one false, say at which input.
  Laid BY PROGRAM, IN A SANDBOX (cutbox-rows.mjs): the forced cells as the released guide's own fill.sh prints them over the translation f6218fa09e224d62… (all of the seat's roots in one cut). By AI agents, Wed Nov 11 2026. No macro, syntax, notation, axiom, sorry.
-/
import Derived.Test.YtgjefmhobfdjdaaDoorChecked
import GoSem.Claim
import GoSem.ClaimJoined
import GoSem.ClaimMapViews
import Derived.JoinedTies
import Derived.KernelRfl
namespace Go.Proofs.YtgjefmhobfdjdaaDoor
/- THE CELL 'sum', in the pinned program and in every row, IS THE sha256 OF THE DUMP (.gsa) THAT YtgjefmhobfdjdaaDoorProg.lean LOADS. Nothing in Lean hashes anything: it is a label: what it is worth is what the hold of that sum in a sandbox is worth. -/
noncomputable def Tryd.pinned : Pinned := { name := "ytgjefmhobfdjdaadoor", sum := "f6218fa09e224d62552e8a9c234617b4a6aa63c3aa1fd93385a2e337aa88d654", checked := Tryd.checked }
namespace Rows
def none {H : Type} : Left H := { results := [], args := [] }

/- WHAT THE LISTED PACKAGE-LEVEL VARIABLES READ AS WHEN THE CALL BEGINS. Each datum BY PROGRAM (the guide's laid-datum.mjs) off the statement by which the dump's own 'gosem.cut.vars' lays the variable. In a bare row this is a premise. The card (YtgjefmhobfdjdaaDoorCards.lean) ties it to the program's text. -/
def laid_math_bits_deBruijn32tab {H : Type} : DataW H := .agg [.lit (.int .u8 0), .lit (.int .u8 1), .lit (.int .u8 28), .lit (.int .u8 2), .lit (.int .u8 29), .lit (.int .u8 14), .lit (.int .u8 24), .lit (.int .u8 3), .lit (.int .u8 30), .lit (.int .u8 22), .lit (.int .u8 20), .lit (.int .u8 15), .lit (.int .u8 25), .lit (.int .u8 17), .lit (.int .u8 4), .lit (.int .u8 8), .lit (.int .u8 31), .lit (.int .u8 27), .lit (.int .u8 13), .lit (.int .u8 23), .lit (.int .u8 21), .lit (.int .u8 19), .lit (.int .u8 16), .lit (.int .u8 7), .lit (.int .u8 26), .lit (.int .u8 12), .lit (.int .u8 18), .lit (.int .u8 6), .lit (.int .u8 11), .lit (.int .u8 5), .lit (.int .u8 10), .lit (.int .u8 9)]
def laid_math_bits_deBruijn64tab {H : Type} : DataW H := .agg [.lit (.int .u8 0), .lit (.int .u8 1), .lit (.int .u8 56), .lit (.int .u8 2), .lit (.int .u8 57), .lit (.int .u8 49), .lit (.int .u8 28), .lit (.int .u8 3), .lit (.int .u8 61), .lit (.int .u8 58), .lit (.int .u8 42), .lit (.int .u8 50), .lit (.int .u8 38), .lit (.int .u8 29), .lit (.int .u8 17), .lit (.int .u8 4), .lit (.int .u8 62), .lit (.int .u8 47), .lit (.int .u8 59), .lit (.int .u8 36), .lit (.int .u8 45), .lit (.int .u8 43), .lit (.int .u8 51), .lit (.int .u8 22), .lit (.int .u8 53), .lit (.int .u8 39), .lit (.int .u8 33), .lit (.int .u8 30), .lit (.int .u8 24), .lit (.int .u8 18), .lit (.int .u8 12), .lit (.int .u8 5), .lit (.int .u8 63), .lit (.int .u8 55), .lit (.int .u8 48), .lit (.int .u8 27), .lit (.int .u8 60), .lit (.int .u8 41), .lit (.int .u8 37), .lit (.int .u8 16), .lit (.int .u8 46), .lit (.int .u8 35), .lit (.int .u8 44), .lit (.int .u8 21), .lit (.int .u8 52), .lit (.int .u8 32), .lit (.int .u8 23), .lit (.int .u8 11), .lit (.int .u8 54), .lit (.int .u8 26), .lit (.int .u8 40), .lit (.int .u8 15), .lit (.int .u8 34), .lit (.int .u8 20), .lit (.int .u8 31), .lit (.int .u8 10), .lit (.int .u8 25), .lit (.int .u8 14), .lit (.int .u8 19), .lit (.int .u8 9), .lit (.int .u8 13), .lit (.int .u8 8), .lit (.int .u8 7), .lit (.int .u8 6)]
def laid_internal_strconv_uint64pow10 {H : Type} : DataW H := .agg [.lit (.int .u64 1), .lit (.int .u64 10), .lit (.int .u64 100), .lit (.int .u64 1000), .lit (.int .u64 10000), .lit (.int .u64 100000), .lit (.int .u64 1000000), .lit (.int .u64 10000000), .lit (.int .u64 100000000), .lit (.int .u64 1000000000), .lit (.int .u64 10000000000), .lit (.int .u64 100000000000), .lit (.int .u64 1000000000000), .lit (.int .u64 10000000000000), .lit (.int .u64 100000000000000), .lit (.int .u64 1000000000000000), .lit (.int .u64 10000000000000000), .lit (.int .u64 100000000000000000), .lit (.int .u64 1000000000000000000), .lit (.int .u64 10000000000000000000)]
def laid_estoppel_digest_constants {H : Type} : DataW H := .agg [.lit (.int .u32 1116352408), .lit (.int .u32 1899447441), .lit (.int .u32 3049323471), .lit (.int .u32 3921009573), .lit (.int .u32 961987163), .lit (.int .u32 1508970993), .lit (.int .u32 2453635748), .lit (.int .u32 2870763221), .lit (.int .u32 3624381080), .lit (.int .u32 310598401), .lit (.int .u32 607225278), .lit (.int .u32 1426881987), .lit (.int .u32 1925078388), .lit (.int .u32 2162078206), .lit (.int .u32 2614888103), .lit (.int .u32 3248222580), .lit (.int .u32 3835390401), .lit (.int .u32 4022224774), .lit (.int .u32 264347078), .lit (.int .u32 604807628), .lit (.int .u32 770255983), .lit (.int .u32 1249150122), .lit (.int .u32 1555081692), .lit (.int .u32 1996064986), .lit (.int .u32 2554220882), .lit (.int .u32 2821834349), .lit (.int .u32 2952996808), .lit (.int .u32 3210313671), .lit (.int .u32 3336571891), .lit (.int .u32 3584528711), .lit (.int .u32 113926993), .lit (.int .u32 338241895), .lit (.int .u32 666307205), .lit (.int .u32 773529912), .lit (.int .u32 1294757372), .lit (.int .u32 1396182291), .lit (.int .u32 1695183700), .lit (.int .u32 1986661051), .lit (.int .u32 2177026350), .lit (.int .u32 2456956037), .lit (.int .u32 2730485921), .lit (.int .u32 2820302411), .lit (.int .u32 3259730800), .lit (.int .u32 3345764771), .lit (.int .u32 3516065817), .lit (.int .u32 3600352804), .lit (.int .u32 4094571909), .lit (.int .u32 275423344), .lit (.int .u32 430227734), .lit (.int .u32 506948616), .lit (.int .u32 659060556), .lit (.int .u32 883997877), .lit (.int .u32 958139571), .lit (.int .u32 1322822218), .lit (.int .u32 1537002063), .lit (.int .u32 1747873779), .lit (.int .u32 1955562222), .lit (.int .u32 2024104815), .lit (.int .u32 2227730452), .lit (.int .u32 2361852424), .lit (.int .u32 2428436474), .lit (.int .u32 2756734187), .lit (.int .u32 3204031479), .lit (.int .u32 3329325298)]
def laid_estoppel_digest_first {H : Type} : DataW H := .agg [.lit (.int .u32 1779033703), .lit (.int .u32 3144134277), .lit (.int .u32 1013904242), .lit (.int .u32 2773480762), .lit (.int .u32 1359893119), .lit (.int .u32 2600822924), .lit (.int .u32 528734635), .lit (.int .u32 1541459225)]

/-- 'estoppellaw28.DigestMatchesReference': WHATEVER THE INPUT: true; the input reads as it did. -/
def digestMatchesReferenceSpec : ChangeSpec := { name := "digestMatchesReference", fn := fun _ => fun
  | [d1, d2] => { results := [.lit (.bool true)], args := [d1, d2] }
  | _ => none }
def digestMatchesReferenceRow : OpenClaim := { program := "ytgjefmhobfdjdaadoor", sum := "f6218fa09e224d62552e8a9c234617b4a6aa63c3aa1fd93385a2e337aa88d654", func := "estoppel/estoppellaw28.DigestMatchesReference", spec := "digestMatchesReference", named := ["estoppel/digest.first", "estoppel/digest.constants", "internal/strconv.uint64pow10", "math/bits.deBruijn32tab", "math/bits.deBruijn64tab"], apart := false, laid := [("math/bits.deBruijn32tab", laid_math_bits_deBruijn32tab), ("math/bits.deBruijn64tab", laid_math_bits_deBruijn64tab), ("internal/strconv.uint64pow10", laid_internal_strconv_uint64pow10), ("estoppel/digest.constants", laid_estoppel_digest_constants), ("estoppel/digest.first", laid_estoppel_digest_first)] }
def DigestMatchesReferenceSaid : Prop := digestMatchesReferenceRow.holds Tryd.pinned (OpenSpec.ofChange digestMatchesReferenceSpec)

/-- ITS FALSE NEIGHBOUR: 'it returns false'. Refute it at one input. -/
def digestMatchesReferenceWrong : ChangeSpec := { name := "digestMatchesReference", fn := fun _ => fun
  | [d1, d2] => { results := [.lit (.bool false)], args := [d1, d2] }
  | _ => none }
def DigestMatchesReferenceWrongFalsely : Prop := digestMatchesReferenceRow.holds Tryd.pinned (OpenSpec.ofChange digestMatchesReferenceWrong)

/-- 'estoppellaw28.DigestForm': WHATEVER THE INPUT: true; the input reads as it did. -/
def digestFormSpec : ChangeSpec := { name := "digestForm", fn := fun _ => fun
  | [d] => { results := [.lit (.bool true)], args := [d] }
  | _ => none }
def digestFormRow : OpenClaim := { program := "ytgjefmhobfdjdaadoor", sum := "f6218fa09e224d62552e8a9c234617b4a6aa63c3aa1fd93385a2e337aa88d654", func := "estoppel/estoppellaw28.DigestForm", spec := "digestForm", named := ["estoppel/digest.first", "estoppel/digest.constants", "internal/strconv.uint64pow10", "math/bits.deBruijn32tab", "math/bits.deBruijn64tab"], apart := false, laid := [("math/bits.deBruijn32tab", laid_math_bits_deBruijn32tab), ("math/bits.deBruijn64tab", laid_math_bits_deBruijn64tab), ("internal/strconv.uint64pow10", laid_internal_strconv_uint64pow10), ("estoppel/digest.constants", laid_estoppel_digest_constants), ("estoppel/digest.first", laid_estoppel_digest_first)] }
def DigestFormSaid : Prop := digestFormRow.holds Tryd.pinned (OpenSpec.ofChange digestFormSpec)

/-- ITS FALSE NEIGHBOUR: 'it returns false'. Refute it at one input. -/
def digestFormWrong : ChangeSpec := { name := "digestForm", fn := fun _ => fun
  | [d] => { results := [.lit (.bool false)], args := [d] }
  | _ => none }
def DigestFormWrongFalsely : Prop := digestFormRow.holds Tryd.pinned (OpenSpec.ofChange digestFormWrong)

/-- 'estoppellaw28.DigestNumbers': WHATEVER THE INPUT: true; the input reads as it did. -/
def digestNumbersSpec : ChangeSpec := { name := "digestNumbers", fn := fun _ => fun
  | [d1, d2, d3] => { results := [.lit (.bool true)], args := [d1, d2, d3] }
  | _ => none }
def digestNumbersRow : OpenClaim := { program := "ytgjefmhobfdjdaadoor", sum := "f6218fa09e224d62552e8a9c234617b4a6aa63c3aa1fd93385a2e337aa88d654", func := "estoppel/estoppellaw28.DigestNumbers", spec := "digestNumbers", named := ["estoppel/digest.first", "estoppel/digest.constants", "internal/strconv.uint64pow10", "math/bits.deBruijn32tab", "math/bits.deBruijn64tab"], apart := false, laid := [("math/bits.deBruijn32tab", laid_math_bits_deBruijn32tab), ("math/bits.deBruijn64tab", laid_math_bits_deBruijn64tab), ("internal/strconv.uint64pow10", laid_internal_strconv_uint64pow10), ("estoppel/digest.constants", laid_estoppel_digest_constants), ("estoppel/digest.first", laid_estoppel_digest_first)] }
def DigestNumbersSaid : Prop := digestNumbersRow.holds Tryd.pinned (OpenSpec.ofChange digestNumbersSpec)

/-- ITS FALSE NEIGHBOUR: 'it returns false'. Refute it at one input. -/
def digestNumbersWrong : ChangeSpec := { name := "digestNumbers", fn := fun _ => fun
  | [d1, d2, d3] => { results := [.lit (.bool false)], args := [d1, d2, d3] }
  | _ => none }
def DigestNumbersWrongFalsely : Prop := digestNumbersRow.holds Tryd.pinned (OpenSpec.ofChange digestNumbersWrong)

/-- 'estoppellaw28.DigestDigits': WHATEVER THE INPUT: true; the input reads as it did. -/
def digestDigitsSpec : ChangeSpec := { name := "digestDigits", fn := fun _ => fun
  | [d] => { results := [.lit (.bool true)], args := [d] }
  | _ => none }
def digestDigitsRow : OpenClaim := { program := "ytgjefmhobfdjdaadoor", sum := "f6218fa09e224d62552e8a9c234617b4a6aa63c3aa1fd93385a2e337aa88d654", func := "estoppel/estoppellaw28.DigestDigits", spec := "digestDigits", named := ["estoppel/digest.first", "estoppel/digest.constants", "internal/strconv.uint64pow10", "math/bits.deBruijn32tab", "math/bits.deBruijn64tab"], apart := false, laid := [("math/bits.deBruijn32tab", laid_math_bits_deBruijn32tab), ("math/bits.deBruijn64tab", laid_math_bits_deBruijn64tab), ("internal/strconv.uint64pow10", laid_internal_strconv_uint64pow10), ("estoppel/digest.constants", laid_estoppel_digest_constants), ("estoppel/digest.first", laid_estoppel_digest_first)] }
def DigestDigitsSaid : Prop := digestDigitsRow.holds Tryd.pinned (OpenSpec.ofChange digestDigitsSpec)

/-- ITS FALSE NEIGHBOUR: 'it returns false'. Refute it at one input. -/
def digestDigitsWrong : ChangeSpec := { name := "digestDigits", fn := fun _ => fun
  | [d] => { results := [.lit (.bool false)], args := [d] }
  | _ => none }
def DigestDigitsWrongFalsely : Prop := digestDigitsRow.holds Tryd.pinned (OpenSpec.ofChange digestDigitsWrong)

/-- 'estoppellaw28.DigestDifferent': WHATEVER THE INPUT: true; the input reads as it did. -/
def digestDifferentSpec : ChangeSpec := { name := "digestDifferent", fn := fun _ => fun
  | [d1, d2] => { results := [.lit (.bool true)], args := [d1, d2] }
  | _ => none }
def digestDifferentRow : OpenClaim := { program := "ytgjefmhobfdjdaadoor", sum := "f6218fa09e224d62552e8a9c234617b4a6aa63c3aa1fd93385a2e337aa88d654", func := "estoppel/estoppellaw28.DigestDifferent", spec := "digestDifferent", named := ["estoppel/digest.first", "estoppel/digest.constants", "internal/strconv.uint64pow10", "math/bits.deBruijn32tab", "math/bits.deBruijn64tab"], apart := false, laid := [("math/bits.deBruijn32tab", laid_math_bits_deBruijn32tab), ("math/bits.deBruijn64tab", laid_math_bits_deBruijn64tab), ("internal/strconv.uint64pow10", laid_internal_strconv_uint64pow10), ("estoppel/digest.constants", laid_estoppel_digest_constants), ("estoppel/digest.first", laid_estoppel_digest_first)] }
def DigestDifferentSaid : Prop := digestDifferentRow.holds Tryd.pinned (OpenSpec.ofChange digestDifferentSpec)

/-- ITS FALSE NEIGHBOUR: 'it returns false'. Refute it at one input. -/
def digestDifferentWrong : ChangeSpec := { name := "digestDifferent", fn := fun _ => fun
  | [d1, d2] => { results := [.lit (.bool false)], args := [d1, d2] }
  | _ => none }
def DigestDifferentWrongFalsely : Prop := digestDifferentRow.holds Tryd.pinned (OpenSpec.ofChange digestDifferentWrong)

/-- 'estoppellaw29.SignMatchesReference': WHATEVER THE INPUT: true; the input reads as it did. -/
def signMatchesReferenceSpec : ChangeSpec := { name := "signMatchesReference", fn := fun _ => fun
  | [d1, d2, d3, d4, d5, d6] => { results := [.lit (.bool true)], args := [d1, d2, d3, d4, d5, d6] }
  | _ => none }
def signMatchesReferenceRow : OpenClaim := { program := "ytgjefmhobfdjdaadoor", sum := "f6218fa09e224d62552e8a9c234617b4a6aa63c3aa1fd93385a2e337aa88d654", func := "estoppel/estoppellaw29.SignMatchesReference", spec := "signMatchesReference", unfollowed := true, recurses := true, named := ["internal/strconv.uint64pow10", "math/bits.deBruijn32tab", "math/bits.deBruijn64tab", "estoppel/digest.first", "estoppel/digest.constants"], apart := false, laid := [("math/bits.deBruijn32tab", laid_math_bits_deBruijn32tab), ("math/bits.deBruijn64tab", laid_math_bits_deBruijn64tab), ("internal/strconv.uint64pow10", laid_internal_strconv_uint64pow10), ("estoppel/digest.constants", laid_estoppel_digest_constants), ("estoppel/digest.first", laid_estoppel_digest_first)] }
def SignMatchesReferenceSaid : Prop := signMatchesReferenceRow.holds Tryd.pinned (OpenSpec.ofChange signMatchesReferenceSpec)

/-- ITS FALSE NEIGHBOUR: 'it returns false'. Refute it at one input. -/
def signMatchesReferenceWrong : ChangeSpec := { name := "signMatchesReference", fn := fun _ => fun
  | [d1, d2, d3, d4, d5, d6] => { results := [.lit (.bool false)], args := [d1, d2, d3, d4, d5, d6] }
  | _ => none }
def SignMatchesReferenceWrongFalsely : Prop := signMatchesReferenceRow.holds Tryd.pinned (OpenSpec.ofChange signMatchesReferenceWrong)

/-- 'estoppellaw29.SignVerifies': WHATEVER THE INPUT: true; the input reads as it did. -/
def signVerifiesSpec : ChangeSpec := { name := "signVerifies", fn := fun _ => fun
  | [d1, d2] => { results := [.lit (.bool true)], args := [d1, d2] }
  | _ => none }
def signVerifiesRow : OpenClaim := { program := "ytgjefmhobfdjdaadoor", sum := "f6218fa09e224d62552e8a9c234617b4a6aa63c3aa1fd93385a2e337aa88d654", func := "estoppel/estoppellaw29.SignVerifies", spec := "signVerifies", unfollowed := true, recurses := true, named := ["internal/strconv.uint64pow10", "math/bits.deBruijn32tab", "math/bits.deBruijn64tab", "estoppel/digest.first", "estoppel/digest.constants"], apart := false, laid := [("math/bits.deBruijn32tab", laid_math_bits_deBruijn32tab), ("math/bits.deBruijn64tab", laid_math_bits_deBruijn64tab), ("internal/strconv.uint64pow10", laid_internal_strconv_uint64pow10), ("estoppel/digest.constants", laid_estoppel_digest_constants), ("estoppel/digest.first", laid_estoppel_digest_first)] }
def SignVerifiesSaid : Prop := signVerifiesRow.holds Tryd.pinned (OpenSpec.ofChange signVerifiesSpec)

/-- ITS FALSE NEIGHBOUR: 'it returns false'. Refute it at one input. -/
def signVerifiesWrong : ChangeSpec := { name := "signVerifies", fn := fun _ => fun
  | [d1, d2] => { results := [.lit (.bool false)], args := [d1, d2] }
  | _ => none }
def SignVerifiesWrongFalsely : Prop := signVerifiesRow.holds Tryd.pinned (OpenSpec.ofChange signVerifiesWrong)

/-- 'estoppellaw29.SignEquation': WHATEVER THE INPUT: true; the input reads as it did. -/
def signEquationSpec : ChangeSpec := { name := "signEquation", fn := fun _ => fun
  | [d1, d2, d3] => { results := [.lit (.bool true)], args := [d1, d2, d3] }
  | _ => none }
def signEquationRow : OpenClaim := { program := "ytgjefmhobfdjdaadoor", sum := "f6218fa09e224d62552e8a9c234617b4a6aa63c3aa1fd93385a2e337aa88d654", func := "estoppel/estoppellaw29.SignEquation", spec := "signEquation", unfollowed := true, recurses := true, named := ["internal/strconv.uint64pow10", "math/bits.deBruijn32tab", "math/bits.deBruijn64tab", "estoppel/digest.first", "estoppel/digest.constants"], apart := false, laid := [("math/bits.deBruijn32tab", laid_math_bits_deBruijn32tab), ("math/bits.deBruijn64tab", laid_math_bits_deBruijn64tab), ("internal/strconv.uint64pow10", laid_internal_strconv_uint64pow10), ("estoppel/digest.constants", laid_estoppel_digest_constants), ("estoppel/digest.first", laid_estoppel_digest_first)] }
def SignEquationSaid : Prop := signEquationRow.holds Tryd.pinned (OpenSpec.ofChange signEquationSpec)

/-- ITS FALSE NEIGHBOUR: 'it returns false'. Refute it at one input. -/
def signEquationWrong : ChangeSpec := { name := "signEquation", fn := fun _ => fun
  | [d1, d2, d3] => { results := [.lit (.bool false)], args := [d1, d2, d3] }
  | _ => none }
def SignEquationWrongFalsely : Prop := signEquationRow.holds Tryd.pinned (OpenSpec.ofChange signEquationWrong)

/-- 'estoppellaw29.SignOnce': WHATEVER THE INPUT: true; the input reads as it did. -/
def signOnceSpec : ChangeSpec := { name := "signOnce", fn := fun _ => fun
  | [d1, d2, d3, d4, d5, d6, d7] => { results := [.lit (.bool true)], args := [d1, d2, d3, d4, d5, d6, d7] }
  | _ => none }
def signOnceRow : OpenClaim := { program := "ytgjefmhobfdjdaadoor", sum := "f6218fa09e224d62552e8a9c234617b4a6aa63c3aa1fd93385a2e337aa88d654", func := "estoppel/estoppellaw29.SignOnce", spec := "signOnce", unfollowed := true, recurses := true, named := ["internal/strconv.uint64pow10", "math/bits.deBruijn32tab", "math/bits.deBruijn64tab", "estoppel/digest.first", "estoppel/digest.constants"], apart := false, laid := [("math/bits.deBruijn32tab", laid_math_bits_deBruijn32tab), ("math/bits.deBruijn64tab", laid_math_bits_deBruijn64tab), ("internal/strconv.uint64pow10", laid_internal_strconv_uint64pow10), ("estoppel/digest.constants", laid_estoppel_digest_constants), ("estoppel/digest.first", laid_estoppel_digest_first)] }
def SignOnceSaid : Prop := signOnceRow.holds Tryd.pinned (OpenSpec.ofChange signOnceSpec)

/-- ITS FALSE NEIGHBOUR: 'it returns false'. Refute it at one input. -/
def signOnceWrong : ChangeSpec := { name := "signOnce", fn := fun _ => fun
  | [d1, d2, d3, d4, d5, d6, d7] => { results := [.lit (.bool false)], args := [d1, d2, d3, d4, d5, d6, d7] }
  | _ => none }
def SignOnceWrongFalsely : Prop := signOnceRow.holds Tryd.pinned (OpenSpec.ofChange signOnceWrong)

/-- 'estoppellaw29.SignPowers': WHATEVER THE INPUT: true; the input reads as it did. -/
def signPowersSpec : ChangeSpec := { name := "signPowers", fn := fun _ => fun
  | [d1, d2, d3] => { results := [.lit (.bool true)], args := [d1, d2, d3] }
  | _ => none }
def signPowersRow : OpenClaim := { program := "ytgjefmhobfdjdaadoor", sum := "f6218fa09e224d62552e8a9c234617b4a6aa63c3aa1fd93385a2e337aa88d654", func := "estoppel/estoppellaw29.SignPowers", spec := "signPowers", unfollowed := true, recurses := true, named := ["internal/strconv.uint64pow10", "math/bits.deBruijn32tab", "math/bits.deBruijn64tab", "estoppel/digest.first", "estoppel/digest.constants"], apart := false, laid := [("math/bits.deBruijn32tab", laid_math_bits_deBruijn32tab), ("math/bits.deBruijn64tab", laid_math_bits_deBruijn64tab), ("internal/strconv.uint64pow10", laid_internal_strconv_uint64pow10), ("estoppel/digest.constants", laid_estoppel_digest_constants), ("estoppel/digest.first", laid_estoppel_digest_first)] }
def SignPowersSaid : Prop := signPowersRow.holds Tryd.pinned (OpenSpec.ofChange signPowersSpec)

/-- ITS FALSE NEIGHBOUR: 'it returns false'. Refute it at one input. -/
def signPowersWrong : ChangeSpec := { name := "signPowers", fn := fun _ => fun
  | [d1, d2, d3] => { results := [.lit (.bool false)], args := [d1, d2, d3] }
  | _ => none }
def SignPowersWrongFalsely : Prop := signPowersRow.holds Tryd.pinned (OpenSpec.ofChange signPowersWrong)

/-- 'estoppellaw29.SignKeys': WHATEVER THE INPUT: true; the input reads as it did. -/
def signKeysSpec : ChangeSpec := { name := "signKeys", fn := fun _ => fun
  | [d1, d2] => { results := [.lit (.bool true)], args := [d1, d2] }
  | _ => none }
def signKeysRow : OpenClaim := { program := "ytgjefmhobfdjdaadoor", sum := "f6218fa09e224d62552e8a9c234617b4a6aa63c3aa1fd93385a2e337aa88d654", func := "estoppel/estoppellaw29.SignKeys", spec := "signKeys", unfollowed := true, recurses := true, named := ["internal/strconv.uint64pow10", "math/bits.deBruijn32tab", "math/bits.deBruijn64tab", "estoppel/digest.first", "estoppel/digest.constants"], apart := false, laid := [("math/bits.deBruijn32tab", laid_math_bits_deBruijn32tab), ("math/bits.deBruijn64tab", laid_math_bits_deBruijn64tab), ("internal/strconv.uint64pow10", laid_internal_strconv_uint64pow10), ("estoppel/digest.constants", laid_estoppel_digest_constants), ("estoppel/digest.first", laid_estoppel_digest_first)] }
def SignKeysSaid : Prop := signKeysRow.holds Tryd.pinned (OpenSpec.ofChange signKeysSpec)

/-- ITS FALSE NEIGHBOUR: 'it returns false'. Refute it at one input. -/
def signKeysWrong : ChangeSpec := { name := "signKeys", fn := fun _ => fun
  | [d1, d2] => { results := [.lit (.bool false)], args := [d1, d2] }
  | _ => none }
def SignKeysWrongFalsely : Prop := signKeysRow.holds Tryd.pinned (OpenSpec.ofChange signKeysWrong)

/-- 'estoppellaw29.SignTexts': WHATEVER THE INPUT: true; the input reads as it did. -/
def signTextsSpec : ChangeSpec := { name := "signTexts", fn := fun _ => fun
  | [d1, d2, d3] => { results := [.lit (.bool true)], args := [d1, d2, d3] }
  | _ => none }
def signTextsRow : OpenClaim := { program := "ytgjefmhobfdjdaadoor", sum := "f6218fa09e224d62552e8a9c234617b4a6aa63c3aa1fd93385a2e337aa88d654", func := "estoppel/estoppellaw29.SignTexts", spec := "signTexts", unfollowed := true, recurses := true, named := ["internal/strconv.uint64pow10", "math/bits.deBruijn32tab", "math/bits.deBruijn64tab", "estoppel/digest.first", "estoppel/digest.constants"], apart := false, laid := [("math/bits.deBruijn32tab", laid_math_bits_deBruijn32tab), ("math/bits.deBruijn64tab", laid_math_bits_deBruijn64tab), ("internal/strconv.uint64pow10", laid_internal_strconv_uint64pow10), ("estoppel/digest.constants", laid_estoppel_digest_constants), ("estoppel/digest.first", laid_estoppel_digest_first)] }
def SignTextsSaid : Prop := signTextsRow.holds Tryd.pinned (OpenSpec.ofChange signTextsSpec)

/-- ITS FALSE NEIGHBOUR: 'it returns false'. Refute it at one input. -/
def signTextsWrong : ChangeSpec := { name := "signTexts", fn := fun _ => fun
  | [d1, d2, d3] => { results := [.lit (.bool false)], args := [d1, d2, d3] }
  | _ => none }
def SignTextsWrongFalsely : Prop := signTextsRow.holds Tryd.pinned (OpenSpec.ofChange signTextsWrong)

/- THE SECOND FORM. 'bulk': how many values and letters a reading holds, each counted each time it is reached (what is shared counts as often as it is met; a slice's spare places count too). A statement '..UptoSaid' is the law's where the arguments, and the package variables that the reading takes, are together of bulk at most 1048576: NARROWER than '..Said'. Prove '..Said' where nothing that the law and all that it calls make is longer than what came in: it says more and counts as full. Else prove '..UptoSaid'. A law counts once. -/
mutual
def uptoBulk {H : Type} : DataW H → Nat
  | .lit (.string bytes) => bytes.length + 1
  | .lit _ => 1
  | .nil => 1
  | .ptr d => uptoBulk d + 1
  | .slice elems spare => uptoBulkAll elems + uptoBulkAll spare + 1
  | .agg parts => uptoBulkAll parts + 1
  | .iface _ d => uptoBulk d + 1
  | .map entries => uptoBulkEntries entries + 1
  | .held _ => 1
def uptoBulkAll {H : Type} : List (DataW H) → Nat
  | [] => 0
  | d :: r => uptoBulk d + uptoBulkAll r
def uptoBulkEntries {H : Type} : List (Lit × DataW H) → Nat
  | [] => 0
  | x :: r => uptoBulkEntry x + uptoBulkEntries r
def uptoBulkEntry {H : Type} : Lit × DataW H → Nat
  | (.string bytes, d) => bytes.length + uptoBulk d + 1
  | (_, d) => uptoBulk d + 1
 end
def uptoSmall : (H : Type) → List (DataW H) → Bool := fun _ ds => decide (uptoBulkAll ds ≤ 1048576)
def OpenSpec.upto (s : _root_.Go.ChangeSpec) : _root_.Go.OpenSpec := { _root_.Go.OpenSpec.ofChange s with cond := some uptoSmall }

/-- 'estoppellaw28.DigestMatchesReference', WHERE WHAT IT READS IS OF BULK AT MOST 1048576: true; the input reads as it did. -/
def digestMatchesReferenceUptoRow : OpenClaim := { program := "ytgjefmhobfdjdaadoor", sum := "f6218fa09e224d62552e8a9c234617b4a6aa63c3aa1fd93385a2e337aa88d654", func := "estoppel/estoppellaw28.DigestMatchesReference", spec := "digestMatchesReference", named := ["estoppel/digest.first", "estoppel/digest.constants", "internal/strconv.uint64pow10", "math/bits.deBruijn32tab", "math/bits.deBruijn64tab"], apart := false, laid := [("math/bits.deBruijn32tab", laid_math_bits_deBruijn32tab), ("math/bits.deBruijn64tab", laid_math_bits_deBruijn64tab), ("internal/strconv.uint64pow10", laid_internal_strconv_uint64pow10), ("estoppel/digest.constants", laid_estoppel_digest_constants), ("estoppel/digest.first", laid_estoppel_digest_first)], narrowed := true }
def DigestMatchesReferenceUptoSaid : Prop := digestMatchesReferenceUptoRow.holds Tryd.pinned (OpenSpec.upto digestMatchesReferenceSpec)

/-- 'estoppellaw28.DigestForm', WHERE WHAT IT READS IS OF BULK AT MOST 1048576: true; the input reads as it did. -/
def digestFormUptoRow : OpenClaim := { program := "ytgjefmhobfdjdaadoor", sum := "f6218fa09e224d62552e8a9c234617b4a6aa63c3aa1fd93385a2e337aa88d654", func := "estoppel/estoppellaw28.DigestForm", spec := "digestForm", named := ["estoppel/digest.first", "estoppel/digest.constants", "internal/strconv.uint64pow10", "math/bits.deBruijn32tab", "math/bits.deBruijn64tab"], apart := false, laid := [("math/bits.deBruijn32tab", laid_math_bits_deBruijn32tab), ("math/bits.deBruijn64tab", laid_math_bits_deBruijn64tab), ("internal/strconv.uint64pow10", laid_internal_strconv_uint64pow10), ("estoppel/digest.constants", laid_estoppel_digest_constants), ("estoppel/digest.first", laid_estoppel_digest_first)], narrowed := true }
def DigestFormUptoSaid : Prop := digestFormUptoRow.holds Tryd.pinned (OpenSpec.upto digestFormSpec)

/-- 'estoppellaw28.DigestNumbers', WHERE WHAT IT READS IS OF BULK AT MOST 1048576: true; the input reads as it did. -/
def digestNumbersUptoRow : OpenClaim := { program := "ytgjefmhobfdjdaadoor", sum := "f6218fa09e224d62552e8a9c234617b4a6aa63c3aa1fd93385a2e337aa88d654", func := "estoppel/estoppellaw28.DigestNumbers", spec := "digestNumbers", named := ["estoppel/digest.first", "estoppel/digest.constants", "internal/strconv.uint64pow10", "math/bits.deBruijn32tab", "math/bits.deBruijn64tab"], apart := false, laid := [("math/bits.deBruijn32tab", laid_math_bits_deBruijn32tab), ("math/bits.deBruijn64tab", laid_math_bits_deBruijn64tab), ("internal/strconv.uint64pow10", laid_internal_strconv_uint64pow10), ("estoppel/digest.constants", laid_estoppel_digest_constants), ("estoppel/digest.first", laid_estoppel_digest_first)], narrowed := true }
def DigestNumbersUptoSaid : Prop := digestNumbersUptoRow.holds Tryd.pinned (OpenSpec.upto digestNumbersSpec)

/-- 'estoppellaw28.DigestDigits', WHERE WHAT IT READS IS OF BULK AT MOST 1048576: true; the input reads as it did. -/
def digestDigitsUptoRow : OpenClaim := { program := "ytgjefmhobfdjdaadoor", sum := "f6218fa09e224d62552e8a9c234617b4a6aa63c3aa1fd93385a2e337aa88d654", func := "estoppel/estoppellaw28.DigestDigits", spec := "digestDigits", named := ["estoppel/digest.first", "estoppel/digest.constants", "internal/strconv.uint64pow10", "math/bits.deBruijn32tab", "math/bits.deBruijn64tab"], apart := false, laid := [("math/bits.deBruijn32tab", laid_math_bits_deBruijn32tab), ("math/bits.deBruijn64tab", laid_math_bits_deBruijn64tab), ("internal/strconv.uint64pow10", laid_internal_strconv_uint64pow10), ("estoppel/digest.constants", laid_estoppel_digest_constants), ("estoppel/digest.first", laid_estoppel_digest_first)], narrowed := true }
def DigestDigitsUptoSaid : Prop := digestDigitsUptoRow.holds Tryd.pinned (OpenSpec.upto digestDigitsSpec)

/-- 'estoppellaw28.DigestDifferent', WHERE WHAT IT READS IS OF BULK AT MOST 1048576: true; the input reads as it did. -/
def digestDifferentUptoRow : OpenClaim := { program := "ytgjefmhobfdjdaadoor", sum := "f6218fa09e224d62552e8a9c234617b4a6aa63c3aa1fd93385a2e337aa88d654", func := "estoppel/estoppellaw28.DigestDifferent", spec := "digestDifferent", named := ["estoppel/digest.first", "estoppel/digest.constants", "internal/strconv.uint64pow10", "math/bits.deBruijn32tab", "math/bits.deBruijn64tab"], apart := false, laid := [("math/bits.deBruijn32tab", laid_math_bits_deBruijn32tab), ("math/bits.deBruijn64tab", laid_math_bits_deBruijn64tab), ("internal/strconv.uint64pow10", laid_internal_strconv_uint64pow10), ("estoppel/digest.constants", laid_estoppel_digest_constants), ("estoppel/digest.first", laid_estoppel_digest_first)], narrowed := true }
def DigestDifferentUptoSaid : Prop := digestDifferentUptoRow.holds Tryd.pinned (OpenSpec.upto digestDifferentSpec)

/-- 'estoppellaw29.SignMatchesReference', WHERE WHAT IT READS IS OF BULK AT MOST 1048576: true; the input reads as it did. -/
def signMatchesReferenceUptoRow : OpenClaim := { program := "ytgjefmhobfdjdaadoor", sum := "f6218fa09e224d62552e8a9c234617b4a6aa63c3aa1fd93385a2e337aa88d654", func := "estoppel/estoppellaw29.SignMatchesReference", spec := "signMatchesReference", unfollowed := true, recurses := true, named := ["internal/strconv.uint64pow10", "math/bits.deBruijn32tab", "math/bits.deBruijn64tab", "estoppel/digest.first", "estoppel/digest.constants"], apart := false, laid := [("math/bits.deBruijn32tab", laid_math_bits_deBruijn32tab), ("math/bits.deBruijn64tab", laid_math_bits_deBruijn64tab), ("internal/strconv.uint64pow10", laid_internal_strconv_uint64pow10), ("estoppel/digest.constants", laid_estoppel_digest_constants), ("estoppel/digest.first", laid_estoppel_digest_first)], narrowed := true }
def SignMatchesReferenceUptoSaid : Prop := signMatchesReferenceUptoRow.holds Tryd.pinned (OpenSpec.upto signMatchesReferenceSpec)

/-- 'estoppellaw29.SignVerifies', WHERE WHAT IT READS IS OF BULK AT MOST 1048576: true; the input reads as it did. -/
def signVerifiesUptoRow : OpenClaim := { program := "ytgjefmhobfdjdaadoor", sum := "f6218fa09e224d62552e8a9c234617b4a6aa63c3aa1fd93385a2e337aa88d654", func := "estoppel/estoppellaw29.SignVerifies", spec := "signVerifies", unfollowed := true, recurses := true, named := ["internal/strconv.uint64pow10", "math/bits.deBruijn32tab", "math/bits.deBruijn64tab", "estoppel/digest.first", "estoppel/digest.constants"], apart := false, laid := [("math/bits.deBruijn32tab", laid_math_bits_deBruijn32tab), ("math/bits.deBruijn64tab", laid_math_bits_deBruijn64tab), ("internal/strconv.uint64pow10", laid_internal_strconv_uint64pow10), ("estoppel/digest.constants", laid_estoppel_digest_constants), ("estoppel/digest.first", laid_estoppel_digest_first)], narrowed := true }
def SignVerifiesUptoSaid : Prop := signVerifiesUptoRow.holds Tryd.pinned (OpenSpec.upto signVerifiesSpec)

/-- 'estoppellaw29.SignEquation', WHERE WHAT IT READS IS OF BULK AT MOST 1048576: true; the input reads as it did. -/
def signEquationUptoRow : OpenClaim := { program := "ytgjefmhobfdjdaadoor", sum := "f6218fa09e224d62552e8a9c234617b4a6aa63c3aa1fd93385a2e337aa88d654", func := "estoppel/estoppellaw29.SignEquation", spec := "signEquation", unfollowed := true, recurses := true, named := ["internal/strconv.uint64pow10", "math/bits.deBruijn32tab", "math/bits.deBruijn64tab", "estoppel/digest.first", "estoppel/digest.constants"], apart := false, laid := [("math/bits.deBruijn32tab", laid_math_bits_deBruijn32tab), ("math/bits.deBruijn64tab", laid_math_bits_deBruijn64tab), ("internal/strconv.uint64pow10", laid_internal_strconv_uint64pow10), ("estoppel/digest.constants", laid_estoppel_digest_constants), ("estoppel/digest.first", laid_estoppel_digest_first)], narrowed := true }
def SignEquationUptoSaid : Prop := signEquationUptoRow.holds Tryd.pinned (OpenSpec.upto signEquationSpec)

/-- 'estoppellaw29.SignOnce', WHERE WHAT IT READS IS OF BULK AT MOST 1048576: true; the input reads as it did. -/
def signOnceUptoRow : OpenClaim := { program := "ytgjefmhobfdjdaadoor", sum := "f6218fa09e224d62552e8a9c234617b4a6aa63c3aa1fd93385a2e337aa88d654", func := "estoppel/estoppellaw29.SignOnce", spec := "signOnce", unfollowed := true, recurses := true, named := ["internal/strconv.uint64pow10", "math/bits.deBruijn32tab", "math/bits.deBruijn64tab", "estoppel/digest.first", "estoppel/digest.constants"], apart := false, laid := [("math/bits.deBruijn32tab", laid_math_bits_deBruijn32tab), ("math/bits.deBruijn64tab", laid_math_bits_deBruijn64tab), ("internal/strconv.uint64pow10", laid_internal_strconv_uint64pow10), ("estoppel/digest.constants", laid_estoppel_digest_constants), ("estoppel/digest.first", laid_estoppel_digest_first)], narrowed := true }
def SignOnceUptoSaid : Prop := signOnceUptoRow.holds Tryd.pinned (OpenSpec.upto signOnceSpec)

/-- 'estoppellaw29.SignPowers', WHERE WHAT IT READS IS OF BULK AT MOST 1048576: true; the input reads as it did. -/
def signPowersUptoRow : OpenClaim := { program := "ytgjefmhobfdjdaadoor", sum := "f6218fa09e224d62552e8a9c234617b4a6aa63c3aa1fd93385a2e337aa88d654", func := "estoppel/estoppellaw29.SignPowers", spec := "signPowers", unfollowed := true, recurses := true, named := ["internal/strconv.uint64pow10", "math/bits.deBruijn32tab", "math/bits.deBruijn64tab", "estoppel/digest.first", "estoppel/digest.constants"], apart := false, laid := [("math/bits.deBruijn32tab", laid_math_bits_deBruijn32tab), ("math/bits.deBruijn64tab", laid_math_bits_deBruijn64tab), ("internal/strconv.uint64pow10", laid_internal_strconv_uint64pow10), ("estoppel/digest.constants", laid_estoppel_digest_constants), ("estoppel/digest.first", laid_estoppel_digest_first)], narrowed := true }
def SignPowersUptoSaid : Prop := signPowersUptoRow.holds Tryd.pinned (OpenSpec.upto signPowersSpec)

/-- 'estoppellaw29.SignKeys', WHERE WHAT IT READS IS OF BULK AT MOST 1048576: true; the input reads as it did. -/
def signKeysUptoRow : OpenClaim := { program := "ytgjefmhobfdjdaadoor", sum := "f6218fa09e224d62552e8a9c234617b4a6aa63c3aa1fd93385a2e337aa88d654", func := "estoppel/estoppellaw29.SignKeys", spec := "signKeys", unfollowed := true, recurses := true, named := ["internal/strconv.uint64pow10", "math/bits.deBruijn32tab", "math/bits.deBruijn64tab", "estoppel/digest.first", "estoppel/digest.constants"], apart := false, laid := [("math/bits.deBruijn32tab", laid_math_bits_deBruijn32tab), ("math/bits.deBruijn64tab", laid_math_bits_deBruijn64tab), ("internal/strconv.uint64pow10", laid_internal_strconv_uint64pow10), ("estoppel/digest.constants", laid_estoppel_digest_constants), ("estoppel/digest.first", laid_estoppel_digest_first)], narrowed := true }
def SignKeysUptoSaid : Prop := signKeysUptoRow.holds Tryd.pinned (OpenSpec.upto signKeysSpec)

/-- 'estoppellaw29.SignTexts', WHERE WHAT IT READS IS OF BULK AT MOST 1048576: true; the input reads as it did. -/
def signTextsUptoRow : OpenClaim := { program := "ytgjefmhobfdjdaadoor", sum := "f6218fa09e224d62552e8a9c234617b4a6aa63c3aa1fd93385a2e337aa88d654", func := "estoppel/estoppellaw29.SignTexts", spec := "signTexts", unfollowed := true, recurses := true, named := ["internal/strconv.uint64pow10", "math/bits.deBruijn32tab", "math/bits.deBruijn64tab", "estoppel/digest.first", "estoppel/digest.constants"], apart := false, laid := [("math/bits.deBruijn32tab", laid_math_bits_deBruijn32tab), ("math/bits.deBruijn64tab", laid_math_bits_deBruijn64tab), ("internal/strconv.uint64pow10", laid_internal_strconv_uint64pow10), ("estoppel/digest.constants", laid_estoppel_digest_constants), ("estoppel/digest.first", laid_estoppel_digest_first)], narrowed := true }
def SignTextsUptoSaid : Prop := signTextsUptoRow.holds Tryd.pinned (OpenSpec.upto signTextsSpec)

end Rows
end Go.Proofs.YtgjefmhobfdjdaaDoor

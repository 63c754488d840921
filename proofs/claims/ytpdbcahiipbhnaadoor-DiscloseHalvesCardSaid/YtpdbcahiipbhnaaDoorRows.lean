/-
  NARROWER THAN 'FOR EVERY INPUT', by the rows' own cells (each row's printed sentence says how): DiscloseMatchesReference: laid · DiscloseProves: laid · DiscloseNothingElse: laid · DiscloseLeaves: laid · DiscloseHalves: laid · DiscloseLengths: laid · DiscloseFiles: laid · ChainMatchesReference: laid · ChainAppends: laid · ChainBeginnings: laid · ChainSame: laid · ChainForks: laid · ChainNoFork: laid · ChainTexts: laid · ChainKeys: laid.
  DERIVED. THE GIVEN ROWS OF THIS SEAT. 15 by the template 'for every input the law returns true; each argument reads behind the call as it read before'; 0 by the template 'total and deterministic' (their statements: YtpdbcahiipbhnaaDoorTotals.lean).
  GIVEN WITH THE SEED: the statements are not yours to turn. If you find one false, say at which input.
  Laid BY PROGRAM, IN A SANDBOX (cutbox-rows.mjs): the forced cells as the released guide's own fill.sh prints them over the translation e80f5ddc2191e243… (all of the seat's roots in one cut). By AI agents, Wed Nov 11 2026. No macro, syntax, notation, axiom, sorry.
-/
import Derived.Test.YtpdbcahiipbhnaaDoorChecked
import GoSem.Claim
import GoSem.ClaimJoined
import GoSem.ClaimMapViews
import Derived.JoinedTies
import Derived.KernelRfl
namespace Go.Proofs.YtpdbcahiipbhnaaDoor
/- THE CELL 'sum', in the pinned program and in every row, IS THE sha256 OF THE DUMP (.gsa) THAT YtpdbcahiipbhnaaDoorProg.lean LOADS. Nothing in Lean hashes anything: it is a label: what it is worth is what the hold of that sum in a sandbox is worth. -/
noncomputable def Tryd.pinned : Pinned := { name := "ytpdbcahiipbhnaadoor", sum := "e80f5ddc2191e2433f4c89c963d01bee6890f770dbce0c1639f632f5d54dc2df", checked := Tryd.checked }
namespace Rows
def none {H : Type} : Left H := { results := [], args := [] }

/- WHAT THE LISTED PACKAGE-LEVEL VARIABLES READ AS WHEN THE CALL BEGINS. Each datum BY PROGRAM (the guide's laid-datum.mjs) off the statement by which the dump's own 'gosem.cut.vars' lays the variable. In a bare row this is a premise. The card (YtpdbcahiipbhnaaDoorCards.lean) ties it to the program's text. -/
def laid_math_bits_deBruijn32tab {H : Type} : DataW H := .agg [.lit (.int .u8 0), .lit (.int .u8 1), .lit (.int .u8 28), .lit (.int .u8 2), .lit (.int .u8 29), .lit (.int .u8 14), .lit (.int .u8 24), .lit (.int .u8 3), .lit (.int .u8 30), .lit (.int .u8 22), .lit (.int .u8 20), .lit (.int .u8 15), .lit (.int .u8 25), .lit (.int .u8 17), .lit (.int .u8 4), .lit (.int .u8 8), .lit (.int .u8 31), .lit (.int .u8 27), .lit (.int .u8 13), .lit (.int .u8 23), .lit (.int .u8 21), .lit (.int .u8 19), .lit (.int .u8 16), .lit (.int .u8 7), .lit (.int .u8 26), .lit (.int .u8 12), .lit (.int .u8 18), .lit (.int .u8 6), .lit (.int .u8 11), .lit (.int .u8 5), .lit (.int .u8 10), .lit (.int .u8 9)]
def laid_math_bits_deBruijn64tab {H : Type} : DataW H := .agg [.lit (.int .u8 0), .lit (.int .u8 1), .lit (.int .u8 56), .lit (.int .u8 2), .lit (.int .u8 57), .lit (.int .u8 49), .lit (.int .u8 28), .lit (.int .u8 3), .lit (.int .u8 61), .lit (.int .u8 58), .lit (.int .u8 42), .lit (.int .u8 50), .lit (.int .u8 38), .lit (.int .u8 29), .lit (.int .u8 17), .lit (.int .u8 4), .lit (.int .u8 62), .lit (.int .u8 47), .lit (.int .u8 59), .lit (.int .u8 36), .lit (.int .u8 45), .lit (.int .u8 43), .lit (.int .u8 51), .lit (.int .u8 22), .lit (.int .u8 53), .lit (.int .u8 39), .lit (.int .u8 33), .lit (.int .u8 30), .lit (.int .u8 24), .lit (.int .u8 18), .lit (.int .u8 12), .lit (.int .u8 5), .lit (.int .u8 63), .lit (.int .u8 55), .lit (.int .u8 48), .lit (.int .u8 27), .lit (.int .u8 60), .lit (.int .u8 41), .lit (.int .u8 37), .lit (.int .u8 16), .lit (.int .u8 46), .lit (.int .u8 35), .lit (.int .u8 44), .lit (.int .u8 21), .lit (.int .u8 52), .lit (.int .u8 32), .lit (.int .u8 23), .lit (.int .u8 11), .lit (.int .u8 54), .lit (.int .u8 26), .lit (.int .u8 40), .lit (.int .u8 15), .lit (.int .u8 34), .lit (.int .u8 20), .lit (.int .u8 31), .lit (.int .u8 10), .lit (.int .u8 25), .lit (.int .u8 14), .lit (.int .u8 19), .lit (.int .u8 9), .lit (.int .u8 13), .lit (.int .u8 8), .lit (.int .u8 7), .lit (.int .u8 6)]
def laid_internal_strconv_uint64pow10 {H : Type} : DataW H := .agg [.lit (.int .u64 1), .lit (.int .u64 10), .lit (.int .u64 100), .lit (.int .u64 1000), .lit (.int .u64 10000), .lit (.int .u64 100000), .lit (.int .u64 1000000), .lit (.int .u64 10000000), .lit (.int .u64 100000000), .lit (.int .u64 1000000000), .lit (.int .u64 10000000000), .lit (.int .u64 100000000000), .lit (.int .u64 1000000000000), .lit (.int .u64 10000000000000), .lit (.int .u64 100000000000000), .lit (.int .u64 1000000000000000), .lit (.int .u64 10000000000000000), .lit (.int .u64 100000000000000000), .lit (.int .u64 1000000000000000000), .lit (.int .u64 10000000000000000000)]
def laid_estoppel_digest_constants {H : Type} : DataW H := .agg [.lit (.int .u32 1116352408), .lit (.int .u32 1899447441), .lit (.int .u32 3049323471), .lit (.int .u32 3921009573), .lit (.int .u32 961987163), .lit (.int .u32 1508970993), .lit (.int .u32 2453635748), .lit (.int .u32 2870763221), .lit (.int .u32 3624381080), .lit (.int .u32 310598401), .lit (.int .u32 607225278), .lit (.int .u32 1426881987), .lit (.int .u32 1925078388), .lit (.int .u32 2162078206), .lit (.int .u32 2614888103), .lit (.int .u32 3248222580), .lit (.int .u32 3835390401), .lit (.int .u32 4022224774), .lit (.int .u32 264347078), .lit (.int .u32 604807628), .lit (.int .u32 770255983), .lit (.int .u32 1249150122), .lit (.int .u32 1555081692), .lit (.int .u32 1996064986), .lit (.int .u32 2554220882), .lit (.int .u32 2821834349), .lit (.int .u32 2952996808), .lit (.int .u32 3210313671), .lit (.int .u32 3336571891), .lit (.int .u32 3584528711), .lit (.int .u32 113926993), .lit (.int .u32 338241895), .lit (.int .u32 666307205), .lit (.int .u32 773529912), .lit (.int .u32 1294757372), .lit (.int .u32 1396182291), .lit (.int .u32 1695183700), .lit (.int .u32 1986661051), .lit (.int .u32 2177026350), .lit (.int .u32 2456956037), .lit (.int .u32 2730485921), .lit (.int .u32 2820302411), .lit (.int .u32 3259730800), .lit (.int .u32 3345764771), .lit (.int .u32 3516065817), .lit (.int .u32 3600352804), .lit (.int .u32 4094571909), .lit (.int .u32 275423344), .lit (.int .u32 430227734), .lit (.int .u32 506948616), .lit (.int .u32 659060556), .lit (.int .u32 883997877), .lit (.int .u32 958139571), .lit (.int .u32 1322822218), .lit (.int .u32 1537002063), .lit (.int .u32 1747873779), .lit (.int .u32 1955562222), .lit (.int .u32 2024104815), .lit (.int .u32 2227730452), .lit (.int .u32 2361852424), .lit (.int .u32 2428436474), .lit (.int .u32 2756734187), .lit (.int .u32 3204031479), .lit (.int .u32 3329325298)]
def laid_estoppel_digest_first {H : Type} : DataW H := .agg [.lit (.int .u32 1779033703), .lit (.int .u32 3144134277), .lit (.int .u32 1013904242), .lit (.int .u32 2773480762), .lit (.int .u32 1359893119), .lit (.int .u32 2600822924), .lit (.int .u32 528734635), .lit (.int .u32 1541459225)]

/-- 'estoppellaw34.DiscloseMatchesReference': WHATEVER THE INPUT: true; the input reads as it did. -/
def discloseMatchesReferenceSpec : ChangeSpec := { name := "discloseMatchesReference", fn := fun _ => fun
  | [d1, d2] => { results := [.lit (.bool true)], args := [d1, d2] }
  | _ => none }
def discloseMatchesReferenceRow : OpenClaim := { program := "ytpdbcahiipbhnaadoor", sum := "e80f5ddc2191e2433f4c89c963d01bee6890f770dbce0c1639f632f5d54dc2df", func := "estoppel/estoppellaw34.DiscloseMatchesReference", spec := "discloseMatchesReference", unfollowed := true, recurses := true, named := ["internal/strconv.uint64pow10", "math/bits.deBruijn32tab", "math/bits.deBruijn64tab", "estoppel/digest.first", "estoppel/digest.constants"], apart := false, laid := [("math/bits.deBruijn32tab", laid_math_bits_deBruijn32tab), ("math/bits.deBruijn64tab", laid_math_bits_deBruijn64tab), ("internal/strconv.uint64pow10", laid_internal_strconv_uint64pow10), ("estoppel/digest.constants", laid_estoppel_digest_constants), ("estoppel/digest.first", laid_estoppel_digest_first)] }
def DiscloseMatchesReferenceSaid : Prop := discloseMatchesReferenceRow.holds Tryd.pinned (OpenSpec.ofChange discloseMatchesReferenceSpec)

/-- ITS FALSE NEIGHBOUR: 'it returns false'. Refute it at one input. -/
def discloseMatchesReferenceWrong : ChangeSpec := { name := "discloseMatchesReference", fn := fun _ => fun
  | [d1, d2] => { results := [.lit (.bool false)], args := [d1, d2] }
  | _ => none }
def DiscloseMatchesReferenceWrongFalsely : Prop := discloseMatchesReferenceRow.holds Tryd.pinned (OpenSpec.ofChange discloseMatchesReferenceWrong)

/-- 'estoppellaw34.DiscloseProves': WHATEVER THE INPUT: true; the input reads as it did. -/
def discloseProvesSpec : ChangeSpec := { name := "discloseProves", fn := fun _ => fun
  | [d1, d2] => { results := [.lit (.bool true)], args := [d1, d2] }
  | _ => none }
def discloseProvesRow : OpenClaim := { program := "ytpdbcahiipbhnaadoor", sum := "e80f5ddc2191e2433f4c89c963d01bee6890f770dbce0c1639f632f5d54dc2df", func := "estoppel/estoppellaw34.DiscloseProves", spec := "discloseProves", unfollowed := true, recurses := true, named := ["internal/strconv.uint64pow10", "math/bits.deBruijn32tab", "math/bits.deBruijn64tab", "estoppel/digest.first", "estoppel/digest.constants"], apart := false, laid := [("math/bits.deBruijn32tab", laid_math_bits_deBruijn32tab), ("math/bits.deBruijn64tab", laid_math_bits_deBruijn64tab), ("internal/strconv.uint64pow10", laid_internal_strconv_uint64pow10), ("estoppel/digest.constants", laid_estoppel_digest_constants), ("estoppel/digest.first", laid_estoppel_digest_first)] }
def DiscloseProvesSaid : Prop := discloseProvesRow.holds Tryd.pinned (OpenSpec.ofChange discloseProvesSpec)

/-- ITS FALSE NEIGHBOUR: 'it returns false'. Refute it at one input. -/
def discloseProvesWrong : ChangeSpec := { name := "discloseProves", fn := fun _ => fun
  | [d1, d2] => { results := [.lit (.bool false)], args := [d1, d2] }
  | _ => none }
def DiscloseProvesWrongFalsely : Prop := discloseProvesRow.holds Tryd.pinned (OpenSpec.ofChange discloseProvesWrong)

/-- 'estoppellaw34.DiscloseNothingElse': WHATEVER THE INPUT: true; the input reads as it did. -/
def discloseNothingElseSpec : ChangeSpec := { name := "discloseNothingElse", fn := fun _ => fun
  | [d1, d2, d3] => { results := [.lit (.bool true)], args := [d1, d2, d3] }
  | _ => none }
def discloseNothingElseRow : OpenClaim := { program := "ytpdbcahiipbhnaadoor", sum := "e80f5ddc2191e2433f4c89c963d01bee6890f770dbce0c1639f632f5d54dc2df", func := "estoppel/estoppellaw34.DiscloseNothingElse", spec := "discloseNothingElse", unfollowed := true, recurses := true, named := ["internal/strconv.uint64pow10", "math/bits.deBruijn32tab", "math/bits.deBruijn64tab", "estoppel/digest.first", "estoppel/digest.constants"], apart := false, laid := [("math/bits.deBruijn32tab", laid_math_bits_deBruijn32tab), ("math/bits.deBruijn64tab", laid_math_bits_deBruijn64tab), ("internal/strconv.uint64pow10", laid_internal_strconv_uint64pow10), ("estoppel/digest.constants", laid_estoppel_digest_constants), ("estoppel/digest.first", laid_estoppel_digest_first)] }
def DiscloseNothingElseSaid : Prop := discloseNothingElseRow.holds Tryd.pinned (OpenSpec.ofChange discloseNothingElseSpec)

/-- ITS FALSE NEIGHBOUR: 'it returns false'. Refute it at one input. -/
def discloseNothingElseWrong : ChangeSpec := { name := "discloseNothingElse", fn := fun _ => fun
  | [d1, d2, d3] => { results := [.lit (.bool false)], args := [d1, d2, d3] }
  | _ => none }
def DiscloseNothingElseWrongFalsely : Prop := discloseNothingElseRow.holds Tryd.pinned (OpenSpec.ofChange discloseNothingElseWrong)

/-- 'estoppellaw34.DiscloseLeaves': WHATEVER THE INPUT: true; the input reads as it did. -/
def discloseLeavesSpec : ChangeSpec := { name := "discloseLeaves", fn := fun _ => fun
  | [d1, d2, d3, d4] => { results := [.lit (.bool true)], args := [d1, d2, d3, d4] }
  | _ => none }
def discloseLeavesRow : OpenClaim := { program := "ytpdbcahiipbhnaadoor", sum := "e80f5ddc2191e2433f4c89c963d01bee6890f770dbce0c1639f632f5d54dc2df", func := "estoppel/estoppellaw34.DiscloseLeaves", spec := "discloseLeaves", unfollowed := true, recurses := true, named := ["internal/strconv.uint64pow10", "math/bits.deBruijn32tab", "math/bits.deBruijn64tab", "estoppel/digest.first", "estoppel/digest.constants"], apart := false, laid := [("math/bits.deBruijn32tab", laid_math_bits_deBruijn32tab), ("math/bits.deBruijn64tab", laid_math_bits_deBruijn64tab), ("internal/strconv.uint64pow10", laid_internal_strconv_uint64pow10), ("estoppel/digest.constants", laid_estoppel_digest_constants), ("estoppel/digest.first", laid_estoppel_digest_first)] }
def DiscloseLeavesSaid : Prop := discloseLeavesRow.holds Tryd.pinned (OpenSpec.ofChange discloseLeavesSpec)

/-- ITS FALSE NEIGHBOUR: 'it returns false'. Refute it at one input. -/
def discloseLeavesWrong : ChangeSpec := { name := "discloseLeaves", fn := fun _ => fun
  | [d1, d2, d3, d4] => { results := [.lit (.bool false)], args := [d1, d2, d3, d4] }
  | _ => none }
def DiscloseLeavesWrongFalsely : Prop := discloseLeavesRow.holds Tryd.pinned (OpenSpec.ofChange discloseLeavesWrong)

/-- 'estoppellaw34.DiscloseHalves': WHATEVER THE INPUT: true; the input reads as it did. -/
def discloseHalvesSpec : ChangeSpec := { name := "discloseHalves", fn := fun _ => fun
  | [d1, d2] => { results := [.lit (.bool true)], args := [d1, d2] }
  | _ => none }
def discloseHalvesRow : OpenClaim := { program := "ytpdbcahiipbhnaadoor", sum := "e80f5ddc2191e2433f4c89c963d01bee6890f770dbce0c1639f632f5d54dc2df", func := "estoppel/estoppellaw34.DiscloseHalves", spec := "discloseHalves", unfollowed := true, recurses := true, named := ["internal/strconv.uint64pow10", "math/bits.deBruijn32tab", "math/bits.deBruijn64tab", "estoppel/digest.first", "estoppel/digest.constants"], apart := false, laid := [("math/bits.deBruijn32tab", laid_math_bits_deBruijn32tab), ("math/bits.deBruijn64tab", laid_math_bits_deBruijn64tab), ("internal/strconv.uint64pow10", laid_internal_strconv_uint64pow10), ("estoppel/digest.constants", laid_estoppel_digest_constants), ("estoppel/digest.first", laid_estoppel_digest_first)] }
def DiscloseHalvesSaid : Prop := discloseHalvesRow.holds Tryd.pinned (OpenSpec.ofChange discloseHalvesSpec)

/-- ITS FALSE NEIGHBOUR: 'it returns false'. Refute it at one input. -/
def discloseHalvesWrong : ChangeSpec := { name := "discloseHalves", fn := fun _ => fun
  | [d1, d2] => { results := [.lit (.bool false)], args := [d1, d2] }
  | _ => none }
def DiscloseHalvesWrongFalsely : Prop := discloseHalvesRow.holds Tryd.pinned (OpenSpec.ofChange discloseHalvesWrong)

/-- 'estoppellaw34.DiscloseLengths': WHATEVER THE INPUT: true; the input reads as it did. -/
def discloseLengthsSpec : ChangeSpec := { name := "discloseLengths", fn := fun _ => fun
  | [d1, d2] => { results := [.lit (.bool true)], args := [d1, d2] }
  | _ => none }
def discloseLengthsRow : OpenClaim := { program := "ytpdbcahiipbhnaadoor", sum := "e80f5ddc2191e2433f4c89c963d01bee6890f770dbce0c1639f632f5d54dc2df", func := "estoppel/estoppellaw34.DiscloseLengths", spec := "discloseLengths", unfollowed := true, recurses := true, named := ["internal/strconv.uint64pow10", "math/bits.deBruijn32tab", "math/bits.deBruijn64tab", "estoppel/digest.first", "estoppel/digest.constants"], apart := false, laid := [("math/bits.deBruijn32tab", laid_math_bits_deBruijn32tab), ("math/bits.deBruijn64tab", laid_math_bits_deBruijn64tab), ("internal/strconv.uint64pow10", laid_internal_strconv_uint64pow10), ("estoppel/digest.constants", laid_estoppel_digest_constants), ("estoppel/digest.first", laid_estoppel_digest_first)] }
def DiscloseLengthsSaid : Prop := discloseLengthsRow.holds Tryd.pinned (OpenSpec.ofChange discloseLengthsSpec)

/-- ITS FALSE NEIGHBOUR: 'it returns false'. Refute it at one input. -/
def discloseLengthsWrong : ChangeSpec := { name := "discloseLengths", fn := fun _ => fun
  | [d1, d2] => { results := [.lit (.bool false)], args := [d1, d2] }
  | _ => none }
def DiscloseLengthsWrongFalsely : Prop := discloseLengthsRow.holds Tryd.pinned (OpenSpec.ofChange discloseLengthsWrong)

/-- 'estoppellaw34.DiscloseFiles': WHATEVER THE INPUT: true; the input reads as it did. -/
def discloseFilesSpec : ChangeSpec := { name := "discloseFiles", fn := fun _ => fun
  | [d1, d2] => { results := [.lit (.bool true)], args := [d1, d2] }
  | _ => none }
def discloseFilesRow : OpenClaim := { program := "ytpdbcahiipbhnaadoor", sum := "e80f5ddc2191e2433f4c89c963d01bee6890f770dbce0c1639f632f5d54dc2df", func := "estoppel/estoppellaw34.DiscloseFiles", spec := "discloseFiles", unfollowed := true, recurses := true, named := ["internal/strconv.uint64pow10", "math/bits.deBruijn32tab", "math/bits.deBruijn64tab", "estoppel/digest.first", "estoppel/digest.constants"], apart := false, laid := [("math/bits.deBruijn32tab", laid_math_bits_deBruijn32tab), ("math/bits.deBruijn64tab", laid_math_bits_deBruijn64tab), ("internal/strconv.uint64pow10", laid_internal_strconv_uint64pow10), ("estoppel/digest.constants", laid_estoppel_digest_constants), ("estoppel/digest.first", laid_estoppel_digest_first)] }
def DiscloseFilesSaid : Prop := discloseFilesRow.holds Tryd.pinned (OpenSpec.ofChange discloseFilesSpec)

/-- ITS FALSE NEIGHBOUR: 'it returns false'. Refute it at one input. -/
def discloseFilesWrong : ChangeSpec := { name := "discloseFiles", fn := fun _ => fun
  | [d1, d2] => { results := [.lit (.bool false)], args := [d1, d2] }
  | _ => none }
def DiscloseFilesWrongFalsely : Prop := discloseFilesRow.holds Tryd.pinned (OpenSpec.ofChange discloseFilesWrong)

/-- 'estoppellaw31.ChainMatchesReference': WHATEVER THE INPUT: true; the input reads as it did. -/
def chainMatchesReferenceSpec : ChangeSpec := { name := "chainMatchesReference", fn := fun _ => fun
  | [d1, d2] => { results := [.lit (.bool true)], args := [d1, d2] }
  | _ => none }
def chainMatchesReferenceRow : OpenClaim := { program := "ytpdbcahiipbhnaadoor", sum := "e80f5ddc2191e2433f4c89c963d01bee6890f770dbce0c1639f632f5d54dc2df", func := "estoppel/estoppellaw31.ChainMatchesReference", spec := "chainMatchesReference", inPlace := ["internal/abi.NoEscape"], unfollowed := true, recurses := true, named := ["internal/strconv.uint64pow10", "math/bits.deBruijn32tab", "math/bits.deBruijn64tab", "estoppel/digest.first", "estoppel/digest.constants"], apart := false, laid := [("math/bits.deBruijn32tab", laid_math_bits_deBruijn32tab), ("math/bits.deBruijn64tab", laid_math_bits_deBruijn64tab), ("internal/strconv.uint64pow10", laid_internal_strconv_uint64pow10), ("estoppel/digest.constants", laid_estoppel_digest_constants), ("estoppel/digest.first", laid_estoppel_digest_first)] }
def ChainMatchesReferenceSaid : Prop := chainMatchesReferenceRow.holds Tryd.pinned (OpenSpec.ofChange chainMatchesReferenceSpec)

/-- ITS FALSE NEIGHBOUR: 'it returns false'. Refute it at one input. -/
def chainMatchesReferenceWrong : ChangeSpec := { name := "chainMatchesReference", fn := fun _ => fun
  | [d1, d2] => { results := [.lit (.bool false)], args := [d1, d2] }
  | _ => none }
def ChainMatchesReferenceWrongFalsely : Prop := chainMatchesReferenceRow.holds Tryd.pinned (OpenSpec.ofChange chainMatchesReferenceWrong)

/-- 'estoppellaw31.ChainAppends': WHATEVER THE INPUT: true; the input reads as it did. -/
def chainAppendsSpec : ChangeSpec := { name := "chainAppends", fn := fun _ => fun
  | [d1, d2] => { results := [.lit (.bool true)], args := [d1, d2] }
  | _ => none }
def chainAppendsRow : OpenClaim := { program := "ytpdbcahiipbhnaadoor", sum := "e80f5ddc2191e2433f4c89c963d01bee6890f770dbce0c1639f632f5d54dc2df", func := "estoppel/estoppellaw31.ChainAppends", spec := "chainAppends", inPlace := ["internal/abi.NoEscape"], unfollowed := true, recurses := true, named := ["internal/strconv.uint64pow10", "math/bits.deBruijn32tab", "math/bits.deBruijn64tab", "estoppel/digest.first", "estoppel/digest.constants"], apart := false, laid := [("math/bits.deBruijn32tab", laid_math_bits_deBruijn32tab), ("math/bits.deBruijn64tab", laid_math_bits_deBruijn64tab), ("internal/strconv.uint64pow10", laid_internal_strconv_uint64pow10), ("estoppel/digest.constants", laid_estoppel_digest_constants), ("estoppel/digest.first", laid_estoppel_digest_first)] }
def ChainAppendsSaid : Prop := chainAppendsRow.holds Tryd.pinned (OpenSpec.ofChange chainAppendsSpec)

/-- ITS FALSE NEIGHBOUR: 'it returns false'. Refute it at one input. -/
def chainAppendsWrong : ChangeSpec := { name := "chainAppends", fn := fun _ => fun
  | [d1, d2] => { results := [.lit (.bool false)], args := [d1, d2] }
  | _ => none }
def ChainAppendsWrongFalsely : Prop := chainAppendsRow.holds Tryd.pinned (OpenSpec.ofChange chainAppendsWrong)

/-- 'estoppellaw31.ChainBeginnings': WHATEVER THE INPUT: true; the input reads as it did. -/
def chainBeginningsSpec : ChangeSpec := { name := "chainBeginnings", fn := fun _ => fun
  | [d1, d2, d3, d4] => { results := [.lit (.bool true)], args := [d1, d2, d3, d4] }
  | _ => none }
def chainBeginningsRow : OpenClaim := { program := "ytpdbcahiipbhnaadoor", sum := "e80f5ddc2191e2433f4c89c963d01bee6890f770dbce0c1639f632f5d54dc2df", func := "estoppel/estoppellaw31.ChainBeginnings", spec := "chainBeginnings", inPlace := ["internal/abi.NoEscape"], unfollowed := true, recurses := true, named := ["internal/strconv.uint64pow10", "math/bits.deBruijn32tab", "math/bits.deBruijn64tab", "estoppel/digest.first", "estoppel/digest.constants"], apart := false, laid := [("math/bits.deBruijn32tab", laid_math_bits_deBruijn32tab), ("math/bits.deBruijn64tab", laid_math_bits_deBruijn64tab), ("internal/strconv.uint64pow10", laid_internal_strconv_uint64pow10), ("estoppel/digest.constants", laid_estoppel_digest_constants), ("estoppel/digest.first", laid_estoppel_digest_first)] }
def ChainBeginningsSaid : Prop := chainBeginningsRow.holds Tryd.pinned (OpenSpec.ofChange chainBeginningsSpec)

/-- ITS FALSE NEIGHBOUR: 'it returns false'. Refute it at one input. -/
def chainBeginningsWrong : ChangeSpec := { name := "chainBeginnings", fn := fun _ => fun
  | [d1, d2, d3, d4] => { results := [.lit (.bool false)], args := [d1, d2, d3, d4] }
  | _ => none }
def ChainBeginningsWrongFalsely : Prop := chainBeginningsRow.holds Tryd.pinned (OpenSpec.ofChange chainBeginningsWrong)

/-- 'estoppellaw31.ChainSame': WHATEVER THE INPUT: true; the input reads as it did. -/
def chainSameSpec : ChangeSpec := { name := "chainSame", fn := fun _ => fun
  | [d1, d2, d3, d4, d5] => { results := [.lit (.bool true)], args := [d1, d2, d3, d4, d5] }
  | _ => none }
def chainSameRow : OpenClaim := { program := "ytpdbcahiipbhnaadoor", sum := "e80f5ddc2191e2433f4c89c963d01bee6890f770dbce0c1639f632f5d54dc2df", func := "estoppel/estoppellaw31.ChainSame", spec := "chainSame", inPlace := ["internal/abi.NoEscape"], unfollowed := true, recurses := true, named := ["internal/strconv.uint64pow10", "math/bits.deBruijn32tab", "math/bits.deBruijn64tab", "estoppel/digest.first", "estoppel/digest.constants"], apart := false, laid := [("math/bits.deBruijn32tab", laid_math_bits_deBruijn32tab), ("math/bits.deBruijn64tab", laid_math_bits_deBruijn64tab), ("internal/strconv.uint64pow10", laid_internal_strconv_uint64pow10), ("estoppel/digest.constants", laid_estoppel_digest_constants), ("estoppel/digest.first", laid_estoppel_digest_first)] }
def ChainSameSaid : Prop := chainSameRow.holds Tryd.pinned (OpenSpec.ofChange chainSameSpec)

/-- ITS FALSE NEIGHBOUR: 'it returns false'. Refute it at one input. -/
def chainSameWrong : ChangeSpec := { name := "chainSame", fn := fun _ => fun
  | [d1, d2, d3, d4, d5] => { results := [.lit (.bool false)], args := [d1, d2, d3, d4, d5] }
  | _ => none }
def ChainSameWrongFalsely : Prop := chainSameRow.holds Tryd.pinned (OpenSpec.ofChange chainSameWrong)

/-- 'estoppellaw31.ChainForks': WHATEVER THE INPUT: true; the input reads as it did. -/
def chainForksSpec : ChangeSpec := { name := "chainForks", fn := fun _ => fun
  | [d1, d2, d3, d4] => { results := [.lit (.bool true)], args := [d1, d2, d3, d4] }
  | _ => none }
def chainForksRow : OpenClaim := { program := "ytpdbcahiipbhnaadoor", sum := "e80f5ddc2191e2433f4c89c963d01bee6890f770dbce0c1639f632f5d54dc2df", func := "estoppel/estoppellaw31.ChainForks", spec := "chainForks", inPlace := ["internal/abi.NoEscape"], unfollowed := true, recurses := true, named := ["internal/strconv.uint64pow10", "math/bits.deBruijn32tab", "math/bits.deBruijn64tab", "estoppel/digest.first", "estoppel/digest.constants"], apart := false, laid := [("math/bits.deBruijn32tab", laid_math_bits_deBruijn32tab), ("math/bits.deBruijn64tab", laid_math_bits_deBruijn64tab), ("internal/strconv.uint64pow10", laid_internal_strconv_uint64pow10), ("estoppel/digest.constants", laid_estoppel_digest_constants), ("estoppel/digest.first", laid_estoppel_digest_first)] }
def ChainForksSaid : Prop := chainForksRow.holds Tryd.pinned (OpenSpec.ofChange chainForksSpec)

/-- ITS FALSE NEIGHBOUR: 'it returns false'. Refute it at one input. -/
def chainForksWrong : ChangeSpec := { name := "chainForks", fn := fun _ => fun
  | [d1, d2, d3, d4] => { results := [.lit (.bool false)], args := [d1, d2, d3, d4] }
  | _ => none }
def ChainForksWrongFalsely : Prop := chainForksRow.holds Tryd.pinned (OpenSpec.ofChange chainForksWrong)

/-- 'estoppellaw31.ChainNoFork': WHATEVER THE INPUT: true; the input reads as it did. -/
def chainNoForkSpec : ChangeSpec := { name := "chainNoFork", fn := fun _ => fun
  | [d1, d2, d3, d4, d5] => { results := [.lit (.bool true)], args := [d1, d2, d3, d4, d5] }
  | _ => none }
def chainNoForkRow : OpenClaim := { program := "ytpdbcahiipbhnaadoor", sum := "e80f5ddc2191e2433f4c89c963d01bee6890f770dbce0c1639f632f5d54dc2df", func := "estoppel/estoppellaw31.ChainNoFork", spec := "chainNoFork", inPlace := ["internal/abi.NoEscape"], unfollowed := true, recurses := true, named := ["internal/strconv.uint64pow10", "math/bits.deBruijn32tab", "math/bits.deBruijn64tab", "estoppel/digest.first", "estoppel/digest.constants"], apart := false, laid := [("math/bits.deBruijn32tab", laid_math_bits_deBruijn32tab), ("math/bits.deBruijn64tab", laid_math_bits_deBruijn64tab), ("internal/strconv.uint64pow10", laid_internal_strconv_uint64pow10), ("estoppel/digest.constants", laid_estoppel_digest_constants), ("estoppel/digest.first", laid_estoppel_digest_first)] }
def ChainNoForkSaid : Prop := chainNoForkRow.holds Tryd.pinned (OpenSpec.ofChange chainNoForkSpec)

/-- ITS FALSE NEIGHBOUR: 'it returns false'. Refute it at one input. -/
def chainNoForkWrong : ChangeSpec := { name := "chainNoFork", fn := fun _ => fun
  | [d1, d2, d3, d4, d5] => { results := [.lit (.bool false)], args := [d1, d2, d3, d4, d5] }
  | _ => none }
def ChainNoForkWrongFalsely : Prop := chainNoForkRow.holds Tryd.pinned (OpenSpec.ofChange chainNoForkWrong)

/-- 'estoppellaw31.ChainTexts': WHATEVER THE INPUT: true; the input reads as it did. -/
def chainTextsSpec : ChangeSpec := { name := "chainTexts", fn := fun _ => fun
  | [d1, d2] => { results := [.lit (.bool true)], args := [d1, d2] }
  | _ => none }
def chainTextsRow : OpenClaim := { program := "ytpdbcahiipbhnaadoor", sum := "e80f5ddc2191e2433f4c89c963d01bee6890f770dbce0c1639f632f5d54dc2df", func := "estoppel/estoppellaw31.ChainTexts", spec := "chainTexts", inPlace := ["internal/abi.NoEscape"], unfollowed := true, recurses := true, named := ["internal/strconv.uint64pow10", "math/bits.deBruijn32tab", "math/bits.deBruijn64tab", "estoppel/digest.first", "estoppel/digest.constants"], apart := false, laid := [("math/bits.deBruijn32tab", laid_math_bits_deBruijn32tab), ("math/bits.deBruijn64tab", laid_math_bits_deBruijn64tab), ("internal/strconv.uint64pow10", laid_internal_strconv_uint64pow10), ("estoppel/digest.constants", laid_estoppel_digest_constants), ("estoppel/digest.first", laid_estoppel_digest_first)] }
def ChainTextsSaid : Prop := chainTextsRow.holds Tryd.pinned (OpenSpec.ofChange chainTextsSpec)

/-- ITS FALSE NEIGHBOUR: 'it returns false'. Refute it at one input. -/
def chainTextsWrong : ChangeSpec := { name := "chainTexts", fn := fun _ => fun
  | [d1, d2] => { results := [.lit (.bool false)], args := [d1, d2] }
  | _ => none }
def ChainTextsWrongFalsely : Prop := chainTextsRow.holds Tryd.pinned (OpenSpec.ofChange chainTextsWrong)

/-- 'estoppellaw31.ChainKeys': WHATEVER THE INPUT: true; the input reads as it did. -/
def chainKeysSpec : ChangeSpec := { name := "chainKeys", fn := fun _ => fun
  | [d1, d2, d3, d4] => { results := [.lit (.bool true)], args := [d1, d2, d3, d4] }
  | _ => none }
def chainKeysRow : OpenClaim := { program := "ytpdbcahiipbhnaadoor", sum := "e80f5ddc2191e2433f4c89c963d01bee6890f770dbce0c1639f632f5d54dc2df", func := "estoppel/estoppellaw31.ChainKeys", spec := "chainKeys", inPlace := ["internal/abi.NoEscape"], unfollowed := true, recurses := true, named := ["internal/strconv.uint64pow10", "math/bits.deBruijn32tab", "math/bits.deBruijn64tab", "estoppel/digest.first", "estoppel/digest.constants"], apart := false, laid := [("math/bits.deBruijn32tab", laid_math_bits_deBruijn32tab), ("math/bits.deBruijn64tab", laid_math_bits_deBruijn64tab), ("internal/strconv.uint64pow10", laid_internal_strconv_uint64pow10), ("estoppel/digest.constants", laid_estoppel_digest_constants), ("estoppel/digest.first", laid_estoppel_digest_first)] }
def ChainKeysSaid : Prop := chainKeysRow.holds Tryd.pinned (OpenSpec.ofChange chainKeysSpec)

/-- ITS FALSE NEIGHBOUR: 'it returns false'. Refute it at one input. -/
def chainKeysWrong : ChangeSpec := { name := "chainKeys", fn := fun _ => fun
  | [d1, d2, d3, d4] => { results := [.lit (.bool false)], args := [d1, d2, d3, d4] }
  | _ => none }
def ChainKeysWrongFalsely : Prop := chainKeysRow.holds Tryd.pinned (OpenSpec.ofChange chainKeysWrong)

/- THE SECOND FORM. 'bulk': how many values and letters a reading holds, each counted each time it is reached (what is shared counts as often as it is met; a slice's spare places count too). A statement '..UptoSaid' is the law's where the arguments, and the package variables that the reading takes, are together of bulk at most 1048576: NARROWER than '..Said'. Prove '..Said' where nothing that the law and all that it calls make is longer than what came in: it says more and counts as full. Else prove '..UptoSaid'. A law counts once. -/
mutual
def uptoBulk {H : Type} : DataW H → Nat
  | .lit (.string bytes) => bytes.length + 1
  | .lit _ => 1
  | .nil => 1
  | .ptr d => uptoBulk d + 1
  | .slice elems spare => uptoBulkAll elems + uptoBulkAll spare + 1
  | .agg parts => uptoBulkAll parts + 1
  | .iface _ d => uptoBulk d + 1
  | .map entries => uptoBulkEntries entries + 1
  | .held _ => 1
def uptoBulkAll {H : Type} : List (DataW H) → Nat
  | [] => 0
  | d :: r => uptoBulk d + uptoBulkAll r
def uptoBulkEntries {H : Type} : List (Lit × DataW H) → Nat
  | [] => 0
  | x :: r => uptoBulkEntry x + uptoBulkEntries r
def uptoBulkEntry {H : Type} : Lit × DataW H → Nat
  | (.string bytes, d) => bytes.length + uptoBulk d + 1
  | (_, d) => uptoBulk d + 1
 end
def uptoSmall : (H : Type) → List (DataW H) → Bool := fun _ ds => decide (uptoBulkAll ds ≤ 1048576)
def OpenSpec.upto (s : _root_.Go.ChangeSpec) : _root_.Go.OpenSpec := { _root_.Go.OpenSpec.ofChange s with cond := some uptoSmall }

/-- 'estoppellaw34.DiscloseMatchesReference', WHERE WHAT IT READS IS OF BULK AT MOST 1048576: true; the input reads as it did. -/
def discloseMatchesReferenceUptoRow : OpenClaim := { program := "ytpdbcahiipbhnaadoor", sum := "e80f5ddc2191e2433f4c89c963d01bee6890f770dbce0c1639f632f5d54dc2df", func := "estoppel/estoppellaw34.DiscloseMatchesReference", spec := "discloseMatchesReference", unfollowed := true, recurses := true, named := ["internal/strconv.uint64pow10", "math/bits.deBruijn32tab", "math/bits.deBruijn64tab", "estoppel/digest.first", "estoppel/digest.constants"], apart := false, laid := [("math/bits.deBruijn32tab", laid_math_bits_deBruijn32tab), ("math/bits.deBruijn64tab", laid_math_bits_deBruijn64tab), ("internal/strconv.uint64pow10", laid_internal_strconv_uint64pow10), ("estoppel/digest.constants", laid_estoppel_digest_constants), ("estoppel/digest.first", laid_estoppel_digest_first)], narrowed := true }
def DiscloseMatchesReferenceUptoSaid : Prop := discloseMatchesReferenceUptoRow.holds Tryd.pinned (OpenSpec.upto discloseMatchesReferenceSpec)

/-- 'estoppellaw34.DiscloseProves', WHERE WHAT IT READS IS OF BULK AT MOST 1048576: true; the input reads as it did. -/
def discloseProvesUptoRow : OpenClaim := { program := "ytpdbcahiipbhnaadoor", sum := "e80f5ddc2191e2433f4c89c963d01bee6890f770dbce0c1639f632f5d54dc2df", func := "estoppel/estoppellaw34.DiscloseProves", spec := "discloseProves", unfollowed := true, recurses := true, named := ["internal/strconv.uint64pow10", "math/bits.deBruijn32tab", "math/bits.deBruijn64tab", "estoppel/digest.first", "estoppel/digest.constants"], apart := false, laid := [("math/bits.deBruijn32tab", laid_math_bits_deBruijn32tab), ("math/bits.deBruijn64tab", laid_math_bits_deBruijn64tab), ("internal/strconv.uint64pow10", laid_internal_strconv_uint64pow10), ("estoppel/digest.constants", laid_estoppel_digest_constants), ("estoppel/digest.first", laid_estoppel_digest_first)], narrowed := true }
def DiscloseProvesUptoSaid : Prop := discloseProvesUptoRow.holds Tryd.pinned (OpenSpec.upto discloseProvesSpec)

/-- 'estoppellaw34.DiscloseNothingElse', WHERE WHAT IT READS IS OF BULK AT MOST 1048576: true; the input reads as it did. -/
def discloseNothingElseUptoRow : OpenClaim := { program := "ytpdbcahiipbhnaadoor", sum := "e80f5ddc2191e2433f4c89c963d01bee6890f770dbce0c1639f632f5d54dc2df", func := "estoppel/estoppellaw34.DiscloseNothingElse", spec := "discloseNothingElse", unfollowed := true, recurses := true, named := ["internal/strconv.uint64pow10", "math/bits.deBruijn32tab", "math/bits.deBruijn64tab", "estoppel/digest.first", "estoppel/digest.constants"], apart := false, laid := [("math/bits.deBruijn32tab", laid_math_bits_deBruijn32tab), ("math/bits.deBruijn64tab", laid_math_bits_deBruijn64tab), ("internal/strconv.uint64pow10", laid_internal_strconv_uint64pow10), ("estoppel/digest.constants", laid_estoppel_digest_constants), ("estoppel/digest.first", laid_estoppel_digest_first)], narrowed := true }
def DiscloseNothingElseUptoSaid : Prop := discloseNothingElseUptoRow.holds Tryd.pinned (OpenSpec.upto discloseNothingElseSpec)

/-- 'estoppellaw34.DiscloseLeaves', WHERE WHAT IT READS IS OF BULK AT MOST 1048576: true; the input reads as it did. -/
def discloseLeavesUptoRow : OpenClaim := { program := "ytpdbcahiipbhnaadoor", sum := "e80f5ddc2191e2433f4c89c963d01bee6890f770dbce0c1639f632f5d54dc2df", func := "estoppel/estoppellaw34.DiscloseLeaves", spec := "discloseLeaves", unfollowed := true, recurses := true, named := ["internal/strconv.uint64pow10", "math/bits.deBruijn32tab", "math/bits.deBruijn64tab", "estoppel/digest.first", "estoppel/digest.constants"], apart := false, laid := [("math/bits.deBruijn32tab", laid_math_bits_deBruijn32tab), ("math/bits.deBruijn64tab", laid_math_bits_deBruijn64tab), ("internal/strconv.uint64pow10", laid_internal_strconv_uint64pow10), ("estoppel/digest.constants", laid_estoppel_digest_constants), ("estoppel/digest.first", laid_estoppel_digest_first)], narrowed := true }
def DiscloseLeavesUptoSaid : Prop := discloseLeavesUptoRow.holds Tryd.pinned (OpenSpec.upto discloseLeavesSpec)

/-- 'estoppellaw34.DiscloseHalves', WHERE WHAT IT READS IS OF BULK AT MOST 1048576: true; the input reads as it did. -/
def discloseHalvesUptoRow : OpenClaim := { program := "ytpdbcahiipbhnaadoor", sum := "e80f5ddc2191e2433f4c89c963d01bee6890f770dbce0c1639f632f5d54dc2df", func := "estoppel/estoppellaw34.DiscloseHalves", spec := "discloseHalves", unfollowed := true, recurses := true, named := ["internal/strconv.uint64pow10", "math/bits.deBruijn32tab", "math/bits.deBruijn64tab", "estoppel/digest.first", "estoppel/digest.constants"], apart := false, laid := [("math/bits.deBruijn32tab", laid_math_bits_deBruijn32tab), ("math/bits.deBruijn64tab", laid_math_bits_deBruijn64tab), ("internal/strconv.uint64pow10", laid_internal_strconv_uint64pow10), ("estoppel/digest.constants", laid_estoppel_digest_constants), ("estoppel/digest.first", laid_estoppel_digest_first)], narrowed := true }
def DiscloseHalvesUptoSaid : Prop := discloseHalvesUptoRow.holds Tryd.pinned (OpenSpec.upto discloseHalvesSpec)

/-- 'estoppellaw34.DiscloseLengths', WHERE WHAT IT READS IS OF BULK AT MOST 1048576: true; the input reads as it did. -/
def discloseLengthsUptoRow : OpenClaim := { program := "ytpdbcahiipbhnaadoor", sum := "e80f5ddc2191e2433f4c89c963d01bee6890f770dbce0c1639f632f5d54dc2df", func := "estoppel/estoppellaw34.DiscloseLengths", spec := "discloseLengths", unfollowed := true, recurses := true, named := ["internal/strconv.uint64pow10", "math/bits.deBruijn32tab", "math/bits.deBruijn64tab", "estoppel/digest.first", "estoppel/digest.constants"], apart := false, laid := [("math/bits.deBruijn32tab", laid_math_bits_deBruijn32tab), ("math/bits.deBruijn64tab", laid_math_bits_deBruijn64tab), ("internal/strconv.uint64pow10", laid_internal_strconv_uint64pow10), ("estoppel/digest.constants", laid_estoppel_digest_constants), ("estoppel/digest.first", laid_estoppel_digest_first)], narrowed := true }
def DiscloseLengthsUptoSaid : Prop := discloseLengthsUptoRow.holds Tryd.pinned (OpenSpec.upto discloseLengthsSpec)

/-- 'estoppellaw34.DiscloseFiles', WHERE WHAT IT READS IS OF BULK AT MOST 1048576: true; the input reads as it did. -/
def discloseFilesUptoRow : OpenClaim := { program := "ytpdbcahiipbhnaadoor", sum := "e80f5ddc2191e2433f4c89c963d01bee6890f770dbce0c1639f632f5d54dc2df", func := "estoppel/estoppellaw34.DiscloseFiles", spec := "discloseFiles", unfollowed := true, recurses := true, named := ["internal/strconv.uint64pow10", "math/bits.deBruijn32tab", "math/bits.deBruijn64tab", "estoppel/digest.first", "estoppel/digest.constants"], apart := false, laid := [("math/bits.deBruijn32tab", laid_math_bits_deBruijn32tab), ("math/bits.deBruijn64tab", laid_math_bits_deBruijn64tab), ("internal/strconv.uint64pow10", laid_internal_strconv_uint64pow10), ("estoppel/digest.constants", laid_estoppel_digest_constants), ("estoppel/digest.first", laid_estoppel_digest_first)], narrowed := true }
def DiscloseFilesUptoSaid : Prop := discloseFilesUptoRow.holds Tryd.pinned (OpenSpec.upto discloseFilesSpec)

/-- 'estoppellaw31.ChainMatchesReference', WHERE WHAT IT READS IS OF BULK AT MOST 1048576: true; the input reads as it did. -/
def chainMatchesReferenceUptoRow : OpenClaim := { program := "ytpdbcahiipbhnaadoor", sum := "e80f5ddc2191e2433f4c89c963d01bee6890f770dbce0c1639f632f5d54dc2df", func := "estoppel/estoppellaw31.ChainMatchesReference", spec := "chainMatchesReference", inPlace := ["internal/abi.NoEscape"], unfollowed := true, recurses := true, named := ["internal/strconv.uint64pow10", "math/bits.deBruijn32tab", "math/bits.deBruijn64tab", "estoppel/digest.first", "estoppel/digest.constants"], apart := false, laid := [("math/bits.deBruijn32tab", laid_math_bits_deBruijn32tab), ("math/bits.deBruijn64tab", laid_math_bits_deBruijn64tab), ("internal/strconv.uint64pow10", laid_internal_strconv_uint64pow10), ("estoppel/digest.constants", laid_estoppel_digest_constants), ("estoppel/digest.first", laid_estoppel_digest_first)], narrowed := true }
def ChainMatchesReferenceUptoSaid : Prop := chainMatchesReferenceUptoRow.holds Tryd.pinned (OpenSpec.upto chainMatchesReferenceSpec)

/-- 'estoppellaw31.ChainAppends', WHERE WHAT IT READS IS OF BULK AT MOST 1048576: true; the input reads as it did. -/
def chainAppendsUptoRow : OpenClaim := { program := "ytpdbcahiipbhnaadoor", sum := "e80f5ddc2191e2433f4c89c963d01bee6890f770dbce0c1639f632f5d54dc2df", func := "estoppel/estoppellaw31.ChainAppends", spec := "chainAppends", inPlace := ["internal/abi.NoEscape"], unfollowed := true, recurses := true, named := ["internal/strconv.uint64pow10", "math/bits.deBruijn32tab", "math/bits.deBruijn64tab", "estoppel/digest.first", "estoppel/digest.constants"], apart := false, laid := [("math/bits.deBruijn32tab", laid_math_bits_deBruijn32tab), ("math/bits.deBruijn64tab", laid_math_bits_deBruijn64tab), ("internal/strconv.uint64pow10", laid_internal_strconv_uint64pow10), ("estoppel/digest.constants", laid_estoppel_digest_constants), ("estoppel/digest.first", laid_estoppel_digest_first)], narrowed := true }
def ChainAppendsUptoSaid : Prop := chainAppendsUptoRow.holds Tryd.pinned (OpenSpec.upto chainAppendsSpec)

/-- 'estoppellaw31.ChainBeginnings', WHERE WHAT IT READS IS OF BULK AT MOST 1048576: true; the input reads as it did. -/
def chainBeginningsUptoRow : OpenClaim := { program := "ytpdbcahiipbhnaadoor", sum := "e80f5ddc2191e2433f4c89c963d01bee6890f770dbce0c1639f632f5d54dc2df", func := "estoppel/estoppellaw31.ChainBeginnings", spec := "chainBeginnings", inPlace := ["internal/abi.NoEscape"], unfollowed := true, recurses := true, named := ["internal/strconv.uint64pow10", "math/bits.deBruijn32tab", "math/bits.deBruijn64tab", "estoppel/digest.first", "estoppel/digest.constants"], apart := false, laid := [("math/bits.deBruijn32tab", laid_math_bits_deBruijn32tab), ("math/bits.deBruijn64tab", laid_math_bits_deBruijn64tab), ("internal/strconv.uint64pow10", laid_internal_strconv_uint64pow10), ("estoppel/digest.constants", laid_estoppel_digest_constants), ("estoppel/digest.first", laid_estoppel_digest_first)], narrowed := true }
def ChainBeginningsUptoSaid : Prop := chainBeginningsUptoRow.holds Tryd.pinned (OpenSpec.upto chainBeginningsSpec)

/-- 'estoppellaw31.ChainSame', WHERE WHAT IT READS IS OF BULK AT MOST 1048576: true; the input reads as it did. -/
def chainSameUptoRow : OpenClaim := { program := "ytpdbcahiipbhnaadoor", sum := "e80f5ddc2191e2433f4c89c963d01bee6890f770dbce0c1639f632f5d54dc2df", func := "estoppel/estoppellaw31.ChainSame", spec := "chainSame", inPlace := ["internal/abi.NoEscape"], unfollowed := true, recurses := true, named := ["internal/strconv.uint64pow10", "math/bits.deBruijn32tab", "math/bits.deBruijn64tab", "estoppel/digest.first", "estoppel/digest.constants"], apart := false, laid := [("math/bits.deBruijn32tab", laid_math_bits_deBruijn32tab), ("math/bits.deBruijn64tab", laid_math_bits_deBruijn64tab), ("internal/strconv.uint64pow10", laid_internal_strconv_uint64pow10), ("estoppel/digest.constants", laid_estoppel_digest_constants), ("estoppel/digest.first", laid_estoppel_digest_first)], narrowed := true }
def ChainSameUptoSaid : Prop := chainSameUptoRow.holds Tryd.pinned (OpenSpec.upto chainSameSpec)

/-- 'estoppellaw31.ChainForks', WHERE WHAT IT READS IS OF BULK AT MOST 1048576: true; the input reads as it did. -/
def chainForksUptoRow : OpenClaim := { program := "ytpdbcahiipbhnaadoor", sum := "e80f5ddc2191e2433f4c89c963d01bee6890f770dbce0c1639f632f5d54dc2df", func := "estoppel/estoppellaw31.ChainForks", spec := "chainForks", inPlace := ["internal/abi.NoEscape"], unfollowed := true, recurses := true, named := ["internal/strconv.uint64pow10", "math/bits.deBruijn32tab", "math/bits.deBruijn64tab", "estoppel/digest.first", "estoppel/digest.constants"], apart := false, laid := [("math/bits.deBruijn32tab", laid_math_bits_deBruijn32tab), ("math/bits.deBruijn64tab", laid_math_bits_deBruijn64tab), ("internal/strconv.uint64pow10", laid_internal_strconv_uint64pow10), ("estoppel/digest.constants", laid_estoppel_digest_constants), ("estoppel/digest.first", laid_estoppel_digest_first)], narrowed := true }
def ChainForksUptoSaid : Prop := chainForksUptoRow.holds Tryd.pinned (OpenSpec.upto chainForksSpec)

/-- 'estoppellaw31.ChainNoFork', WHERE WHAT IT READS IS OF BULK AT MOST 1048576: true; the input reads as it did. -/
def chainNoForkUptoRow : OpenClaim := { program := "ytpdbcahiipbhnaadoor", sum := "e80f5ddc2191e2433f4c89c963d01bee6890f770dbce0c1639f632f5d54dc2df", func := "estoppel/estoppellaw31.ChainNoFork", spec := "chainNoFork", inPlace := ["internal/abi.NoEscape"], unfollowed := true, recurses := true, named := ["internal/strconv.uint64pow10", "math/bits.deBruijn32tab", "math/bits.deBruijn64tab", "estoppel/digest.first", "estoppel/digest.constants"], apart := false, laid := [("math/bits.deBruijn32tab", laid_math_bits_deBruijn32tab), ("math/bits.deBruijn64tab", laid_math_bits_deBruijn64tab), ("internal/strconv.uint64pow10", laid_internal_strconv_uint64pow10), ("estoppel/digest.constants", laid_estoppel_digest_constants), ("estoppel/digest.first", laid_estoppel_digest_first)], narrowed := true }
def ChainNoForkUptoSaid : Prop := chainNoForkUptoRow.holds Tryd.pinned (OpenSpec.upto chainNoForkSpec)

/-- 'estoppellaw31.ChainTexts', WHERE WHAT IT READS IS OF BULK AT MOST 1048576: true; the input reads as it did. -/
def chainTextsUptoRow : OpenClaim := { program := "ytpdbcahiipbhnaadoor", sum := "e80f5ddc2191e2433f4c89c963d01bee6890f770dbce0c1639f632f5d54dc2df", func := "estoppel/estoppellaw31.ChainTexts", spec := "chainTexts", inPlace := ["internal/abi.NoEscape"], unfollowed := true, recurses := true, named := ["internal/strconv.uint64pow10", "math/bits.deBruijn32tab", "math/bits.deBruijn64tab", "estoppel/digest.first", "estoppel/digest.constants"], apart := false, laid := [("math/bits.deBruijn32tab", laid_math_bits_deBruijn32tab), ("math/bits.deBruijn64tab", laid_math_bits_deBruijn64tab), ("internal/strconv.uint64pow10", laid_internal_strconv_uint64pow10), ("estoppel/digest.constants", laid_estoppel_digest_constants), ("estoppel/digest.first", laid_estoppel_digest_first)], narrowed := true }
def ChainTextsUptoSaid : Prop := chainTextsUptoRow.holds Tryd.pinned (OpenSpec.upto chainTextsSpec)

/-- 'estoppellaw31.ChainKeys', WHERE WHAT IT READS IS OF BULK AT MOST 1048576: true; the input reads as it did. -/
def chainKeysUptoRow : OpenClaim := { program := "ytpdbcahiipbhnaadoor", sum := "e80f5ddc2191e2433f4c89c963d01bee6890f770dbce0c1639f632f5d54dc2df", func := "estoppel/estoppellaw31.ChainKeys", spec := "chainKeys", inPlace := ["internal/abi.NoEscape"], unfollowed := true, recurses := true, named := ["internal/strconv.uint64pow10", "math/bits.deBruijn32tab", "math/bits.deBruijn64tab", "estoppel/digest.first", "estoppel/digest.constants"], apart := false, laid := [("math/bits.deBruijn32tab", laid_math_bits_deBruijn32tab), ("math/bits.deBruijn64tab", laid_math_bits_deBruijn64tab), ("internal/strconv.uint64pow10", laid_internal_strconv_uint64pow10), ("estoppel/digest.constants", laid_estoppel_digest_constants), ("estoppel/digest.first", laid_estoppel_digest_first)], narrowed := true }
def ChainKeysUptoSaid : Prop := chainKeysUptoRow.holds Tryd.pinned (OpenSpec.upto chainKeysSpec)

end Rows
end Go.Proofs.YtpdbcahiipbhnaaDoor

/-
  NARROWER THAN 'FOR EVERY INPUT', by the rows' own cells (each row's printed sentence says how): RootsKnown: laid · RootsCounts: laid · RootsCells: laid · RootsSigns: laid · RootsAdd: laid · RootsSplit: laid · RootsMeans: laid.
  DERIVED. THE GIVEN ROWS OF THIS SEAT. 7 by the template 'for every input the law returns true; each argument reads behind the call as it read before'; 0 by the template 'total and deterministic' (their statements: YtppnhclgaeodoaaGreatDoorTotals.lean).
  GIVEN WITH THE SEED: the statements are not yours to turn. If you find one false, say at which input.
  Laid BY PROGRAM, IN A SANDBOX (cutbox-rows.mjs): the forced cells as the released guide's own fill.sh prints them over the translation f69f8ce4d35d2f85… (all of the seat's roots in one cut). By AI agents, Wed Nov 11 2026. No macro, syntax, notation, axiom, sorry.
-/
import Derived.Test.YtppnhclgaeodoaaGreatDoorChecked
import GoSem.Claim
import GoSem.ClaimJoined
import GoSem.ClaimMapViews
import Derived.JoinedTies
import Derived.KernelRfl
namespace Go.Proofs.YtppnhclgaeodoaaGreatDoor
/- THE CELL 'sum', in the pinned program and in every row, IS THE sha256 OF THE DUMP (.gsa) THAT YtppnhclgaeodoaaGreatDoorProg.lean LOADS. Nothing in Lean hashes anything: it is a label: what it is worth is what the hold of that sum in a sandbox is worth. -/
noncomputable def Tryz.pinned : Pinned := { name := "ytppnhclgaeodoaagreatdoor", sum := "f69f8ce4d35d2f85e962e5ddaf096c4451c1a74e4901de832958f3d8263ac82f", checked := Tryz.checked }
namespace Rows
def none {H : Type} : Left H := { results := [], args := [] }

/- WHAT THE LISTED PACKAGE-LEVEL VARIABLES READ AS WHEN THE CALL BEGINS. Each datum BY PROGRAM (the guide's laid-datum.mjs) off the statement by which the dump's own 'gosem.cut.vars' lays the variable. In a bare row this is a premise. The card (YtppnhclgaeodoaaGreatDoorCards.lean) ties it to the program's text. -/
def laid_math_bits_deBruijn32tab {H : Type} : DataW H := .agg [.lit (.int .u8 0), .lit (.int .u8 1), .lit (.int .u8 28), .lit (.int .u8 2), .lit (.int .u8 29), .lit (.int .u8 14), .lit (.int .u8 24), .lit (.int .u8 3), .lit (.int .u8 30), .lit (.int .u8 22), .lit (.int .u8 20), .lit (.int .u8 15), .lit (.int .u8 25), .lit (.int .u8 17), .lit (.int .u8 4), .lit (.int .u8 8), .lit (.int .u8 31), .lit (.int .u8 27), .lit (.int .u8 13), .lit (.int .u8 23), .lit (.int .u8 21), .lit (.int .u8 19), .lit (.int .u8 16), .lit (.int .u8 7), .lit (.int .u8 26), .lit (.int .u8 12), .lit (.int .u8 18), .lit (.int .u8 6), .lit (.int .u8 11), .lit (.int .u8 5), .lit (.int .u8 10), .lit (.int .u8 9)]
def laid_math_bits_deBruijn64tab {H : Type} : DataW H := .agg [.lit (.int .u8 0), .lit (.int .u8 1), .lit (.int .u8 56), .lit (.int .u8 2), .lit (.int .u8 57), .lit (.int .u8 49), .lit (.int .u8 28), .lit (.int .u8 3), .lit (.int .u8 61), .lit (.int .u8 58), .lit (.int .u8 42), .lit (.int .u8 50), .lit (.int .u8 38), .lit (.int .u8 29), .lit (.int .u8 17), .lit (.int .u8 4), .lit (.int .u8 62), .lit (.int .u8 47), .lit (.int .u8 59), .lit (.int .u8 36), .lit (.int .u8 45), .lit (.int .u8 43), .lit (.int .u8 51), .lit (.int .u8 22), .lit (.int .u8 53), .lit (.int .u8 39), .lit (.int .u8 33), .lit (.int .u8 30), .lit (.int .u8 24), .lit (.int .u8 18), .lit (.int .u8 12), .lit (.int .u8 5), .lit (.int .u8 63), .lit (.int .u8 55), .lit (.int .u8 48), .lit (.int .u8 27), .lit (.int .u8 60), .lit (.int .u8 41), .lit (.int .u8 37), .lit (.int .u8 16), .lit (.int .u8 46), .lit (.int .u8 35), .lit (.int .u8 44), .lit (.int .u8 21), .lit (.int .u8 52), .lit (.int .u8 32), .lit (.int .u8 23), .lit (.int .u8 11), .lit (.int .u8 54), .lit (.int .u8 26), .lit (.int .u8 40), .lit (.int .u8 15), .lit (.int .u8 34), .lit (.int .u8 20), .lit (.int .u8 31), .lit (.int .u8 10), .lit (.int .u8 25), .lit (.int .u8 14), .lit (.int .u8 19), .lit (.int .u8 9), .lit (.int .u8 13), .lit (.int .u8 8), .lit (.int .u8 7), .lit (.int .u8 6)]
def laid_internal_strconv_uint64pow10 {H : Type} : DataW H := .agg [.lit (.int .u64 1), .lit (.int .u64 10), .lit (.int .u64 100), .lit (.int .u64 1000), .lit (.int .u64 10000), .lit (.int .u64 100000), .lit (.int .u64 1000000), .lit (.int .u64 10000000), .lit (.int .u64 100000000), .lit (.int .u64 1000000000), .lit (.int .u64 10000000000), .lit (.int .u64 100000000000), .lit (.int .u64 1000000000000), .lit (.int .u64 10000000000000), .lit (.int .u64 100000000000000), .lit (.int .u64 1000000000000000), .lit (.int .u64 10000000000000000), .lit (.int .u64 100000000000000000), .lit (.int .u64 1000000000000000000), .lit (.int .u64 10000000000000000000)]
def laid_strconv_ErrRange {H : Type} : DataW H := .iface "*errors.errorString" (.ptr (.agg [.lit (.string [118, 97, 108, 117, 101, 32, 111, 117, 116, 32, 111, 102, 32, 114, 97, 110, 103, 101])]))
def laid_strconv_ErrSyntax {H : Type} : DataW H := .iface "*errors.errorString" (.ptr (.agg [.lit (.string [105, 110, 118, 97, 108, 105, 100, 32, 115, 121, 110, 116, 97, 120])]))
def laid_croupier_exact_weak {H : Type} : DataW H := .agg [.lit (.int .i64 4), .lit (.int .i64 3)]
def laid_croupier_exact_strict {H : Type} : DataW H := .agg [.lit (.int .i64 2), .lit (.int .i64 1)]

/-- 'croupierlaw05.RootsKnown': WHATEVER THE INPUT: true; the input reads as it did. -/
def rootsKnownSpec : ChangeSpec := { name := "rootsKnown", fn := fun _ => fun
  | [] => { results := [.lit (.bool true)], args := [] }
  | _ => none }
def rootsKnownRow : OpenClaim := { program := "ytppnhclgaeodoaagreatdoor", sum := "f69f8ce4d35d2f85e962e5ddaf096c4451c1a74e4901de832958f3d8263ac82f", func := "croupier/croupierlaw05.RootsKnown", spec := "rootsKnown", inPlace := ["internal/bytealg.IndexByteString", "internal/bytealg.IndexString", "internal/abi.NoEscape"], unfollowed := true, recurses := true, named := ["internal/bytealg.MaxLen", "strconv.ErrSyntax", "strconv.ErrRange", "internal/strconv.uint64pow10", "math/bits.deBruijn32tab", "math/bits.deBruijn64tab", "croupier/exact.strict", "croupier/exact.weak"], apart := false, laid := [("math/bits.deBruijn32tab", laid_math_bits_deBruijn32tab), ("math/bits.deBruijn64tab", laid_math_bits_deBruijn64tab), ("internal/strconv.uint64pow10", laid_internal_strconv_uint64pow10), ("strconv.ErrRange", laid_strconv_ErrRange), ("strconv.ErrSyntax", laid_strconv_ErrSyntax), ("croupier/exact.weak", laid_croupier_exact_weak), ("croupier/exact.strict", laid_croupier_exact_strict)] }
def RootsKnownSaid : Prop := rootsKnownRow.holds Tryz.pinned (OpenSpec.ofChange rootsKnownSpec)

/-- ITS FALSE NEIGHBOUR: 'it returns false'. Refute it at one input. -/
def rootsKnownWrong : ChangeSpec := { name := "rootsKnown", fn := fun _ => fun
  | [] => { results := [.lit (.bool false)], args := [] }
  | _ => none }
def RootsKnownWrongFalsely : Prop := rootsKnownRow.holds Tryz.pinned (OpenSpec.ofChange rootsKnownWrong)

/-- 'croupierlaw05.RootsCounts': WHATEVER THE INPUT: true; the input reads as it did. -/
def rootsCountsSpec : ChangeSpec := { name := "rootsCounts", fn := fun _ => fun
  | [d1, d2, d3, d4, d5, d6] => { results := [.lit (.bool true)], args := [d1, d2, d3, d4, d5, d6] }
  | _ => none }
def rootsCountsRow : OpenClaim := { program := "ytppnhclgaeodoaagreatdoor", sum := "f69f8ce4d35d2f85e962e5ddaf096c4451c1a74e4901de832958f3d8263ac82f", func := "croupier/croupierlaw05.RootsCounts", spec := "rootsCounts", inPlace := ["internal/bytealg.IndexByteString", "internal/bytealg.IndexString", "internal/abi.NoEscape"], unfollowed := true, recurses := true, named := ["internal/bytealg.MaxLen", "strconv.ErrSyntax", "strconv.ErrRange", "internal/strconv.uint64pow10", "math/bits.deBruijn32tab", "math/bits.deBruijn64tab", "croupier/exact.strict", "croupier/exact.weak"], apart := false, laid := [("math/bits.deBruijn32tab", laid_math_bits_deBruijn32tab), ("math/bits.deBruijn64tab", laid_math_bits_deBruijn64tab), ("internal/strconv.uint64pow10", laid_internal_strconv_uint64pow10), ("strconv.ErrRange", laid_strconv_ErrRange), ("strconv.ErrSyntax", laid_strconv_ErrSyntax), ("croupier/exact.weak", laid_croupier_exact_weak), ("croupier/exact.strict", laid_croupier_exact_strict)] }
def RootsCountsSaid : Prop := rootsCountsRow.holds Tryz.pinned (OpenSpec.ofChange rootsCountsSpec)

/-- ITS FALSE NEIGHBOUR: 'it returns false'. Refute it at one input. -/
def rootsCountsWrong : ChangeSpec := { name := "rootsCounts", fn := fun _ => fun
  | [d1, d2, d3, d4, d5, d6] => { results := [.lit (.bool false)], args := [d1, d2, d3, d4, d5, d6] }
  | _ => none }
def RootsCountsWrongFalsely : Prop := rootsCountsRow.holds Tryz.pinned (OpenSpec.ofChange rootsCountsWrong)

/-- 'croupierlaw05.RootsCells': WHATEVER THE INPUT: true; the input reads as it did. -/
def rootsCellsSpec : ChangeSpec := { name := "rootsCells", fn := fun _ => fun
  | [d1, d2, d3, d4] => { results := [.lit (.bool true)], args := [d1, d2, d3, d4] }
  | _ => none }
def rootsCellsRow : OpenClaim := { program := "ytppnhclgaeodoaagreatdoor", sum := "f69f8ce4d35d2f85e962e5ddaf096c4451c1a74e4901de832958f3d8263ac82f", func := "croupier/croupierlaw05.RootsCells", spec := "rootsCells", inPlace := ["internal/bytealg.IndexByteString", "internal/bytealg.IndexString", "internal/abi.NoEscape"], unfollowed := true, recurses := true, named := ["internal/bytealg.MaxLen", "strconv.ErrSyntax", "strconv.ErrRange", "internal/strconv.uint64pow10", "math/bits.deBruijn32tab", "math/bits.deBruijn64tab", "croupier/exact.strict", "croupier/exact.weak"], apart := false, laid := [("math/bits.deBruijn32tab", laid_math_bits_deBruijn32tab), ("math/bits.deBruijn64tab", laid_math_bits_deBruijn64tab), ("internal/strconv.uint64pow10", laid_internal_strconv_uint64pow10), ("strconv.ErrRange", laid_strconv_ErrRange), ("strconv.ErrSyntax", laid_strconv_ErrSyntax), ("croupier/exact.weak", laid_croupier_exact_weak), ("croupier/exact.strict", laid_croupier_exact_strict)] }
def RootsCellsSaid : Prop := rootsCellsRow.holds Tryz.pinned (OpenSpec.ofChange rootsCellsSpec)

/-- ITS FALSE NEIGHBOUR: 'it returns false'. Refute it at one input. -/
def rootsCellsWrong : ChangeSpec := { name := "rootsCells", fn := fun _ => fun
  | [d1, d2, d3, d4] => { results := [.lit (.bool false)], args := [d1, d2, d3, d4] }
  | _ => none }
def RootsCellsWrongFalsely : Prop := rootsCellsRow.holds Tryz.pinned (OpenSpec.ofChange rootsCellsWrong)

/-- 'croupierlaw05.RootsSigns': WHATEVER THE INPUT: true; the input reads as it did. -/
def rootsSignsSpec : ChangeSpec := { name := "rootsSigns", fn := fun _ => fun
  | [d1, d2, d3, d4, d5, d6] => { results := [.lit (.bool true)], args := [d1, d2, d3, d4, d5, d6] }
  | _ => none }
def rootsSignsRow : OpenClaim := { program := "ytppnhclgaeodoaagreatdoor", sum := "f69f8ce4d35d2f85e962e5ddaf096c4451c1a74e4901de832958f3d8263ac82f", func := "croupier/croupierlaw05.RootsSigns", spec := "rootsSigns", inPlace := ["internal/bytealg.IndexByteString", "internal/bytealg.IndexString", "internal/abi.NoEscape"], unfollowed := true, recurses := true, named := ["internal/bytealg.MaxLen", "strconv.ErrSyntax", "strconv.ErrRange", "internal/strconv.uint64pow10", "math/bits.deBruijn32tab", "math/bits.deBruijn64tab", "croupier/exact.strict", "croupier/exact.weak"], apart := false, laid := [("math/bits.deBruijn32tab", laid_math_bits_deBruijn32tab), ("math/bits.deBruijn64tab", laid_math_bits_deBruijn64tab), ("internal/strconv.uint64pow10", laid_internal_strconv_uint64pow10), ("strconv.ErrRange", laid_strconv_ErrRange), ("strconv.ErrSyntax", laid_strconv_ErrSyntax), ("croupier/exact.weak", laid_croupier_exact_weak), ("croupier/exact.strict", laid_croupier_exact_strict)] }
def RootsSignsSaid : Prop := rootsSignsRow.holds Tryz.pinned (OpenSpec.ofChange rootsSignsSpec)

/-- ITS FALSE NEIGHBOUR: 'it returns false'. Refute it at one input. -/
def rootsSignsWrong : ChangeSpec := { name := "rootsSigns", fn := fun _ => fun
  | [d1, d2, d3, d4, d5, d6] => { results := [.lit (.bool false)], args := [d1, d2, d3, d4, d5, d6] }
  | _ => none }
def RootsSignsWrongFalsely : Prop := rootsSignsRow.holds Tryz.pinned (OpenSpec.ofChange rootsSignsWrong)

/-- 'croupierlaw05.RootsAdd': WHATEVER THE INPUT: true; the input reads as it did. -/
def rootsAddSpec : ChangeSpec := { name := "rootsAdd", fn := fun _ => fun
  | [d1, d2, d3, d4] => { results := [.lit (.bool true)], args := [d1, d2, d3, d4] }
  | _ => none }
def rootsAddRow : OpenClaim := { program := "ytppnhclgaeodoaagreatdoor", sum := "f69f8ce4d35d2f85e962e5ddaf096c4451c1a74e4901de832958f3d8263ac82f", func := "croupier/croupierlaw05.RootsAdd", spec := "rootsAdd", inPlace := ["internal/bytealg.IndexByteString", "internal/bytealg.IndexString", "internal/abi.NoEscape"], unfollowed := true, recurses := true, named := ["internal/bytealg.MaxLen", "strconv.ErrSyntax", "strconv.ErrRange", "internal/strconv.uint64pow10", "math/bits.deBruijn32tab", "math/bits.deBruijn64tab", "croupier/exact.strict", "croupier/exact.weak"], apart := false, laid := [("math/bits.deBruijn32tab", laid_math_bits_deBruijn32tab), ("math/bits.deBruijn64tab", laid_math_bits_deBruijn64tab), ("internal/strconv.uint64pow10", laid_internal_strconv_uint64pow10), ("strconv.ErrRange", laid_strconv_ErrRange), ("strconv.ErrSyntax", laid_strconv_ErrSyntax), ("croupier/exact.weak", laid_croupier_exact_weak), ("croupier/exact.strict", laid_croupier_exact_strict)] }
def RootsAddSaid : Prop := rootsAddRow.holds Tryz.pinned (OpenSpec.ofChange rootsAddSpec)

/-- ITS FALSE NEIGHBOUR: 'it returns false'. Refute it at one input. -/
def rootsAddWrong : ChangeSpec := { name := "rootsAdd", fn := fun _ => fun
  | [d1, d2, d3, d4] => { results := [.lit (.bool false)], args := [d1, d2, d3, d4] }
  | _ => none }
def RootsAddWrongFalsely : Prop := rootsAddRow.holds Tryz.pinned (OpenSpec.ofChange rootsAddWrong)

/-- 'croupierlaw05.RootsSplit': WHATEVER THE INPUT: true; the input reads as it did. -/
def rootsSplitSpec : ChangeSpec := { name := "rootsSplit", fn := fun _ => fun
  | [d1, d2] => { results := [.lit (.bool true)], args := [d1, d2] }
  | _ => none }
def rootsSplitRow : OpenClaim := { program := "ytppnhclgaeodoaagreatdoor", sum := "f69f8ce4d35d2f85e962e5ddaf096c4451c1a74e4901de832958f3d8263ac82f", func := "croupier/croupierlaw05.RootsSplit", spec := "rootsSplit", inPlace := ["internal/bytealg.IndexByteString", "internal/bytealg.IndexString", "internal/abi.NoEscape"], unfollowed := true, recurses := true, named := ["internal/bytealg.MaxLen", "strconv.ErrSyntax", "strconv.ErrRange", "internal/strconv.uint64pow10", "math/bits.deBruijn32tab", "math/bits.deBruijn64tab", "croupier/exact.strict", "croupier/exact.weak"], apart := false, laid := [("math/bits.deBruijn32tab", laid_math_bits_deBruijn32tab), ("math/bits.deBruijn64tab", laid_math_bits_deBruijn64tab), ("internal/strconv.uint64pow10", laid_internal_strconv_uint64pow10), ("strconv.ErrRange", laid_strconv_ErrRange), ("strconv.ErrSyntax", laid_strconv_ErrSyntax), ("croupier/exact.weak", laid_croupier_exact_weak), ("croupier/exact.strict", laid_croupier_exact_strict)] }
def RootsSplitSaid : Prop := rootsSplitRow.holds Tryz.pinned (OpenSpec.ofChange rootsSplitSpec)

/-- ITS FALSE NEIGHBOUR: 'it returns false'. Refute it at one input. -/
def rootsSplitWrong : ChangeSpec := { name := "rootsSplit", fn := fun _ => fun
  | [d1, d2] => { results := [.lit (.bool false)], args := [d1, d2] }
  | _ => none }
def RootsSplitWrongFalsely : Prop := rootsSplitRow.holds Tryz.pinned (OpenSpec.ofChange rootsSplitWrong)

/-- 'croupierlaw05.RootsMeans': WHATEVER THE INPUT: true; the input reads as it did. -/
def rootsMeansSpec : ChangeSpec := { name := "rootsMeans", fn := fun _ => fun
  | [d1, d2, d3, d4] => { results := [.lit (.bool true)], args := [d1, d2, d3, d4] }
  | _ => none }
def rootsMeansRow : OpenClaim := { program := "ytppnhclgaeodoaagreatdoor", sum := "f69f8ce4d35d2f85e962e5ddaf096c4451c1a74e4901de832958f3d8263ac82f", func := "croupier/croupierlaw05.RootsMeans", spec := "rootsMeans", inPlace := ["internal/bytealg.IndexByteString", "internal/bytealg.IndexString", "internal/abi.NoEscape"], unfollowed := true, recurses := true, named := ["internal/bytealg.MaxLen", "strconv.ErrSyntax", "strconv.ErrRange", "internal/strconv.uint64pow10", "math/bits.deBruijn32tab", "math/bits.deBruijn64tab", "croupier/exact.strict", "croupier/exact.weak"], apart := false, laid := [("math/bits.deBruijn32tab", laid_math_bits_deBruijn32tab), ("math/bits.deBruijn64tab", laid_math_bits_deBruijn64tab), ("internal/strconv.uint64pow10", laid_internal_strconv_uint64pow10), ("strconv.ErrRange", laid_strconv_ErrRange), ("strconv.ErrSyntax", laid_strconv_ErrSyntax), ("croupier/exact.weak", laid_croupier_exact_weak), ("croupier/exact.strict", laid_croupier_exact_strict)] }
def RootsMeansSaid : Prop := rootsMeansRow.holds Tryz.pinned (OpenSpec.ofChange rootsMeansSpec)

/-- ITS FALSE NEIGHBOUR: 'it returns false'. Refute it at one input. -/
def rootsMeansWrong : ChangeSpec := { name := "rootsMeans", fn := fun _ => fun
  | [d1, d2, d3, d4] => { results := [.lit (.bool false)], args := [d1, d2, d3, d4] }
  | _ => none }
def RootsMeansWrongFalsely : Prop := rootsMeansRow.holds Tryz.pinned (OpenSpec.ofChange rootsMeansWrong)

/- THE SECOND FORM. 'bulk': how many values and letters a reading holds, each counted each time it is reached (what is shared counts as often as it is met; a slice's spare places count too). A statement '..UptoSaid' is the law's where the arguments, and the package variables that the reading takes, are together of bulk at most 1048576: NARROWER than '..Said'. Prove '..Said' where nothing that the law and all that it calls make is longer than what came in: it says more and counts as full. Else prove '..UptoSaid'. A law counts once. -/
mutual
def uptoBulk {H : Type} : DataW H → Nat
  | .lit (.string bytes) => bytes.length + 1
  | .lit _ => 1
  | .nil => 1
  | .ptr d => uptoBulk d + 1
  | .slice elems spare => uptoBulkAll elems + uptoBulkAll spare + 1
  | .agg parts => uptoBulkAll parts + 1
  | .iface _ d => uptoBulk d + 1
  | .map entries => uptoBulkEntries entries + 1
  | .held _ => 1
def uptoBulkAll {H : Type} : List (DataW H) → Nat
  | [] => 0
  | d :: r => uptoBulk d + uptoBulkAll r
def uptoBulkEntries {H : Type} : List (Lit × DataW H) → Nat
  | [] => 0
  | x :: r => uptoBulkEntry x + uptoBulkEntries r
def uptoBulkEntry {H : Type} : Lit × DataW H → Nat
  | (.string bytes, d) => bytes.length + uptoBulk d + 1
  | (_, d) => uptoBulk d + 1
 end
def uptoSmall : (H : Type) → List (DataW H) → Bool := fun _ ds => decide (uptoBulkAll ds ≤ 1048576)
def OpenSpec.upto (s : _root_.Go.ChangeSpec) : _root_.Go.OpenSpec := { _root_.Go.OpenSpec.ofChange s with cond := some uptoSmall }

/-- 'croupierlaw05.RootsKnown', WHERE WHAT IT READS IS OF BULK AT MOST 1048576: true; the input reads as it did. -/
def rootsKnownUptoRow : OpenClaim := { program := "ytppnhclgaeodoaagreatdoor", sum := "f69f8ce4d35d2f85e962e5ddaf096c4451c1a74e4901de832958f3d8263ac82f", func := "croupier/croupierlaw05.RootsKnown", spec := "rootsKnown", inPlace := ["internal/bytealg.IndexByteString", "internal/bytealg.IndexString", "internal/abi.NoEscape"], unfollowed := true, recurses := true, named := ["internal/bytealg.MaxLen", "strconv.ErrSyntax", "strconv.ErrRange", "internal/strconv.uint64pow10", "math/bits.deBruijn32tab", "math/bits.deBruijn64tab", "croupier/exact.strict", "croupier/exact.weak"], apart := false, laid := [("math/bits.deBruijn32tab", laid_math_bits_deBruijn32tab), ("math/bits.deBruijn64tab", laid_math_bits_deBruijn64tab), ("internal/strconv.uint64pow10", laid_internal_strconv_uint64pow10), ("strconv.ErrRange", laid_strconv_ErrRange), ("strconv.ErrSyntax", laid_strconv_ErrSyntax), ("croupier/exact.weak", laid_croupier_exact_weak), ("croupier/exact.strict", laid_croupier_exact_strict)], narrowed := true }
def RootsKnownUptoSaid : Prop := rootsKnownUptoRow.holds Tryz.pinned (OpenSpec.upto rootsKnownSpec)

/-- 'croupierlaw05.RootsCounts', WHERE WHAT IT READS IS OF BULK AT MOST 1048576: true; the input reads as it did. -/
def rootsCountsUptoRow : OpenClaim := { program := "ytppnhclgaeodoaagreatdoor", sum := "f69f8ce4d35d2f85e962e5ddaf096c4451c1a74e4901de832958f3d8263ac82f", func := "croupier/croupierlaw05.RootsCounts", spec := "rootsCounts", inPlace := ["internal/bytealg.IndexByteString", "internal/bytealg.IndexString", "internal/abi.NoEscape"], unfollowed := true, recurses := true, named := ["internal/bytealg.MaxLen", "strconv.ErrSyntax", "strconv.ErrRange", "internal/strconv.uint64pow10", "math/bits.deBruijn32tab", "math/bits.deBruijn64tab", "croupier/exact.strict", "croupier/exact.weak"], apart := false, laid := [("math/bits.deBruijn32tab", laid_math_bits_deBruijn32tab), ("math/bits.deBruijn64tab", laid_math_bits_deBruijn64tab), ("internal/strconv.uint64pow10", laid_internal_strconv_uint64pow10), ("strconv.ErrRange", laid_strconv_ErrRange), ("strconv.ErrSyntax", laid_strconv_ErrSyntax), ("croupier/exact.weak", laid_croupier_exact_weak), ("croupier/exact.strict", laid_croupier_exact_strict)], narrowed := true }
def RootsCountsUptoSaid : Prop := rootsCountsUptoRow.holds Tryz.pinned (OpenSpec.upto rootsCountsSpec)

/-- 'croupierlaw05.RootsCells', WHERE WHAT IT READS IS OF BULK AT MOST 1048576: true; the input reads as it did. -/
def rootsCellsUptoRow : OpenClaim := { program := "ytppnhclgaeodoaagreatdoor", sum := "f69f8ce4d35d2f85e962e5ddaf096c4451c1a74e4901de832958f3d8263ac82f", func := "croupier/croupierlaw05.RootsCells", spec := "rootsCells", inPlace := ["internal/bytealg.IndexByteString", "internal/bytealg.IndexString", "internal/abi.NoEscape"], unfollowed := true, recurses := true, named := ["internal/bytealg.MaxLen", "strconv.ErrSyntax", "strconv.ErrRange", "internal/strconv.uint64pow10", "math/bits.deBruijn32tab", "math/bits.deBruijn64tab", "croupier/exact.strict", "croupier/exact.weak"], apart := false, laid := [("math/bits.deBruijn32tab", laid_math_bits_deBruijn32tab), ("math/bits.deBruijn64tab", laid_math_bits_deBruijn64tab), ("internal/strconv.uint64pow10", laid_internal_strconv_uint64pow10), ("strconv.ErrRange", laid_strconv_ErrRange), ("strconv.ErrSyntax", laid_strconv_ErrSyntax), ("croupier/exact.weak", laid_croupier_exact_weak), ("croupier/exact.strict", laid_croupier_exact_strict)], narrowed := true }
def RootsCellsUptoSaid : Prop := rootsCellsUptoRow.holds Tryz.pinned (OpenSpec.upto rootsCellsSpec)

/-- 'croupierlaw05.RootsSigns', WHERE WHAT IT READS IS OF BULK AT MOST 1048576: true; the input reads as it did. -/
def rootsSignsUptoRow : OpenClaim := { program := "ytppnhclgaeodoaagreatdoor", sum := "f69f8ce4d35d2f85e962e5ddaf096c4451c1a74e4901de832958f3d8263ac82f", func := "croupier/croupierlaw05.RootsSigns", spec := "rootsSigns", inPlace := ["internal/bytealg.IndexByteString", "internal/bytealg.IndexString", "internal/abi.NoEscape"], unfollowed := true, recurses := true, named := ["internal/bytealg.MaxLen", "strconv.ErrSyntax", "strconv.ErrRange", "internal/strconv.uint64pow10", "math/bits.deBruijn32tab", "math/bits.deBruijn64tab", "croupier/exact.strict", "croupier/exact.weak"], apart := false, laid := [("math/bits.deBruijn32tab", laid_math_bits_deBruijn32tab), ("math/bits.deBruijn64tab", laid_math_bits_deBruijn64tab), ("internal/strconv.uint64pow10", laid_internal_strconv_uint64pow10), ("strconv.ErrRange", laid_strconv_ErrRange), ("strconv.ErrSyntax", laid_strconv_ErrSyntax), ("croupier/exact.weak", laid_croupier_exact_weak), ("croupier/exact.strict", laid_croupier_exact_strict)], narrowed := true }
def RootsSignsUptoSaid : Prop := rootsSignsUptoRow.holds Tryz.pinned (OpenSpec.upto rootsSignsSpec)

/-- 'croupierlaw05.RootsAdd', WHERE WHAT IT READS IS OF BULK AT MOST 1048576: true; the input reads as it did. -/
def rootsAddUptoRow : OpenClaim := { program := "ytppnhclgaeodoaagreatdoor", sum := "f69f8ce4d35d2f85e962e5ddaf096c4451c1a74e4901de832958f3d8263ac82f", func := "croupier/croupierlaw05.RootsAdd", spec := "rootsAdd", inPlace := ["internal/bytealg.IndexByteString", "internal/bytealg.IndexString", "internal/abi.NoEscape"], unfollowed := true, recurses := true, named := ["internal/bytealg.MaxLen", "strconv.ErrSyntax", "strconv.ErrRange", "internal/strconv.uint64pow10", "math/bits.deBruijn32tab", "math/bits.deBruijn64tab", "croupier/exact.strict", "croupier/exact.weak"], apart := false, laid := [("math/bits.deBruijn32tab", laid_math_bits_deBruijn32tab), ("math/bits.deBruijn64tab", laid_math_bits_deBruijn64tab), ("internal/strconv.uint64pow10", laid_internal_strconv_uint64pow10), ("strconv.ErrRange", laid_strconv_ErrRange), ("strconv.ErrSyntax", laid_strconv_ErrSyntax), ("croupier/exact.weak", laid_croupier_exact_weak), ("croupier/exact.strict", laid_croupier_exact_strict)], narrowed := true }
def RootsAddUptoSaid : Prop := rootsAddUptoRow.holds Tryz.pinned (OpenSpec.upto rootsAddSpec)

/-- 'croupierlaw05.RootsSplit', WHERE WHAT IT READS IS OF BULK AT MOST 1048576: true; the input reads as it did. -/
def rootsSplitUptoRow : OpenClaim := { program := "ytppnhclgaeodoaagreatdoor", sum := "f69f8ce4d35d2f85e962e5ddaf096c4451c1a74e4901de832958f3d8263ac82f", func := "croupier/croupierlaw05.RootsSplit", spec := "rootsSplit", inPlace := ["internal/bytealg.IndexByteString", "internal/bytealg.IndexString", "internal/abi.NoEscape"], unfollowed := true, recurses := true, named := ["internal/bytealg.MaxLen", "strconv.ErrSyntax", "strconv.ErrRange", "internal/strconv.uint64pow10", "math/bits.deBruijn32tab", "math/bits.deBruijn64tab", "croupier/exact.strict", "croupier/exact.weak"], apart := false, laid := [("math/bits.deBruijn32tab", laid_math_bits_deBruijn32tab), ("math/bits.deBruijn64tab", laid_math_bits_deBruijn64tab), ("internal/strconv.uint64pow10", laid_internal_strconv_uint64pow10), ("strconv.ErrRange", laid_strconv_ErrRange), ("strconv.ErrSyntax", laid_strconv_ErrSyntax), ("croupier/exact.weak", laid_croupier_exact_weak), ("croupier/exact.strict", laid_croupier_exact_strict)], narrowed := true }
def RootsSplitUptoSaid : Prop := rootsSplitUptoRow.holds Tryz.pinned (OpenSpec.upto rootsSplitSpec)

/-- 'croupierlaw05.RootsMeans', WHERE WHAT IT READS IS OF BULK AT MOST 1048576: true; the input reads as it did. -/
def rootsMeansUptoRow : OpenClaim := { program := "ytppnhclgaeodoaagreatdoor", sum := "f69f8ce4d35d2f85e962e5ddaf096c4451c1a74e4901de832958f3d8263ac82f", func := "croupier/croupierlaw05.RootsMeans", spec := "rootsMeans", inPlace := ["internal/bytealg.IndexByteString", "internal/bytealg.IndexString", "internal/abi.NoEscape"], unfollowed := true, recurses := true, named := ["internal/bytealg.MaxLen", "strconv.ErrSyntax", "strconv.ErrRange", "internal/strconv.uint64pow10", "math/bits.deBruijn32tab", "math/bits.deBruijn64tab", "croupier/exact.strict", "croupier/exact.weak"], apart := false, laid := [("math/bits.deBruijn32tab", laid_math_bits_deBruijn32tab), ("math/bits.deBruijn64tab", laid_math_bits_deBruijn64tab), ("internal/strconv.uint64pow10", laid_internal_strconv_uint64pow10), ("strconv.ErrRange", laid_strconv_ErrRange), ("strconv.ErrSyntax", laid_strconv_ErrSyntax), ("croupier/exact.weak", laid_croupier_exact_weak), ("croupier/exact.strict", laid_croupier_exact_strict)], narrowed := true }
def RootsMeansUptoSaid : Prop := rootsMeansUptoRow.holds Tryz.pinned (OpenSpec.upto rootsMeansSpec)

end Rows
end Go.Proofs.YtppnhclgaeodoaaGreatDoor

/-
  No cell of these rows narrows 'for every input' (looked for: loops, veiled, ifaces, maps, wideKeys, modest, calm, conditions, laid).
  DERIVED. THE GIVEN ROWS OF THIS SEAT. 12 by the template 'for every input the law returns true; each argument reads behind the call as it read before'; 0 by the template 'total and deterministic' (their statements: YtleegjkloclolaaTotals.lean).
  GIVEN WITH THE SEED: the statements are not yours to turn. If you find one false, say at which input.
  Laid BY PROGRAM, IN A SANDBOX (cutbox-rows.mjs): the forced cells as the released guide's own fill.sh prints them over the translation 13bef8b1b1712808… (all of the seat's roots in one cut). By AI agents, Wed Nov 11 2026. No macro, syntax, notation, axiom, sorry.
-/
import Derived.Test.YtleegjkloclolaaChecked
import GoSem.Claim
import GoSem.ClaimJoined
import GoSem.ClaimMapViews
import Derived.JoinedTies
import Derived.KernelRfl
namespace Go.Proofs.Ytleegjkloclolaa
/- THE CELL 'sum', in the pinned program and in every row, IS THE sha256 OF THE DUMP (.gsa) THAT YtleegjkloclolaaProg.lean LOADS. Nothing in Lean hashes anything: it is a label: what it is worth is what the hold of that sum in a sandbox is worth. -/
noncomputable def Try.pinned : Pinned := { name := "ytleegjkloclolaa", sum := "13bef8b1b1712808f5acdc518626e9babe6021e31f10218f4c68a2c7bf414906", checked := Try.checked }
namespace Rows
def none {H : Type} : Left H := { results := [], args := [] }

/-- 'laws.FnExactSignOnce': WHATEVER THE INPUT: true; the input reads as it did. -/
def fnExactSignOnceSpec : ChangeSpec := { name := "fnExactSignOnce", fn := fun _ => fun
  | [d1, d2] => { results := [.lit (.bool true)], args := [d1, d2] }
  | _ => none }
def fnExactSignOnceRow : OpenClaim := { program := "ytleegjkloclolaa", sum := "13bef8b1b1712808f5acdc518626e9babe6021e31f10218f4c68a2c7bf414906", func := "loop.example/g00537/laws.FnExactSignOnce", spec := "fnExactSignOnce", apart := false }
def FnExactSignOnceSaid : Prop := fnExactSignOnceRow.holds Try.pinned (OpenSpec.ofChange fnExactSignOnceSpec)

/-- ITS FALSE NEIGHBOUR: 'it returns false'. Refute it at one input. -/
def fnExactSignOnceWrong : ChangeSpec := { name := "fnExactSignOnce", fn := fun _ => fun
  | [d1, d2] => { results := [.lit (.bool false)], args := [d1, d2] }
  | _ => none }
def FnExactSignOnceWrongFalsely : Prop := fnExactSignOnceRow.holds Try.pinned (OpenSpec.ofChange fnExactSignOnceWrong)

/-- 'laws.FnExactShownBytes': WHATEVER THE INPUT: true; the input reads as it did. -/
def fnExactShownBytesSpec : ChangeSpec := { name := "fnExactShownBytes", fn := fun _ => fun
  | [d] => { results := [.lit (.bool true)], args := [d] }
  | _ => none }
def fnExactShownBytesRow : OpenClaim := { program := "ytleegjkloclolaa", sum := "13bef8b1b1712808f5acdc518626e9babe6021e31f10218f4c68a2c7bf414906", func := "loop.example/g00537/laws.FnExactShownBytes", spec := "fnExactShownBytes", unfollowed := true, recurses := true, apart := false }
def FnExactShownBytesSaid : Prop := fnExactShownBytesRow.holds Try.pinned (OpenSpec.ofChange fnExactShownBytesSpec)

/-- ITS FALSE NEIGHBOUR: 'it returns false'. Refute it at one input. -/
def fnExactShownBytesWrong : ChangeSpec := { name := "fnExactShownBytes", fn := fun _ => fun
  | [d] => { results := [.lit (.bool false)], args := [d] }
  | _ => none }
def FnExactShownBytesWrongFalsely : Prop := fnExactShownBytesRow.holds Try.pinned (OpenSpec.ofChange fnExactShownBytesWrong)

/-- 'laws.FnExactBlockDigest': WHATEVER THE INPUT: true; the input reads as it did. -/
def fnExactBlockDigestSpec : ChangeSpec := { name := "fnExactBlockDigest", fn := fun _ => fun
  | [d] => { results := [.lit (.bool true)], args := [d] }
  | _ => none }
def fnExactBlockDigestRow : OpenClaim := { program := "ytleegjkloclolaa", sum := "13bef8b1b1712808f5acdc518626e9babe6021e31f10218f4c68a2c7bf414906", func := "loop.example/g00537/laws.FnExactBlockDigest", spec := "fnExactBlockDigest", unfollowed := true, recurses := true, apart := false }
def FnExactBlockDigestSaid : Prop := fnExactBlockDigestRow.holds Try.pinned (OpenSpec.ofChange fnExactBlockDigestSpec)

/-- ITS FALSE NEIGHBOUR: 'it returns false'. Refute it at one input. -/
def fnExactBlockDigestWrong : ChangeSpec := { name := "fnExactBlockDigest", fn := fun _ => fun
  | [d] => { results := [.lit (.bool false)], args := [d] }
  | _ => none }
def FnExactBlockDigestWrongFalsely : Prop := fnExactBlockDigestRow.holds Try.pinned (OpenSpec.ofChange fnExactBlockDigestWrong)

/-- 'laws.FnExactCheckOnce': WHATEVER THE INPUT: true; the input reads as it did. -/
def fnExactCheckOnceSpec : ChangeSpec := { name := "fnExactCheckOnce", fn := fun _ => fun
  | [d1, d2, d3] => { results := [.lit (.bool true)], args := [d1, d2, d3] }
  | _ => none }
def fnExactCheckOnceRow : OpenClaim := { program := "ytleegjkloclolaa", sum := "13bef8b1b1712808f5acdc518626e9babe6021e31f10218f4c68a2c7bf414906", func := "loop.example/g00537/laws.FnExactCheckOnce", spec := "fnExactCheckOnce", unfollowed := true, recurses := true, apart := false }
def FnExactCheckOnceSaid : Prop := fnExactCheckOnceRow.holds Try.pinned (OpenSpec.ofChange fnExactCheckOnceSpec)

/-- ITS FALSE NEIGHBOUR: 'it returns false'. Refute it at one input. -/
def fnExactCheckOnceWrong : ChangeSpec := { name := "fnExactCheckOnce", fn := fun _ => fun
  | [d1, d2, d3] => { results := [.lit (.bool false)], args := [d1, d2, d3] }
  | _ => none }
def FnExactCheckOnceWrongFalsely : Prop := fnExactCheckOnceRow.holds Try.pinned (OpenSpec.ofChange fnExactCheckOnceWrong)

/-- 'laws.FnExactPublicFrom': WHATEVER THE INPUT: true; the input reads as it did. -/
def fnExactPublicFromSpec : ChangeSpec := { name := "fnExactPublicFrom", fn := fun _ => fun
  | [d1, d2] => { results := [.lit (.bool true)], args := [d1, d2] }
  | _ => none }
def fnExactPublicFromRow : OpenClaim := { program := "ytleegjkloclolaa", sum := "13bef8b1b1712808f5acdc518626e9babe6021e31f10218f4c68a2c7bf414906", func := "loop.example/g00537/laws.FnExactPublicFrom", spec := "fnExactPublicFrom", unfollowed := true, recurses := true, apart := false }
def FnExactPublicFromSaid : Prop := fnExactPublicFromRow.holds Try.pinned (OpenSpec.ofChange fnExactPublicFromSpec)

/-- ITS FALSE NEIGHBOUR: 'it returns false'. Refute it at one input. -/
def fnExactPublicFromWrong : ChangeSpec := { name := "fnExactPublicFrom", fn := fun _ => fun
  | [d1, d2] => { results := [.lit (.bool false)], args := [d1, d2] }
  | _ => none }
def FnExactPublicFromWrongFalsely : Prop := fnExactPublicFromRow.holds Try.pinned (OpenSpec.ofChange fnExactPublicFromWrong)

/-- 'laws.FnClashes': WHATEVER THE INPUT: true; the input reads as it did. -/
def fnClashesSpec : ChangeSpec := { name := "fnClashes", fn := fun _ => fun
  | [d1, d2] => { results := [.lit (.bool true)], args := [d1, d2] }
  | _ => none }
def fnClashesRow : OpenClaim := { program := "ytleegjkloclolaa", sum := "13bef8b1b1712808f5acdc518626e9babe6021e31f10218f4c68a2c7bf414906", func := "loop.example/g00537/laws.FnClashes", spec := "fnClashes", apart := false }
def FnClashesSaid : Prop := fnClashesRow.holds Try.pinned (OpenSpec.ofChange fnClashesSpec)

/-- ITS FALSE NEIGHBOUR: 'it returns false'. Refute it at one input. -/
def fnClashesWrong : ChangeSpec := { name := "fnClashes", fn := fun _ => fun
  | [d1, d2] => { results := [.lit (.bool false)], args := [d1, d2] }
  | _ => none }
def FnClashesWrongFalsely : Prop := fnClashesRow.holds Try.pinned (OpenSpec.ofChange fnClashesWrong)

/-- 'laws.FnExactCheckSlot': WHATEVER THE INPUT: true; the input reads as it did. -/
def fnExactCheckSlotSpec : ChangeSpec := { name := "fnExactCheckSlot", fn := fun _ => fun
  | [d1, d2, d3, d4] => { results := [.lit (.bool true)], args := [d1, d2, d3, d4] }
  | _ => none }
def fnExactCheckSlotRow : OpenClaim := { program := "ytleegjkloclolaa", sum := "13bef8b1b1712808f5acdc518626e9babe6021e31f10218f4c68a2c7bf414906", func := "loop.example/g00537/laws.FnExactCheckSlot", spec := "fnExactCheckSlot", unfollowed := true, recurses := true, apart := false }
def FnExactCheckSlotSaid : Prop := fnExactCheckSlotRow.holds Try.pinned (OpenSpec.ofChange fnExactCheckSlotSpec)

/-- ITS FALSE NEIGHBOUR: 'it returns false'. Refute it at one input. -/
def fnExactCheckSlotWrong : ChangeSpec := { name := "fnExactCheckSlot", fn := fun _ => fun
  | [d1, d2, d3, d4] => { results := [.lit (.bool false)], args := [d1, d2, d3, d4] }
  | _ => none }
def FnExactCheckSlotWrongFalsely : Prop := fnExactCheckSlotRow.holds Try.pinned (OpenSpec.ofChange fnExactCheckSlotWrong)

/-- 'laws.FnExactPageDigest': WHATEVER THE INPUT: true; the input reads as it did. -/
def fnExactPageDigestSpec : ChangeSpec := { name := "fnExactPageDigest", fn := fun _ => fun
  | [d] => { results := [.lit (.bool true)], args := [d] }
  | _ => none }
def fnExactPageDigestRow : OpenClaim := { program := "ytleegjkloclolaa", sum := "13bef8b1b1712808f5acdc518626e9babe6021e31f10218f4c68a2c7bf414906", func := "loop.example/g00537/laws.FnExactPageDigest", spec := "fnExactPageDigest", unfollowed := true, recurses := true, apart := false }
def FnExactPageDigestSaid : Prop := fnExactPageDigestRow.holds Try.pinned (OpenSpec.ofChange fnExactPageDigestSpec)

/-- ITS FALSE NEIGHBOUR: 'it returns false'. Refute it at one input. -/
def fnExactPageDigestWrong : ChangeSpec := { name := "fnExactPageDigest", fn := fun _ => fun
  | [d] => { results := [.lit (.bool false)], args := [d] }
  | _ => none }
def FnExactPageDigestWrongFalsely : Prop := fnExactPageDigestRow.holds Try.pinned (OpenSpec.ofChange fnExactPageDigestWrong)

/-- 'laws.FnExactGoodShelf': WHATEVER THE INPUT: true; the input reads as it did. -/
def fnExactGoodShelfSpec : ChangeSpec := { name := "fnExactGoodShelf", fn := fun _ => fun
  | [d] => { results := [.lit (.bool true)], args := [d] }
  | _ => none }
def fnExactGoodShelfRow : OpenClaim := { program := "ytleegjkloclolaa", sum := "13bef8b1b1712808f5acdc518626e9babe6021e31f10218f4c68a2c7bf414906", func := "loop.example/g00537/laws.FnExactGoodShelf", spec := "fnExactGoodShelf", unfollowed := true, recurses := true, apart := false }
def FnExactGoodShelfSaid : Prop := fnExactGoodShelfRow.holds Try.pinned (OpenSpec.ofChange fnExactGoodShelfSpec)

/-- ITS FALSE NEIGHBOUR: 'it returns false'. Refute it at one input. -/
def fnExactGoodShelfWrong : ChangeSpec := { name := "fnExactGoodShelf", fn := fun _ => fun
  | [d] => { results := [.lit (.bool false)], args := [d] }
  | _ => none }
def FnExactGoodShelfWrongFalsely : Prop := fnExactGoodShelfRow.holds Try.pinned (OpenSpec.ofChange fnExactGoodShelfWrong)

/-- 'laws.FnExactBodyAt': WHATEVER THE INPUT: true; the input reads as it did. -/
def fnExactBodyAtSpec : ChangeSpec := { name := "fnExactBodyAt", fn := fun _ => fun
  | [d1, d2] => { results := [.lit (.bool true)], args := [d1, d2] }
  | _ => none }
def fnExactBodyAtRow : OpenClaim := { program := "ytleegjkloclolaa", sum := "13bef8b1b1712808f5acdc518626e9babe6021e31f10218f4c68a2c7bf414906", func := "loop.example/g00537/laws.FnExactBodyAt", spec := "fnExactBodyAt", unfollowed := true, recurses := true, apart := false }
def FnExactBodyAtSaid : Prop := fnExactBodyAtRow.holds Try.pinned (OpenSpec.ofChange fnExactBodyAtSpec)

/-- ITS FALSE NEIGHBOUR: 'it returns false'. Refute it at one input. -/
def fnExactBodyAtWrong : ChangeSpec := { name := "fnExactBodyAt", fn := fun _ => fun
  | [d1, d2] => { results := [.lit (.bool false)], args := [d1, d2] }
  | _ => none }
def FnExactBodyAtWrongFalsely : Prop := fnExactBodyAtRow.holds Try.pinned (OpenSpec.ofChange fnExactBodyAtWrong)

/-- 'laws.FnExactAuditChain': WHATEVER THE INPUT: true; the input reads as it did. -/
def fnExactAuditChainSpec : ChangeSpec := { name := "fnExactAuditChain", fn := fun _ => fun
  | [d1, d2] => { results := [.lit (.bool true)], args := [d1, d2] }
  | _ => none }
def fnExactAuditChainRow : OpenClaim := { program := "ytleegjkloclolaa", sum := "13bef8b1b1712808f5acdc518626e9babe6021e31f10218f4c68a2c7bf414906", func := "loop.example/g00537/laws.FnExactAuditChain", spec := "fnExactAuditChain", unfollowed := true, recurses := true, apart := false }
def FnExactAuditChainSaid : Prop := fnExactAuditChainRow.holds Try.pinned (OpenSpec.ofChange fnExactAuditChainSpec)

/-- ITS FALSE NEIGHBOUR: 'it returns false'. Refute it at one input. -/
def fnExactAuditChainWrong : ChangeSpec := { name := "fnExactAuditChain", fn := fun _ => fun
  | [d1, d2] => { results := [.lit (.bool false)], args := [d1, d2] }
  | _ => none }
def FnExactAuditChainWrongFalsely : Prop := fnExactAuditChainRow.holds Try.pinned (OpenSpec.ofChange fnExactAuditChainWrong)

/-- 'laws.FnExactGoodChain': WHATEVER THE INPUT: true; the input reads as it did. -/
def fnExactGoodChainSpec : ChangeSpec := { name := "fnExactGoodChain", fn := fun _ => fun
  | [d] => { results := [.lit (.bool true)], args := [d] }
  | _ => none }
def fnExactGoodChainRow : OpenClaim := { program := "ytleegjkloclolaa", sum := "13bef8b1b1712808f5acdc518626e9babe6021e31f10218f4c68a2c7bf414906", func := "loop.example/g00537/laws.FnExactGoodChain", spec := "fnExactGoodChain", unfollowed := true, recurses := true, apart := false }
def FnExactGoodChainSaid : Prop := fnExactGoodChainRow.holds Try.pinned (OpenSpec.ofChange fnExactGoodChainSpec)

/-- ITS FALSE NEIGHBOUR: 'it returns false'. Refute it at one input. -/
def fnExactGoodChainWrong : ChangeSpec := { name := "fnExactGoodChain", fn := fun _ => fun
  | [d] => { results := [.lit (.bool false)], args := [d] }
  | _ => none }
def FnExactGoodChainWrongFalsely : Prop := fnExactGoodChainRow.holds Try.pinned (OpenSpec.ofChange fnExactGoodChainWrong)

/- THE SECOND FORM. 'bulk': how many values and letters a reading holds, each counted each time it is reached (what is shared counts as often as it is met; a slice's spare places count too). A statement '..UptoSaid' is the law's where the arguments, and the package variables that the reading takes, are together of bulk at most 1048576: NARROWER than '..Said'. Prove '..Said' where nothing that the law and all that it calls make is longer than what came in: it says more and counts as full. Else prove '..UptoSaid'. A law counts once. -/
mutual
def uptoBulk {H : Type} : DataW H → Nat
  | .lit (.string bytes) => bytes.length + 1
  | .lit _ => 1
  | .nil => 1
  | .ptr d => uptoBulk d + 1
  | .slice elems spare => uptoBulkAll elems + uptoBulkAll spare + 1
  | .agg parts => uptoBulkAll parts + 1
  | .iface _ d => uptoBulk d + 1
  | .map entries => uptoBulkEntries entries + 1
  | .held _ => 1
def uptoBulkAll {H : Type} : List (DataW H) → Nat
  | [] => 0
  | d :: r => uptoBulk d + uptoBulkAll r
def uptoBulkEntries {H : Type} : List (Lit × DataW H) → Nat
  | [] => 0
  | x :: r => uptoBulkEntry x + uptoBulkEntries r
def uptoBulkEntry {H : Type} : Lit × DataW H → Nat
  | (.string bytes, d) => bytes.length + uptoBulk d + 1
  | (_, d) => uptoBulk d + 1
 end
def uptoSmall : (H : Type) → List (DataW H) → Bool := fun _ ds => decide (uptoBulkAll ds ≤ 1048576)
def OpenSpec.upto (s : _root_.Go.ChangeSpec) : _root_.Go.OpenSpec := { _root_.Go.OpenSpec.ofChange s with cond := some uptoSmall }

/-- 'laws.FnExactSignOnce', WHERE WHAT IT READS IS OF BULK AT MOST 1048576: true; the input reads as it did. -/
def fnExactSignOnceUptoRow : OpenClaim := { program := "ytleegjkloclolaa", sum := "13bef8b1b1712808f5acdc518626e9babe6021e31f10218f4c68a2c7bf414906", func := "loop.example/g00537/laws.FnExactSignOnce", spec := "fnExactSignOnce", apart := false, narrowed := true }
def FnExactSignOnceUptoSaid : Prop := fnExactSignOnceUptoRow.holds Try.pinned (OpenSpec.upto fnExactSignOnceSpec)

/-- 'laws.FnExactShownBytes', WHERE WHAT IT READS IS OF BULK AT MOST 1048576: true; the input reads as it did. -/
def fnExactShownBytesUptoRow : OpenClaim := { program := "ytleegjkloclolaa", sum := "13bef8b1b1712808f5acdc518626e9babe6021e31f10218f4c68a2c7bf414906", func := "loop.example/g00537/laws.FnExactShownBytes", spec := "fnExactShownBytes", unfollowed := true, recurses := true, apart := false, narrowed := true }
def FnExactShownBytesUptoSaid : Prop := fnExactShownBytesUptoRow.holds Try.pinned (OpenSpec.upto fnExactShownBytesSpec)

/-- 'laws.FnExactBlockDigest', WHERE WHAT IT READS IS OF BULK AT MOST 1048576: true; the input reads as it did. -/
def fnExactBlockDigestUptoRow : OpenClaim := { program := "ytleegjkloclolaa", sum := "13bef8b1b1712808f5acdc518626e9babe6021e31f10218f4c68a2c7bf414906", func := "loop.example/g00537/laws.FnExactBlockDigest", spec := "fnExactBlockDigest", unfollowed := true, recurses := true, apart := false, narrowed := true }
def FnExactBlockDigestUptoSaid : Prop := fnExactBlockDigestUptoRow.holds Try.pinned (OpenSpec.upto fnExactBlockDigestSpec)

/-- 'laws.FnExactCheckOnce', WHERE WHAT IT READS IS OF BULK AT MOST 1048576: true; the input reads as it did. -/
def fnExactCheckOnceUptoRow : OpenClaim := { program := "ytleegjkloclolaa", sum := "13bef8b1b1712808f5acdc518626e9babe6021e31f10218f4c68a2c7bf414906", func := "loop.example/g00537/laws.FnExactCheckOnce", spec := "fnExactCheckOnce", unfollowed := true, recurses := true, apart := false, narrowed := true }
def FnExactCheckOnceUptoSaid : Prop := fnExactCheckOnceUptoRow.holds Try.pinned (OpenSpec.upto fnExactCheckOnceSpec)

/-- 'laws.FnExactPublicFrom', WHERE WHAT IT READS IS OF BULK AT MOST 1048576: true; the input reads as it did. -/
def fnExactPublicFromUptoRow : OpenClaim := { program := "ytleegjkloclolaa", sum := "13bef8b1b1712808f5acdc518626e9babe6021e31f10218f4c68a2c7bf414906", func := "loop.example/g00537/laws.FnExactPublicFrom", spec := "fnExactPublicFrom", unfollowed := true, recurses := true, apart := false, narrowed := true }
def FnExactPublicFromUptoSaid : Prop := fnExactPublicFromUptoRow.holds Try.pinned (OpenSpec.upto fnExactPublicFromSpec)

/-- 'laws.FnClashes', WHERE WHAT IT READS IS OF BULK AT MOST 1048576: true; the input reads as it did. -/
def fnClashesUptoRow : OpenClaim := { program := "ytleegjkloclolaa", sum := "13bef8b1b1712808f5acdc518626e9babe6021e31f10218f4c68a2c7bf414906", func := "loop.example/g00537/laws.FnClashes", spec := "fnClashes", apart := false, narrowed := true }
def FnClashesUptoSaid : Prop := fnClashesUptoRow.holds Try.pinned (OpenSpec.upto fnClashesSpec)

/-- 'laws.FnExactCheckSlot', WHERE WHAT IT READS IS OF BULK AT MOST 1048576: true; the input reads as it did. -/
def fnExactCheckSlotUptoRow : OpenClaim := { program := "ytleegjkloclolaa", sum := "13bef8b1b1712808f5acdc518626e9babe6021e31f10218f4c68a2c7bf414906", func := "loop.example/g00537/laws.FnExactCheckSlot", spec := "fnExactCheckSlot", unfollowed := true, recurses := true, apart := false, narrowed := true }
def FnExactCheckSlotUptoSaid : Prop := fnExactCheckSlotUptoRow.holds Try.pinned (OpenSpec.upto fnExactCheckSlotSpec)

/-- 'laws.FnExactPageDigest', WHERE WHAT IT READS IS OF BULK AT MOST 1048576: true; the input reads as it did. -/
def fnExactPageDigestUptoRow : OpenClaim := { program := "ytleegjkloclolaa", sum := "13bef8b1b1712808f5acdc518626e9babe6021e31f10218f4c68a2c7bf414906", func := "loop.example/g00537/laws.FnExactPageDigest", spec := "fnExactPageDigest", unfollowed := true, recurses := true, apart := false, narrowed := true }
def FnExactPageDigestUptoSaid : Prop := fnExactPageDigestUptoRow.holds Try.pinned (OpenSpec.upto fnExactPageDigestSpec)

/-- 'laws.FnExactGoodShelf', WHERE WHAT IT READS IS OF BULK AT MOST 1048576: true; the input reads as it did. -/
def fnExactGoodShelfUptoRow : OpenClaim := { program := "ytleegjkloclolaa", sum := "13bef8b1b1712808f5acdc518626e9babe6021e31f10218f4c68a2c7bf414906", func := "loop.example/g00537/laws.FnExactGoodShelf", spec := "fnExactGoodShelf", unfollowed := true, recurses := true, apart := false, narrowed := true }
def FnExactGoodShelfUptoSaid : Prop := fnExactGoodShelfUptoRow.holds Try.pinned (OpenSpec.upto fnExactGoodShelfSpec)

/-- 'laws.FnExactBodyAt', WHERE WHAT IT READS IS OF BULK AT MOST 1048576: true; the input reads as it did. -/
def fnExactBodyAtUptoRow : OpenClaim := { program := "ytleegjkloclolaa", sum := "13bef8b1b1712808f5acdc518626e9babe6021e31f10218f4c68a2c7bf414906", func := "loop.example/g00537/laws.FnExactBodyAt", spec := "fnExactBodyAt", unfollowed := true, recurses := true, apart := false, narrowed := true }
def FnExactBodyAtUptoSaid : Prop := fnExactBodyAtUptoRow.holds Try.pinned (OpenSpec.upto fnExactBodyAtSpec)

/-- 'laws.FnExactAuditChain', WHERE WHAT IT READS IS OF BULK AT MOST 1048576: true; the input reads as it did. -/
def fnExactAuditChainUptoRow : OpenClaim := { program := "ytleegjkloclolaa", sum := "13bef8b1b1712808f5acdc518626e9babe6021e31f10218f4c68a2c7bf414906", func := "loop.example/g00537/laws.FnExactAuditChain", spec := "fnExactAuditChain", unfollowed := true, recurses := true, apart := false, narrowed := true }
def FnExactAuditChainUptoSaid : Prop := fnExactAuditChainUptoRow.holds Try.pinned (OpenSpec.upto fnExactAuditChainSpec)

/-- 'laws.FnExactGoodChain', WHERE WHAT IT READS IS OF BULK AT MOST 1048576: true; the input reads as it did. -/
def fnExactGoodChainUptoRow : OpenClaim := { program := "ytleegjkloclolaa", sum := "13bef8b1b1712808f5acdc518626e9babe6021e31f10218f4c68a2c7bf414906", func := "loop.example/g00537/laws.FnExactGoodChain", spec := "fnExactGoodChain", unfollowed := true, recurses := true, apart := false, narrowed := true }
def FnExactGoodChainUptoSaid : Prop := fnExactGoodChainUptoRow.holds Try.pinned (OpenSpec.upto fnExactGoodChainSpec)

end Rows
end Go.Proofs.Ytleegjkloclolaa

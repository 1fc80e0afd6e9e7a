/-
  No cell of these rows narrows 'for every input' (looked for: loops, veiled, ifaces, maps, wideKeys, modest, calm, conditions, laid).
  DERIVED. THE GIVEN ROWS OF THIS SEAT. 12 by the template 'for every input the law returns true; each argument reads behind the call as it read before'; 0 by the template 'total and deterministic' (their statements: YtfajabboibcgpaaTotals.lean).
  GIVEN WITH THE SEED: the statements are not yours to turn. If you find one false, say at which input.
  Laid BY PROGRAM, IN A SANDBOX (cutbox-rows.mjs): the forced cells as the released guide's own fill.sh prints them over the translation d71f9f773288a48b… (all of the seat's roots in one cut). By AI agents, Wed Nov 11 2026. No macro, syntax, notation, axiom, sorry.
-/
import Derived.Test.YtfajabboibcgpaaChecked
import GoSem.Claim
import GoSem.ClaimJoined
import GoSem.ClaimMapViews
import Derived.JoinedTies
import Derived.KernelRfl
namespace Go.Proofs.Ytfajabboibcgpaa
/- THE CELL 'sum', in the pinned program and in every row, IS THE sha256 OF THE DUMP (.gsa) THAT YtfajabboibcgpaaProg.lean LOADS. Nothing in Lean hashes anything: it is a label: what it is worth is what the hold of that sum in a sandbox is worth. -/
noncomputable def Try.pinned : Pinned := { name := "ytfajabboibcgpaa", sum := "d71f9f773288a48b4fef7ed93fe1d7d0fd4f9496a94ab364b60c93de5a3573dc", checked := Try.checked }
namespace Rows
def none {H : Type} : Left H := { results := [], args := [] }

/-- 'laws.FnExactShelfDigest': WHATEVER THE INPUT: true; the input reads as it did. -/
def fnExactShelfDigestSpec : ChangeSpec := { name := "fnExactShelfDigest", fn := fun _ => fun
  | [d] => { results := [.lit (.bool true)], args := [d] }
  | _ => none }
def fnExactShelfDigestRow : OpenClaim := { program := "ytfajabboibcgpaa", sum := "d71f9f773288a48b4fef7ed93fe1d7d0fd4f9496a94ab364b60c93de5a3573dc", func := "loop.example/g00537/laws.FnExactShelfDigest", spec := "fnExactShelfDigest", unfollowed := true, recurses := true, apart := false }
def FnExactShelfDigestSaid : Prop := fnExactShelfDigestRow.holds Try.pinned (OpenSpec.ofChange fnExactShelfDigestSpec)

/-- ITS FALSE NEIGHBOUR: 'it returns false'. Refute it at one input. -/
def fnExactShelfDigestWrong : ChangeSpec := { name := "fnExactShelfDigest", fn := fun _ => fun
  | [d] => { results := [.lit (.bool false)], args := [d] }
  | _ => none }
def FnExactShelfDigestWrongFalsely : Prop := fnExactShelfDigestRow.holds Try.pinned (OpenSpec.ofChange fnExactShelfDigestWrong)

/-- 'laws.FnDigits': WHATEVER THE INPUT: true; the input reads as it did. -/
def fnDigitsSpec : ChangeSpec := { name := "fnDigits", fn := fun _ => fun
  | [d1, d2] => { results := [.lit (.bool true)], args := [d1, d2] }
  | _ => none }
def fnDigitsRow : OpenClaim := { program := "ytfajabboibcgpaa", sum := "d71f9f773288a48b4fef7ed93fe1d7d0fd4f9496a94ab364b60c93de5a3573dc", func := "loop.example/g00537/laws.FnDigits", spec := "fnDigits", unfollowed := true, recurses := true, apart := false }
def FnDigitsSaid : Prop := fnDigitsRow.holds Try.pinned (OpenSpec.ofChange fnDigitsSpec)

/-- ITS FALSE NEIGHBOUR: 'it returns false'. Refute it at one input. -/
def fnDigitsWrong : ChangeSpec := { name := "fnDigits", fn := fun _ => fun
  | [d1, d2] => { results := [.lit (.bool false)], args := [d1, d2] }
  | _ => none }
def FnDigitsWrongFalsely : Prop := fnDigitsRow.holds Try.pinned (OpenSpec.ofChange fnDigitsWrong)

/-- 'laws.FnExactCheckSeal': WHATEVER THE INPUT: true; the input reads as it did. -/
def fnExactCheckSealSpec : ChangeSpec := { name := "fnExactCheckSeal", fn := fun _ => fun
  | [d1, d2, d3] => { results := [.lit (.bool true)], args := [d1, d2, d3] }
  | _ => none }
def fnExactCheckSealRow : OpenClaim := { program := "ytfajabboibcgpaa", sum := "d71f9f773288a48b4fef7ed93fe1d7d0fd4f9496a94ab364b60c93de5a3573dc", func := "loop.example/g00537/laws.FnExactCheckSeal", spec := "fnExactCheckSeal", unfollowed := true, recurses := true, apart := false }
def FnExactCheckSealSaid : Prop := fnExactCheckSealRow.holds Try.pinned (OpenSpec.ofChange fnExactCheckSealSpec)

/-- ITS FALSE NEIGHBOUR: 'it returns false'. Refute it at one input. -/
def fnExactCheckSealWrong : ChangeSpec := { name := "fnExactCheckSeal", fn := fun _ => fun
  | [d1, d2, d3] => { results := [.lit (.bool false)], args := [d1, d2, d3] }
  | _ => none }
def FnExactCheckSealWrongFalsely : Prop := fnExactCheckSealRow.holds Try.pinned (OpenSpec.ofChange fnExactCheckSealWrong)

/-- 'laws.FnExactLastDigest': WHATEVER THE INPUT: true; the input reads as it did. -/
def fnExactLastDigestSpec : ChangeSpec := { name := "fnExactLastDigest", fn := fun _ => fun
  | [d] => { results := [.lit (.bool true)], args := [d] }
  | _ => none }
def fnExactLastDigestRow : OpenClaim := { program := "ytfajabboibcgpaa", sum := "d71f9f773288a48b4fef7ed93fe1d7d0fd4f9496a94ab364b60c93de5a3573dc", func := "loop.example/g00537/laws.FnExactLastDigest", spec := "fnExactLastDigest", unfollowed := true, recurses := true, apart := false }
def FnExactLastDigestSaid : Prop := fnExactLastDigestRow.holds Try.pinned (OpenSpec.ofChange fnExactLastDigestSpec)

/-- ITS FALSE NEIGHBOUR: 'it returns false'. Refute it at one input. -/
def fnExactLastDigestWrong : ChangeSpec := { name := "fnExactLastDigest", fn := fun _ => fun
  | [d] => { results := [.lit (.bool false)], args := [d] }
  | _ => none }
def FnExactLastDigestWrongFalsely : Prop := fnExactLastDigestRow.holds Try.pinned (OpenSpec.ofChange fnExactLastDigestWrong)

/-- 'laws.FnExactClashIn': WHATEVER THE INPUT: true; the input reads as it did. -/
def fnExactClashInSpec : ChangeSpec := { name := "fnExactClashIn", fn := fun _ => fun
  | [d1, d2] => { results := [.lit (.bool true)], args := [d1, d2] }
  | _ => none }
def fnExactClashInRow : OpenClaim := { program := "ytfajabboibcgpaa", sum := "d71f9f773288a48b4fef7ed93fe1d7d0fd4f9496a94ab364b60c93de5a3573dc", func := "loop.example/g00537/laws.FnExactClashIn", spec := "fnExactClashIn", unfollowed := true, recurses := true, apart := false }
def FnExactClashInSaid : Prop := fnExactClashInRow.holds Try.pinned (OpenSpec.ofChange fnExactClashInSpec)

/-- ITS FALSE NEIGHBOUR: 'it returns false'. Refute it at one input. -/
def fnExactClashInWrong : ChangeSpec := { name := "fnExactClashIn", fn := fun _ => fun
  | [d1, d2] => { results := [.lit (.bool false)], args := [d1, d2] }
  | _ => none }
def FnExactClashInWrongFalsely : Prop := fnExactClashInRow.holds Try.pinned (OpenSpec.ofChange fnExactClashInWrong)

/-- 'laws.FnTaken': WHATEVER THE INPUT: true; the input reads as it did. -/
def fnTakenSpec : ChangeSpec := { name := "fnTaken", fn := fun _ => fun
  | [d1, d2] => { results := [.lit (.bool true)], args := [d1, d2] }
  | _ => none }
def fnTakenRow : OpenClaim := { program := "ytfajabboibcgpaa", sum := "d71f9f773288a48b4fef7ed93fe1d7d0fd4f9496a94ab364b60c93de5a3573dc", func := "loop.example/g00537/laws.FnTaken", spec := "fnTaken", unfollowed := true, recurses := true, apart := false }
def FnTakenSaid : Prop := fnTakenRow.holds Try.pinned (OpenSpec.ofChange fnTakenSpec)

/-- ITS FALSE NEIGHBOUR: 'it returns false'. Refute it at one input. -/
def fnTakenWrong : ChangeSpec := { name := "fnTaken", fn := fun _ => fun
  | [d1, d2] => { results := [.lit (.bool false)], args := [d1, d2] }
  | _ => none }
def FnTakenWrongFalsely : Prop := fnTakenRow.holds Try.pinned (OpenSpec.ofChange fnTakenWrong)

/-- 'laws.FnExactSealText': WHATEVER THE INPUT: true; the input reads as it did. -/
def fnExactSealTextSpec : ChangeSpec := { name := "fnExactSealText", fn := fun _ => fun
  | [d1, d2] => { results := [.lit (.bool true)], args := [d1, d2] }
  | _ => none }
def fnExactSealTextRow : OpenClaim := { program := "ytfajabboibcgpaa", sum := "d71f9f773288a48b4fef7ed93fe1d7d0fd4f9496a94ab364b60c93de5a3573dc", func := "loop.example/g00537/laws.FnExactSealText", spec := "fnExactSealText", apart := false }
def FnExactSealTextSaid : Prop := fnExactSealTextRow.holds Try.pinned (OpenSpec.ofChange fnExactSealTextSpec)

/-- ITS FALSE NEIGHBOUR: 'it returns false'. Refute it at one input. -/
def fnExactSealTextWrong : ChangeSpec := { name := "fnExactSealText", fn := fun _ => fun
  | [d1, d2] => { results := [.lit (.bool false)], args := [d1, d2] }
  | _ => none }
def FnExactSealTextWrongFalsely : Prop := fnExactSealTextRow.holds Try.pinned (OpenSpec.ofChange fnExactSealTextWrong)

/-- 'laws.FnExactPutSlot': WHATEVER THE INPUT: true; the input reads as it did. -/
def fnExactPutSlotSpec : ChangeSpec := { name := "fnExactPutSlot", fn := fun _ => fun
  | [d1, d2, d3, d4] => { results := [.lit (.bool true)], args := [d1, d2, d3, d4] }
  | _ => none }
def fnExactPutSlotRow : OpenClaim := { program := "ytfajabboibcgpaa", sum := "d71f9f773288a48b4fef7ed93fe1d7d0fd4f9496a94ab364b60c93de5a3573dc", func := "loop.example/g00537/laws.FnExactPutSlot", spec := "fnExactPutSlot", unfollowed := true, recurses := true, apart := false }
def FnExactPutSlotSaid : Prop := fnExactPutSlotRow.holds Try.pinned (OpenSpec.ofChange fnExactPutSlotSpec)

/-- ITS FALSE NEIGHBOUR: 'it returns false'. Refute it at one input. -/
def fnExactPutSlotWrong : ChangeSpec := { name := "fnExactPutSlot", fn := fun _ => fun
  | [d1, d2, d3, d4] => { results := [.lit (.bool false)], args := [d1, d2, d3, d4] }
  | _ => none }
def FnExactPutSlotWrongFalsely : Prop := fnExactPutSlotRow.holds Try.pinned (OpenSpec.ofChange fnExactPutSlotWrong)

/-- 'laws.FnExactTakeOut': WHATEVER THE INPUT: true; the input reads as it did. -/
def fnExactTakeOutSpec : ChangeSpec := { name := "fnExactTakeOut", fn := fun _ => fun
  | [d1, d2] => { results := [.lit (.bool true)], args := [d1, d2] }
  | _ => none }
def fnExactTakeOutRow : OpenClaim := { program := "ytfajabboibcgpaa", sum := "d71f9f773288a48b4fef7ed93fe1d7d0fd4f9496a94ab364b60c93de5a3573dc", func := "loop.example/g00537/laws.FnExactTakeOut", spec := "fnExactTakeOut", unfollowed := true, recurses := true, apart := false }
def FnExactTakeOutSaid : Prop := fnExactTakeOutRow.holds Try.pinned (OpenSpec.ofChange fnExactTakeOutSpec)

/-- ITS FALSE NEIGHBOUR: 'it returns false'. Refute it at one input. -/
def fnExactTakeOutWrong : ChangeSpec := { name := "fnExactTakeOut", fn := fun _ => fun
  | [d1, d2] => { results := [.lit (.bool false)], args := [d1, d2] }
  | _ => none }
def FnExactTakeOutWrongFalsely : Prop := fnExactTakeOutRow.holds Try.pinned (OpenSpec.ofChange fnExactTakeOutWrong)

/-- 'laws.FnExactShowSlot': WHATEVER THE INPUT: true; the input reads as it did. -/
def fnExactShowSlotSpec : ChangeSpec := { name := "fnExactShowSlot", fn := fun _ => fun
  | [d1, d2] => { results := [.lit (.bool true)], args := [d1, d2] }
  | _ => none }
def fnExactShowSlotRow : OpenClaim := { program := "ytfajabboibcgpaa", sum := "d71f9f773288a48b4fef7ed93fe1d7d0fd4f9496a94ab364b60c93de5a3573dc", func := "loop.example/g00537/laws.FnExactShowSlot", spec := "fnExactShowSlot", unfollowed := true, recurses := true, apart := false }
def FnExactShowSlotSaid : Prop := fnExactShowSlotRow.holds Try.pinned (OpenSpec.ofChange fnExactShowSlotSpec)

/-- ITS FALSE NEIGHBOUR: 'it returns false'. Refute it at one input. -/
def fnExactShowSlotWrong : ChangeSpec := { name := "fnExactShowSlot", fn := fun _ => fun
  | [d1, d2] => { results := [.lit (.bool false)], args := [d1, d2] }
  | _ => none }
def FnExactShowSlotWrongFalsely : Prop := fnExactShowSlotRow.holds Try.pinned (OpenSpec.ofChange fnExactShowSlotWrong)

/-- 'laws.FnExactCheckKey': WHATEVER THE INPUT: true; the input reads as it did. -/
def fnExactCheckKeySpec : ChangeSpec := { name := "fnExactCheckKey", fn := fun _ => fun
  | [d1, d2, d3] => { results := [.lit (.bool true)], args := [d1, d2, d3] }
  | _ => none }
def fnExactCheckKeyRow : OpenClaim := { program := "ytfajabboibcgpaa", sum := "d71f9f773288a48b4fef7ed93fe1d7d0fd4f9496a94ab364b60c93de5a3573dc", func := "loop.example/g00537/laws.FnExactCheckKey", spec := "fnExactCheckKey", unfollowed := true, recurses := true, apart := false }
def FnExactCheckKeySaid : Prop := fnExactCheckKeyRow.holds Try.pinned (OpenSpec.ofChange fnExactCheckKeySpec)

/-- ITS FALSE NEIGHBOUR: 'it returns false'. Refute it at one input. -/
def fnExactCheckKeyWrong : ChangeSpec := { name := "fnExactCheckKey", fn := fun _ => fun
  | [d1, d2, d3] => { results := [.lit (.bool false)], args := [d1, d2, d3] }
  | _ => none }
def FnExactCheckKeyWrongFalsely : Prop := fnExactCheckKeyRow.holds Try.pinned (OpenSpec.ofChange fnExactCheckKeyWrong)

/-- 'laws.FnOnce': WHATEVER THE INPUT: true; the input reads as it did. -/
def fnOnceSpec : ChangeSpec := { name := "fnOnce", fn := fun _ => fun
  | [d1, d2] => { results := [.lit (.bool true)], args := [d1, d2] }
  | _ => none }
def fnOnceRow : OpenClaim := { program := "ytfajabboibcgpaa", sum := "d71f9f773288a48b4fef7ed93fe1d7d0fd4f9496a94ab364b60c93de5a3573dc", func := "loop.example/g00537/laws.FnOnce", spec := "fnOnce", unfollowed := true, recurses := true, apart := false }
def FnOnceSaid : Prop := fnOnceRow.holds Try.pinned (OpenSpec.ofChange fnOnceSpec)

/-- ITS FALSE NEIGHBOUR: 'it returns false'. Refute it at one input. -/
def fnOnceWrong : ChangeSpec := { name := "fnOnce", fn := fun _ => fun
  | [d1, d2] => { results := [.lit (.bool false)], args := [d1, d2] }
  | _ => none }
def FnOnceWrongFalsely : Prop := fnOnceRow.holds Try.pinned (OpenSpec.ofChange fnOnceWrong)

/- THE SECOND FORM. 'bulk': how many values and letters a reading holds, each counted each time it is reached (what is shared counts as often as it is met; a slice's spare places count too). A statement '..UptoSaid' is the law's where the arguments, and the package variables that the reading takes, are together of bulk at most 1048576: NARROWER than '..Said'. Prove '..Said' where nothing that the law and all that it calls make is longer than what came in: it says more and counts as full. Else prove '..UptoSaid'. A law counts once. -/
mutual
def uptoBulk {H : Type} : DataW H → Nat
  | .lit (.string bytes) => bytes.length + 1
  | .lit _ => 1
  | .nil => 1
  | .ptr d => uptoBulk d + 1
  | .slice elems spare => uptoBulkAll elems + uptoBulkAll spare + 1
  | .agg parts => uptoBulkAll parts + 1
  | .iface _ d => uptoBulk d + 1
  | .map entries => uptoBulkEntries entries + 1
  | .held _ => 1
def uptoBulkAll {H : Type} : List (DataW H) → Nat
  | [] => 0
  | d :: r => uptoBulk d + uptoBulkAll r
def uptoBulkEntries {H : Type} : List (Lit × DataW H) → Nat
  | [] => 0
  | x :: r => uptoBulkEntry x + uptoBulkEntries r
def uptoBulkEntry {H : Type} : Lit × DataW H → Nat
  | (.string bytes, d) => bytes.length + uptoBulk d + 1
  | (_, d) => uptoBulk d + 1
 end
def uptoSmall : (H : Type) → List (DataW H) → Bool := fun _ ds => decide (uptoBulkAll ds ≤ 1048576)
def OpenSpec.upto (s : _root_.Go.ChangeSpec) : _root_.Go.OpenSpec := { _root_.Go.OpenSpec.ofChange s with cond := some uptoSmall }

/-- 'laws.FnExactShelfDigest', WHERE WHAT IT READS IS OF BULK AT MOST 1048576: true; the input reads as it did. -/
def fnExactShelfDigestUptoRow : OpenClaim := { program := "ytfajabboibcgpaa", sum := "d71f9f773288a48b4fef7ed93fe1d7d0fd4f9496a94ab364b60c93de5a3573dc", func := "loop.example/g00537/laws.FnExactShelfDigest", spec := "fnExactShelfDigest", unfollowed := true, recurses := true, apart := false, narrowed := true }
def FnExactShelfDigestUptoSaid : Prop := fnExactShelfDigestUptoRow.holds Try.pinned (OpenSpec.upto fnExactShelfDigestSpec)

/-- 'laws.FnDigits', WHERE WHAT IT READS IS OF BULK AT MOST 1048576: true; the input reads as it did. -/
def fnDigitsUptoRow : OpenClaim := { program := "ytfajabboibcgpaa", sum := "d71f9f773288a48b4fef7ed93fe1d7d0fd4f9496a94ab364b60c93de5a3573dc", func := "loop.example/g00537/laws.FnDigits", spec := "fnDigits", unfollowed := true, recurses := true, apart := false, narrowed := true }
def FnDigitsUptoSaid : Prop := fnDigitsUptoRow.holds Try.pinned (OpenSpec.upto fnDigitsSpec)

/-- 'laws.FnExactCheckSeal', WHERE WHAT IT READS IS OF BULK AT MOST 1048576: true; the input reads as it did. -/
def fnExactCheckSealUptoRow : OpenClaim := { program := "ytfajabboibcgpaa", sum := "d71f9f773288a48b4fef7ed93fe1d7d0fd4f9496a94ab364b60c93de5a3573dc", func := "loop.example/g00537/laws.FnExactCheckSeal", spec := "fnExactCheckSeal", unfollowed := true, recurses := true, apart := false, narrowed := true }
def FnExactCheckSealUptoSaid : Prop := fnExactCheckSealUptoRow.holds Try.pinned (OpenSpec.upto fnExactCheckSealSpec)

/-- 'laws.FnExactLastDigest', WHERE WHAT IT READS IS OF BULK AT MOST 1048576: true; the input reads as it did. -/
def fnExactLastDigestUptoRow : OpenClaim := { program := "ytfajabboibcgpaa", sum := "d71f9f773288a48b4fef7ed93fe1d7d0fd4f9496a94ab364b60c93de5a3573dc", func := "loop.example/g00537/laws.FnExactLastDigest", spec := "fnExactLastDigest", unfollowed := true, recurses := true, apart := false, narrowed := true }
def FnExactLastDigestUptoSaid : Prop := fnExactLastDigestUptoRow.holds Try.pinned (OpenSpec.upto fnExactLastDigestSpec)

/-- 'laws.FnExactClashIn', WHERE WHAT IT READS IS OF BULK AT MOST 1048576: true; the input reads as it did. -/
def fnExactClashInUptoRow : OpenClaim := { program := "ytfajabboibcgpaa", sum := "d71f9f773288a48b4fef7ed93fe1d7d0fd4f9496a94ab364b60c93de5a3573dc", func := "loop.example/g00537/laws.FnExactClashIn", spec := "fnExactClashIn", unfollowed := true, recurses := true, apart := false, narrowed := true }
def FnExactClashInUptoSaid : Prop := fnExactClashInUptoRow.holds Try.pinned (OpenSpec.upto fnExactClashInSpec)

/-- 'laws.FnTaken', WHERE WHAT IT READS IS OF BULK AT MOST 1048576: true; the input reads as it did. -/
def fnTakenUptoRow : OpenClaim := { program := "ytfajabboibcgpaa", sum := "d71f9f773288a48b4fef7ed93fe1d7d0fd4f9496a94ab364b60c93de5a3573dc", func := "loop.example/g00537/laws.FnTaken", spec := "fnTaken", unfollowed := true, recurses := true, apart := false, narrowed := true }
def FnTakenUptoSaid : Prop := fnTakenUptoRow.holds Try.pinned (OpenSpec.upto fnTakenSpec)

/-- 'laws.FnExactSealText', WHERE WHAT IT READS IS OF BULK AT MOST 1048576: true; the input reads as it did. -/
def fnExactSealTextUptoRow : OpenClaim := { program := "ytfajabboibcgpaa", sum := "d71f9f773288a48b4fef7ed93fe1d7d0fd4f9496a94ab364b60c93de5a3573dc", func := "loop.example/g00537/laws.FnExactSealText", spec := "fnExactSealText", apart := false, narrowed := true }
def FnExactSealTextUptoSaid : Prop := fnExactSealTextUptoRow.holds Try.pinned (OpenSpec.upto fnExactSealTextSpec)

/-- 'laws.FnExactPutSlot', WHERE WHAT IT READS IS OF BULK AT MOST 1048576: true; the input reads as it did. -/
def fnExactPutSlotUptoRow : OpenClaim := { program := "ytfajabboibcgpaa", sum := "d71f9f773288a48b4fef7ed93fe1d7d0fd4f9496a94ab364b60c93de5a3573dc", func := "loop.example/g00537/laws.FnExactPutSlot", spec := "fnExactPutSlot", unfollowed := true, recurses := true, apart := false, narrowed := true }
def FnExactPutSlotUptoSaid : Prop := fnExactPutSlotUptoRow.holds Try.pinned (OpenSpec.upto fnExactPutSlotSpec)

/-- 'laws.FnExactTakeOut', WHERE WHAT IT READS IS OF BULK AT MOST 1048576: true; the input reads as it did. -/
def fnExactTakeOutUptoRow : OpenClaim := { program := "ytfajabboibcgpaa", sum := "d71f9f773288a48b4fef7ed93fe1d7d0fd4f9496a94ab364b60c93de5a3573dc", func := "loop.example/g00537/laws.FnExactTakeOut", spec := "fnExactTakeOut", unfollowed := true, recurses := true, apart := false, narrowed := true }
def FnExactTakeOutUptoSaid : Prop := fnExactTakeOutUptoRow.holds Try.pinned (OpenSpec.upto fnExactTakeOutSpec)

/-- 'laws.FnExactShowSlot', WHERE WHAT IT READS IS OF BULK AT MOST 1048576: true; the input reads as it did. -/
def fnExactShowSlotUptoRow : OpenClaim := { program := "ytfajabboibcgpaa", sum := "d71f9f773288a48b4fef7ed93fe1d7d0fd4f9496a94ab364b60c93de5a3573dc", func := "loop.example/g00537/laws.FnExactShowSlot", spec := "fnExactShowSlot", unfollowed := true, recurses := true, apart := false, narrowed := true }
def FnExactShowSlotUptoSaid : Prop := fnExactShowSlotUptoRow.holds Try.pinned (OpenSpec.upto fnExactShowSlotSpec)

/-- 'laws.FnExactCheckKey', WHERE WHAT IT READS IS OF BULK AT MOST 1048576: true; the input reads as it did. -/
def fnExactCheckKeyUptoRow : OpenClaim := { program := "ytfajabboibcgpaa", sum := "d71f9f773288a48b4fef7ed93fe1d7d0fd4f9496a94ab364b60c93de5a3573dc", func := "loop.example/g00537/laws.FnExactCheckKey", spec := "fnExactCheckKey", unfollowed := true, recurses := true, apart := false, narrowed := true }
def FnExactCheckKeyUptoSaid : Prop := fnExactCheckKeyUptoRow.holds Try.pinned (OpenSpec.upto fnExactCheckKeySpec)

/-- 'laws.FnOnce', WHERE WHAT IT READS IS OF BULK AT MOST 1048576: true; the input reads as it did. -/
def fnOnceUptoRow : OpenClaim := { program := "ytfajabboibcgpaa", sum := "d71f9f773288a48b4fef7ed93fe1d7d0fd4f9496a94ab364b60c93de5a3573dc", func := "loop.example/g00537/laws.FnOnce", spec := "fnOnce", unfollowed := true, recurses := true, apart := false, narrowed := true }
def FnOnceUptoSaid : Prop := fnOnceUptoRow.holds Try.pinned (OpenSpec.upto fnOnceSpec)

end Rows
end Go.Proofs.Ytfajabboibcgpaa

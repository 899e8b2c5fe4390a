/-
  No cell of these rows narrows 'for every input' (looked for: loops, veiled, ifaces, maps, wideKeys, modest, calm, conditions, laid).
  DERIVED. THE GIVEN ROWS OF THIS SEAT. 9 by the template 'for every input the law returns true; each argument reads behind the call as it read before'; 0 by the template 'total and deterministic' (their statements: YtnjijefhnmnjgaaTotals.lean).
  GIVEN WITH THE SEED: the statements are not yours to turn. If you find one false, say at which input.
  Laid BY PROGRAM, IN A SANDBOX (cutbox-rows.mjs): the forced cells as the released guide's own fill.sh prints them over the translation 567b470dd41c311d… (all of the seat's roots in one cut). By AI agents, Wed Nov 11 2026. No macro, syntax, notation, axiom, sorry.
-/
import Derived.Test.YtnjijefhnmnjgaaChecked
import GoSem.Claim
import GoSem.ClaimJoined
import GoSem.ClaimMapViews
import Derived.JoinedTies
import Derived.KernelRfl
namespace Go.Proofs.Ytnjijefhnmnjgaa
/- THE CELL 'sum', in the pinned program and in every row, IS THE sha256 OF THE DUMP (.gsa) THAT YtnjijefhnmnjgaaProg.lean LOADS. Nothing in Lean hashes anything: it is a label: what it is worth is what the hold of that sum in a sandbox is worth. -/
noncomputable def Try.pinned : Pinned := { name := "ytnjijefhnmnjgaa", sum := "567b470dd41c311d9034332063a8ec3438f56d9259e77425b387be6ed33d4543", checked := Try.checked }
namespace Rows
def none {H : Type} : Left H := { results := [], args := [] }

/-- 'butterylaw03.ChecksumSums': WHATEVER THE INPUT: true; the input reads as it did. -/
def checksumSumsSpec : ChangeSpec := { name := "checksumSums", fn := fun _ => fun
  | [d1, d2] => { results := [.lit (.bool true)], args := [d1, d2] }
  | _ => none }
def checksumSumsRow : OpenClaim := { program := "ytnjijefhnmnjgaa", sum := "567b470dd41c311d9034332063a8ec3438f56d9259e77425b387be6ed33d4543", func := "buttery/butterylaw03.ChecksumSums", spec := "checksumSums", apart := false }
def ChecksumSumsSaid : Prop := checksumSumsRow.holds Try.pinned (OpenSpec.ofChange checksumSumsSpec)

/-- ITS FALSE NEIGHBOUR: 'it returns false'. Refute it at one input. -/
def checksumSumsWrong : ChangeSpec := { name := "checksumSums", fn := fun _ => fun
  | [d1, d2] => { results := [.lit (.bool false)], args := [d1, d2] }
  | _ => none }
def ChecksumSumsWrongFalsely : Prop := checksumSumsRow.holds Try.pinned (OpenSpec.ofChange checksumSumsWrong)

/-- 'butterylaw03.ChecksumParts': WHATEVER THE INPUT: true; the input reads as it did. -/
def checksumPartsSpec : ChangeSpec := { name := "checksumParts", fn := fun _ => fun
  | [d1, d2] => { results := [.lit (.bool true)], args := [d1, d2] }
  | _ => none }
def checksumPartsRow : OpenClaim := { program := "ytnjijefhnmnjgaa", sum := "567b470dd41c311d9034332063a8ec3438f56d9259e77425b387be6ed33d4543", func := "buttery/butterylaw03.ChecksumParts", spec := "checksumParts", apart := false }
def ChecksumPartsSaid : Prop := checksumPartsRow.holds Try.pinned (OpenSpec.ofChange checksumPartsSpec)

/-- ITS FALSE NEIGHBOUR: 'it returns false'. Refute it at one input. -/
def checksumPartsWrong : ChangeSpec := { name := "checksumParts", fn := fun _ => fun
  | [d1, d2] => { results := [.lit (.bool false)], args := [d1, d2] }
  | _ => none }
def ChecksumPartsWrongFalsely : Prop := checksumPartsRow.holds Try.pinned (OpenSpec.ofChange checksumPartsWrong)

/-- 'butterylaw03.ChecksumTells': WHATEVER THE INPUT: true; the input reads as it did. -/
def checksumTellsSpec : ChangeSpec := { name := "checksumTells", fn := fun _ => fun
  | [d1, d2, d3] => { results := [.lit (.bool true)], args := [d1, d2, d3] }
  | _ => none }
def checksumTellsRow : OpenClaim := { program := "ytnjijefhnmnjgaa", sum := "567b470dd41c311d9034332063a8ec3438f56d9259e77425b387be6ed33d4543", func := "buttery/butterylaw03.ChecksumTells", spec := "checksumTells", apart := false }
def ChecksumTellsSaid : Prop := checksumTellsRow.holds Try.pinned (OpenSpec.ofChange checksumTellsSpec)

/-- ITS FALSE NEIGHBOUR: 'it returns false'. Refute it at one input. -/
def checksumTellsWrong : ChangeSpec := { name := "checksumTells", fn := fun _ => fun
  | [d1, d2, d3] => { results := [.lit (.bool false)], args := [d1, d2, d3] }
  | _ => none }
def ChecksumTellsWrongFalsely : Prop := checksumTellsRow.holds Try.pinned (OpenSpec.ofChange checksumTellsWrong)

/-- 'butterylaw03.ChecksumLinear': WHATEVER THE INPUT: true; the input reads as it did. -/
def checksumLinearSpec : ChangeSpec := { name := "checksumLinear", fn := fun _ => fun
  | [d1, d2, d3] => { results := [.lit (.bool true)], args := [d1, d2, d3] }
  | _ => none }
def checksumLinearRow : OpenClaim := { program := "ytnjijefhnmnjgaa", sum := "567b470dd41c311d9034332063a8ec3438f56d9259e77425b387be6ed33d4543", func := "buttery/butterylaw03.ChecksumLinear", spec := "checksumLinear", apart := false }
def ChecksumLinearSaid : Prop := checksumLinearRow.holds Try.pinned (OpenSpec.ofChange checksumLinearSpec)

/-- ITS FALSE NEIGHBOUR: 'it returns false'. Refute it at one input. -/
def checksumLinearWrong : ChangeSpec := { name := "checksumLinear", fn := fun _ => fun
  | [d1, d2, d3] => { results := [.lit (.bool false)], args := [d1, d2, d3] }
  | _ => none }
def ChecksumLinearWrongFalsely : Prop := checksumLinearRow.holds Try.pinned (OpenSpec.ofChange checksumLinearWrong)

/-- 'butterylaw07.BloomHashes': WHATEVER THE INPUT: true; the input reads as it did. -/
def bloomHashesSpec : ChangeSpec := { name := "bloomHashes", fn := fun _ => fun
  | [d1, d2, d3] => { results := [.lit (.bool true)], args := [d1, d2, d3] }
  | _ => none }
def bloomHashesRow : OpenClaim := { program := "ytnjijefhnmnjgaa", sum := "567b470dd41c311d9034332063a8ec3438f56d9259e77425b387be6ed33d4543", func := "buttery/butterylaw07.BloomHashes", spec := "bloomHashes", apart := false }
def BloomHashesSaid : Prop := bloomHashesRow.holds Try.pinned (OpenSpec.ofChange bloomHashesSpec)

/-- ITS FALSE NEIGHBOUR: 'it returns false'. Refute it at one input. -/
def bloomHashesWrong : ChangeSpec := { name := "bloomHashes", fn := fun _ => fun
  | [d1, d2, d3] => { results := [.lit (.bool false)], args := [d1, d2, d3] }
  | _ => none }
def BloomHashesWrongFalsely : Prop := bloomHashesRow.holds Try.pinned (OpenSpec.ofChange bloomHashesWrong)

/-- 'butterylaw07.BloomFilters': WHATEVER THE INPUT: true; the input reads as it did. -/
def bloomFiltersSpec : ChangeSpec := { name := "bloomFilters", fn := fun _ => fun
  | [d1, d2, d3] => { results := [.lit (.bool true)], args := [d1, d2, d3] }
  | _ => none }
def bloomFiltersRow : OpenClaim := { program := "ytnjijefhnmnjgaa", sum := "567b470dd41c311d9034332063a8ec3438f56d9259e77425b387be6ed33d4543", func := "buttery/butterylaw07.BloomFilters", spec := "bloomFilters", apart := false }
def BloomFiltersSaid : Prop := bloomFiltersRow.holds Try.pinned (OpenSpec.ofChange bloomFiltersSpec)

/-- ITS FALSE NEIGHBOUR: 'it returns false'. Refute it at one input. -/
def bloomFiltersWrong : ChangeSpec := { name := "bloomFilters", fn := fun _ => fun
  | [d1, d2, d3] => { results := [.lit (.bool false)], args := [d1, d2, d3] }
  | _ => none }
def BloomFiltersWrongFalsely : Prop := bloomFiltersRow.holds Try.pinned (OpenSpec.ofChange bloomFiltersWrong)

/-- 'butterylaw07.BloomHas': WHATEVER THE INPUT: true; the input reads as it did. -/
def bloomHasSpec : ChangeSpec := { name := "bloomHas", fn := fun _ => fun
  | [d1, d2, d3] => { results := [.lit (.bool true)], args := [d1, d2, d3] }
  | _ => none }
def bloomHasRow : OpenClaim := { program := "ytnjijefhnmnjgaa", sum := "567b470dd41c311d9034332063a8ec3438f56d9259e77425b387be6ed33d4543", func := "buttery/butterylaw07.BloomHas", spec := "bloomHas", apart := false }
def BloomHasSaid : Prop := bloomHasRow.holds Try.pinned (OpenSpec.ofChange bloomHasSpec)

/-- ITS FALSE NEIGHBOUR: 'it returns false'. Refute it at one input. -/
def bloomHasWrong : ChangeSpec := { name := "bloomHas", fn := fun _ => fun
  | [d1, d2, d3] => { results := [.lit (.bool false)], args := [d1, d2, d3] }
  | _ => none }
def BloomHasWrongFalsely : Prop := bloomHasRow.holds Try.pinned (OpenSpec.ofChange bloomHasWrong)

/-- 'butterylaw07.BloomOrder': WHATEVER THE INPUT: true; the input reads as it did. -/
def bloomOrderSpec : ChangeSpec := { name := "bloomOrder", fn := fun _ => fun
  | [d] => { results := [.lit (.bool true)], args := [d] }
  | _ => none }
def bloomOrderRow : OpenClaim := { program := "ytnjijefhnmnjgaa", sum := "567b470dd41c311d9034332063a8ec3438f56d9259e77425b387be6ed33d4543", func := "buttery/butterylaw07.BloomOrder", spec := "bloomOrder", apart := false }
def BloomOrderSaid : Prop := bloomOrderRow.holds Try.pinned (OpenSpec.ofChange bloomOrderSpec)

/-- ITS FALSE NEIGHBOUR: 'it returns false'. Refute it at one input. -/
def bloomOrderWrong : ChangeSpec := { name := "bloomOrder", fn := fun _ => fun
  | [d] => { results := [.lit (.bool false)], args := [d] }
  | _ => none }
def BloomOrderWrongFalsely : Prop := bloomOrderRow.holds Try.pinned (OpenSpec.ofChange bloomOrderWrong)

/-- 'butterylaw07.BloomStirs': WHATEVER THE INPUT: true; the input reads as it did. -/
def bloomStirsSpec : ChangeSpec := { name := "bloomStirs", fn := fun _ => fun
  | [d1, d2] => { results := [.lit (.bool true)], args := [d1, d2] }
  | _ => none }
def bloomStirsRow : OpenClaim := { program := "ytnjijefhnmnjgaa", sum := "567b470dd41c311d9034332063a8ec3438f56d9259e77425b387be6ed33d4543", func := "buttery/butterylaw07.BloomStirs", spec := "bloomStirs", apart := false }
def BloomStirsSaid : Prop := bloomStirsRow.holds Try.pinned (OpenSpec.ofChange bloomStirsSpec)

/-- ITS FALSE NEIGHBOUR: 'it returns false'. Refute it at one input. -/
def bloomStirsWrong : ChangeSpec := { name := "bloomStirs", fn := fun _ => fun
  | [d1, d2] => { results := [.lit (.bool false)], args := [d1, d2] }
  | _ => none }
def BloomStirsWrongFalsely : Prop := bloomStirsRow.holds Try.pinned (OpenSpec.ofChange bloomStirsWrong)

/- THE SECOND FORM. 'bulk': how many values and letters a reading holds, each counted each time it is reached (what is shared counts as often as it is met; a slice's spare places count too). A statement '..UptoSaid' is the law's where the arguments, and the package variables that the reading takes, are together of bulk at most 1048576: NARROWER than '..Said'. Prove '..Said' where nothing that the law and all that it calls make is longer than what came in: it says more and counts as full. Else prove '..UptoSaid'. A law counts once. -/
mutual
def uptoBulk {H : Type} : DataW H → Nat
  | .lit (.string bytes) => bytes.length + 1
  | .lit _ => 1
  | .nil => 1
  | .ptr d => uptoBulk d + 1
  | .slice elems spare => uptoBulkAll elems + uptoBulkAll spare + 1
  | .agg parts => uptoBulkAll parts + 1
  | .iface _ d => uptoBulk d + 1
  | .map entries => uptoBulkEntries entries + 1
  | .held _ => 1
def uptoBulkAll {H : Type} : List (DataW H) → Nat
  | [] => 0
  | d :: r => uptoBulk d + uptoBulkAll r
def uptoBulkEntries {H : Type} : List (Lit × DataW H) → Nat
  | [] => 0
  | x :: r => uptoBulkEntry x + uptoBulkEntries r
def uptoBulkEntry {H : Type} : Lit × DataW H → Nat
  | (.string bytes, d) => bytes.length + uptoBulk d + 1
  | (_, d) => uptoBulk d + 1
 end
def uptoSmall : (H : Type) → List (DataW H) → Bool := fun _ ds => decide (uptoBulkAll ds ≤ 1048576)
def OpenSpec.upto (s : _root_.Go.ChangeSpec) : _root_.Go.OpenSpec := { _root_.Go.OpenSpec.ofChange s with cond := some uptoSmall }

/-- 'butterylaw03.ChecksumSums', WHERE WHAT IT READS IS OF BULK AT MOST 1048576: true; the input reads as it did. -/
def checksumSumsUptoRow : OpenClaim := { program := "ytnjijefhnmnjgaa", sum := "567b470dd41c311d9034332063a8ec3438f56d9259e77425b387be6ed33d4543", func := "buttery/butterylaw03.ChecksumSums", spec := "checksumSums", apart := false, narrowed := true }
def ChecksumSumsUptoSaid : Prop := checksumSumsUptoRow.holds Try.pinned (OpenSpec.upto checksumSumsSpec)

/-- 'butterylaw03.ChecksumParts', WHERE WHAT IT READS IS OF BULK AT MOST 1048576: true; the input reads as it did. -/
def checksumPartsUptoRow : OpenClaim := { program := "ytnjijefhnmnjgaa", sum := "567b470dd41c311d9034332063a8ec3438f56d9259e77425b387be6ed33d4543", func := "buttery/butterylaw03.ChecksumParts", spec := "checksumParts", apart := false, narrowed := true }
def ChecksumPartsUptoSaid : Prop := checksumPartsUptoRow.holds Try.pinned (OpenSpec.upto checksumPartsSpec)

/-- 'butterylaw03.ChecksumTells', WHERE WHAT IT READS IS OF BULK AT MOST 1048576: true; the input reads as it did. -/
def checksumTellsUptoRow : OpenClaim := { program := "ytnjijefhnmnjgaa", sum := "567b470dd41c311d9034332063a8ec3438f56d9259e77425b387be6ed33d4543", func := "buttery/butterylaw03.ChecksumTells", spec := "checksumTells", apart := false, narrowed := true }
def ChecksumTellsUptoSaid : Prop := checksumTellsUptoRow.holds Try.pinned (OpenSpec.upto checksumTellsSpec)

/-- 'butterylaw03.ChecksumLinear', WHERE WHAT IT READS IS OF BULK AT MOST 1048576: true; the input reads as it did. -/
def checksumLinearUptoRow : OpenClaim := { program := "ytnjijefhnmnjgaa", sum := "567b470dd41c311d9034332063a8ec3438f56d9259e77425b387be6ed33d4543", func := "buttery/butterylaw03.ChecksumLinear", spec := "checksumLinear", apart := false, narrowed := true }
def ChecksumLinearUptoSaid : Prop := checksumLinearUptoRow.holds Try.pinned (OpenSpec.upto checksumLinearSpec)

/-- 'butterylaw07.BloomHashes', WHERE WHAT IT READS IS OF BULK AT MOST 1048576: true; the input reads as it did. -/
def bloomHashesUptoRow : OpenClaim := { program := "ytnjijefhnmnjgaa", sum := "567b470dd41c311d9034332063a8ec3438f56d9259e77425b387be6ed33d4543", func := "buttery/butterylaw07.BloomHashes", spec := "bloomHashes", apart := false, narrowed := true }
def BloomHashesUptoSaid : Prop := bloomHashesUptoRow.holds Try.pinned (OpenSpec.upto bloomHashesSpec)

/-- 'butterylaw07.BloomFilters', WHERE WHAT IT READS IS OF BULK AT MOST 1048576: true; the input reads as it did. -/
def bloomFiltersUptoRow : OpenClaim := { program := "ytnjijefhnmnjgaa", sum := "567b470dd41c311d9034332063a8ec3438f56d9259e77425b387be6ed33d4543", func := "buttery/butterylaw07.BloomFilters", spec := "bloomFilters", apart := false, narrowed := true }
def BloomFiltersUptoSaid : Prop := bloomFiltersUptoRow.holds Try.pinned (OpenSpec.upto bloomFiltersSpec)

/-- 'butterylaw07.BloomHas', WHERE WHAT IT READS IS OF BULK AT MOST 1048576: true; the input reads as it did. -/
def bloomHasUptoRow : OpenClaim := { program := "ytnjijefhnmnjgaa", sum := "567b470dd41c311d9034332063a8ec3438f56d9259e77425b387be6ed33d4543", func := "buttery/butterylaw07.BloomHas", spec := "bloomHas", apart := false, narrowed := true }
def BloomHasUptoSaid : Prop := bloomHasUptoRow.holds Try.pinned (OpenSpec.upto bloomHasSpec)

/-- 'butterylaw07.BloomOrder', WHERE WHAT IT READS IS OF BULK AT MOST 1048576: true; the input reads as it did. -/
def bloomOrderUptoRow : OpenClaim := { program := "ytnjijefhnmnjgaa", sum := "567b470dd41c311d9034332063a8ec3438f56d9259e77425b387be6ed33d4543", func := "buttery/butterylaw07.BloomOrder", spec := "bloomOrder", apart := false, narrowed := true }
def BloomOrderUptoSaid : Prop := bloomOrderUptoRow.holds Try.pinned (OpenSpec.upto bloomOrderSpec)

/-- 'butterylaw07.BloomStirs', WHERE WHAT IT READS IS OF BULK AT MOST 1048576: true; the input reads as it did. -/
def bloomStirsUptoRow : OpenClaim := { program := "ytnjijefhnmnjgaa", sum := "567b470dd41c311d9034332063a8ec3438f56d9259e77425b387be6ed33d4543", func := "buttery/butterylaw07.BloomStirs", spec := "bloomStirs", apart := false, narrowed := true }
def BloomStirsUptoSaid : Prop := bloomStirsUptoRow.holds Try.pinned (OpenSpec.upto bloomStirsSpec)

end Rows
end Go.Proofs.Ytnjijefhnmnjgaa

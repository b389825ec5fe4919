/-
  No cell of these rows narrows 'for every input' (looked for: loops, veiled, ifaces, maps, wideKeys, modest, calm, conditions, laid).
  DERIVED. THE GIVEN ROWS OF THIS SEAT. 12 by the template 'for every input the law returns true; each argument reads behind the call as it read before'; 0 by the template 'total and deterministic' (their statements: YthphelbkfgbejaaTotals.lean).
  GIVEN WITH THE SEED: the statements are not yours to turn. If you find one false, say at which input.
  Laid BY PROGRAM, IN A SANDBOX (cutbox-rows.mjs): the forced cells as the released guide's own fill.sh prints them over the translation 83bb9435c06ab922… (all of the seat's roots in one cut). By AI agents, Wed Nov 11 2026. No macro, syntax, notation, axiom, sorry.
-/
import Derived.Test.YthphelbkfgbejaaChecked
import GoSem.Claim
import GoSem.ClaimJoined
import GoSem.ClaimMapViews
import Derived.JoinedTies
import Derived.KernelRfl
namespace Go.Proofs.Ythphelbkfgbejaa
/- THE CELL 'sum', in the pinned program and in every row, IS THE sha256 OF THE DUMP (.gsa) THAT YthphelbkfgbejaaProg.lean LOADS. Nothing in Lean hashes anything: it is a label: what it is worth is what the hold of that sum in a sandbox is worth. -/
noncomputable def Try.pinned : Pinned := { name := "ythphelbkfgbejaa", sum := "83bb9435c06ab9220b0d39cdb0bef0d4fb137c298756f6a6aa7141ce4bd65f23", checked := Try.checked }
namespace Rows
def none {H : Type} : Left H := { results := [], args := [] }

/-- 'transeptlaw01.OctetsApart': WHATEVER THE INPUT: true; the input reads as it did. -/
def octetsApartSpec : ChangeSpec := { name := "octetsApart", fn := fun _ => fun
  | [d1, d2, d3] => { results := [.lit (.bool true)], args := [d1, d2, d3] }
  | _ => none }
def octetsApartRow : OpenClaim := { program := "ythphelbkfgbejaa", sum := "83bb9435c06ab9220b0d39cdb0bef0d4fb137c298756f6a6aa7141ce4bd65f23", func := "transept/transeptlaw01.OctetsApart", spec := "octetsApart", unfollowed := true, recurses := true, apart := false }
def OctetsApartSaid : Prop := octetsApartRow.holds Try.pinned (OpenSpec.ofChange octetsApartSpec)

/-- ITS FALSE NEIGHBOUR: 'it returns false'. Refute it at one input. -/
def octetsApartWrong : ChangeSpec := { name := "octetsApart", fn := fun _ => fun
  | [d1, d2, d3] => { results := [.lit (.bool false)], args := [d1, d2, d3] }
  | _ => none }
def OctetsApartWrongFalsely : Prop := octetsApartRow.holds Try.pinned (OpenSpec.ofChange octetsApartWrong)

/-- 'transeptlaw01.OctetsCuts': WHATEVER THE INPUT: true; the input reads as it did. -/
def octetsCutsSpec : ChangeSpec := { name := "octetsCuts", fn := fun _ => fun
  | [d1, d2] => { results := [.lit (.bool true)], args := [d1, d2] }
  | _ => none }
def octetsCutsRow : OpenClaim := { program := "ythphelbkfgbejaa", sum := "83bb9435c06ab9220b0d39cdb0bef0d4fb137c298756f6a6aa7141ce4bd65f23", func := "transept/transeptlaw01.OctetsCuts", spec := "octetsCuts", unfollowed := true, recurses := true, apart := false }
def OctetsCutsSaid : Prop := octetsCutsRow.holds Try.pinned (OpenSpec.ofChange octetsCutsSpec)

/-- ITS FALSE NEIGHBOUR: 'it returns false'. Refute it at one input. -/
def octetsCutsWrong : ChangeSpec := { name := "octetsCuts", fn := fun _ => fun
  | [d1, d2] => { results := [.lit (.bool false)], args := [d1, d2] }
  | _ => none }
def OctetsCutsWrongFalsely : Prop := octetsCutsRow.holds Try.pinned (OpenSpec.ofChange octetsCutsWrong)

/-- 'transeptlaw01.OctetsOwn': WHATEVER THE INPUT: true; the input reads as it did. -/
def octetsOwnSpec : ChangeSpec := { name := "octetsOwn", fn := fun _ => fun
  | [d1, d2] => { results := [.lit (.bool true)], args := [d1, d2] }
  | _ => none }
def octetsOwnRow : OpenClaim := { program := "ythphelbkfgbejaa", sum := "83bb9435c06ab9220b0d39cdb0bef0d4fb137c298756f6a6aa7141ce4bd65f23", func := "transept/transeptlaw01.OctetsOwn", spec := "octetsOwn", unfollowed := true, recurses := true, apart := false }
def OctetsOwnSaid : Prop := octetsOwnRow.holds Try.pinned (OpenSpec.ofChange octetsOwnSpec)

/-- ITS FALSE NEIGHBOUR: 'it returns false'. Refute it at one input. -/
def octetsOwnWrong : ChangeSpec := { name := "octetsOwn", fn := fun _ => fun
  | [d1, d2] => { results := [.lit (.bool false)], args := [d1, d2] }
  | _ => none }
def OctetsOwnWrongFalsely : Prop := octetsOwnRow.holds Try.pinned (OpenSpec.ofChange octetsOwnWrong)

/-- 'transeptlaw01.OctetsBack': WHATEVER THE INPUT: true; the input reads as it did. -/
def octetsBackSpec : ChangeSpec := { name := "octetsBack", fn := fun _ => fun
  | [d1, d2, d3] => { results := [.lit (.bool true)], args := [d1, d2, d3] }
  | _ => none }
def octetsBackRow : OpenClaim := { program := "ythphelbkfgbejaa", sum := "83bb9435c06ab9220b0d39cdb0bef0d4fb137c298756f6a6aa7141ce4bd65f23", func := "transept/transeptlaw01.OctetsBack", spec := "octetsBack", unfollowed := true, recurses := true, apart := false }
def OctetsBackSaid : Prop := octetsBackRow.holds Try.pinned (OpenSpec.ofChange octetsBackSpec)

/-- ITS FALSE NEIGHBOUR: 'it returns false'. Refute it at one input. -/
def octetsBackWrong : ChangeSpec := { name := "octetsBack", fn := fun _ => fun
  | [d1, d2, d3] => { results := [.lit (.bool false)], args := [d1, d2, d3] }
  | _ => none }
def OctetsBackWrongFalsely : Prop := octetsBackRow.holds Try.pinned (OpenSpec.ofChange octetsBackWrong)

/-- 'transeptlaw01.OctetsBits': WHATEVER THE INPUT: true; the input reads as it did. -/
def octetsBitsSpec : ChangeSpec := { name := "octetsBits", fn := fun _ => fun
  | [d1, d2, d3] => { results := [.lit (.bool true)], args := [d1, d2, d3] }
  | _ => none }
def octetsBitsRow : OpenClaim := { program := "ythphelbkfgbejaa", sum := "83bb9435c06ab9220b0d39cdb0bef0d4fb137c298756f6a6aa7141ce4bd65f23", func := "transept/transeptlaw01.OctetsBits", spec := "octetsBits", unfollowed := true, recurses := true, apart := false }
def OctetsBitsSaid : Prop := octetsBitsRow.holds Try.pinned (OpenSpec.ofChange octetsBitsSpec)

/-- ITS FALSE NEIGHBOUR: 'it returns false'. Refute it at one input. -/
def octetsBitsWrong : ChangeSpec := { name := "octetsBits", fn := fun _ => fun
  | [d1, d2, d3] => { results := [.lit (.bool false)], args := [d1, d2, d3] }
  | _ => none }
def OctetsBitsWrongFalsely : Prop := octetsBitsRow.holds Try.pinned (OpenSpec.ofChange octetsBitsWrong)

/-- 'transeptlaw01.OctetsTells': WHATEVER THE INPUT: true; the input reads as it did. -/
def octetsTellsSpec : ChangeSpec := { name := "octetsTells", fn := fun _ => fun
  | [d1, d2, d3, d4] => { results := [.lit (.bool true)], args := [d1, d2, d3, d4] }
  | _ => none }
def octetsTellsRow : OpenClaim := { program := "ythphelbkfgbejaa", sum := "83bb9435c06ab9220b0d39cdb0bef0d4fb137c298756f6a6aa7141ce4bd65f23", func := "transept/transeptlaw01.OctetsTells", spec := "octetsTells", unfollowed := true, recurses := true, apart := false }
def OctetsTellsSaid : Prop := octetsTellsRow.holds Try.pinned (OpenSpec.ofChange octetsTellsSpec)

/-- ITS FALSE NEIGHBOUR: 'it returns false'. Refute it at one input. -/
def octetsTellsWrong : ChangeSpec := { name := "octetsTells", fn := fun _ => fun
  | [d1, d2, d3, d4] => { results := [.lit (.bool false)], args := [d1, d2, d3, d4] }
  | _ => none }
def OctetsTellsWrongFalsely : Prop := octetsTellsRow.holds Try.pinned (OpenSpec.ofChange octetsTellsWrong)

/-- 'transeptlaw03.FramesFinds': WHATEVER THE INPUT: true; the input reads as it did. -/
def framesFindsSpec : ChangeSpec := { name := "framesFinds", fn := fun _ => fun
  | [d1, d2] => { results := [.lit (.bool true)], args := [d1, d2] }
  | _ => none }
def framesFindsRow : OpenClaim := { program := "ythphelbkfgbejaa", sum := "83bb9435c06ab9220b0d39cdb0bef0d4fb137c298756f6a6aa7141ce4bd65f23", func := "transept/transeptlaw03.FramesFinds", spec := "framesFinds", unfollowed := true, recurses := true, apart := false }
def FramesFindsSaid : Prop := framesFindsRow.holds Try.pinned (OpenSpec.ofChange framesFindsSpec)

/-- ITS FALSE NEIGHBOUR: 'it returns false'. Refute it at one input. -/
def framesFindsWrong : ChangeSpec := { name := "framesFinds", fn := fun _ => fun
  | [d1, d2] => { results := [.lit (.bool false)], args := [d1, d2] }
  | _ => none }
def FramesFindsWrongFalsely : Prop := framesFindsRow.holds Try.pinned (OpenSpec.ofChange framesFindsWrong)

/-- 'transeptlaw03.FramesOwn': WHATEVER THE INPUT: true; the input reads as it did. -/
def framesOwnSpec : ChangeSpec := { name := "framesOwn", fn := fun _ => fun
  | [d] => { results := [.lit (.bool true)], args := [d] }
  | _ => none }
def framesOwnRow : OpenClaim := { program := "ythphelbkfgbejaa", sum := "83bb9435c06ab9220b0d39cdb0bef0d4fb137c298756f6a6aa7141ce4bd65f23", func := "transept/transeptlaw03.FramesOwn", spec := "framesOwn", unfollowed := true, recurses := true, apart := false }
def FramesOwnSaid : Prop := framesOwnRow.holds Try.pinned (OpenSpec.ofChange framesOwnSpec)

/-- ITS FALSE NEIGHBOUR: 'it returns false'. Refute it at one input. -/
def framesOwnWrong : ChangeSpec := { name := "framesOwn", fn := fun _ => fun
  | [d] => { results := [.lit (.bool false)], args := [d] }
  | _ => none }
def FramesOwnWrongFalsely : Prop := framesOwnRow.holds Try.pinned (OpenSpec.ofChange framesOwnWrong)

/-- 'transeptlaw03.FramesTells': WHATEVER THE INPUT: true; the input reads as it did. -/
def framesTellsSpec : ChangeSpec := { name := "framesTells", fn := fun _ => fun
  | [d1, d2] => { results := [.lit (.bool true)], args := [d1, d2] }
  | _ => none }
def framesTellsRow : OpenClaim := { program := "ythphelbkfgbejaa", sum := "83bb9435c06ab9220b0d39cdb0bef0d4fb137c298756f6a6aa7141ce4bd65f23", func := "transept/transeptlaw03.FramesTells", spec := "framesTells", unfollowed := true, recurses := true, apart := false }
def FramesTellsSaid : Prop := framesTellsRow.holds Try.pinned (OpenSpec.ofChange framesTellsSpec)

/-- ITS FALSE NEIGHBOUR: 'it returns false'. Refute it at one input. -/
def framesTellsWrong : ChangeSpec := { name := "framesTells", fn := fun _ => fun
  | [d1, d2] => { results := [.lit (.bool false)], args := [d1, d2] }
  | _ => none }
def FramesTellsWrongFalsely : Prop := framesTellsRow.holds Try.pinned (OpenSpec.ofChange framesTellsWrong)

/-- 'transeptlaw03.FramesBack': WHATEVER THE INPUT: true; the input reads as it did. -/
def framesBackSpec : ChangeSpec := { name := "framesBack", fn := fun _ => fun
  | [d] => { results := [.lit (.bool true)], args := [d] }
  | _ => none }
def framesBackRow : OpenClaim := { program := "ythphelbkfgbejaa", sum := "83bb9435c06ab9220b0d39cdb0bef0d4fb137c298756f6a6aa7141ce4bd65f23", func := "transept/transeptlaw03.FramesBack", spec := "framesBack", unfollowed := true, recurses := true, apart := false }
def FramesBackSaid : Prop := framesBackRow.holds Try.pinned (OpenSpec.ofChange framesBackSpec)

/-- ITS FALSE NEIGHBOUR: 'it returns false'. Refute it at one input. -/
def framesBackWrong : ChangeSpec := { name := "framesBack", fn := fun _ => fun
  | [d] => { results := [.lit (.bool false)], args := [d] }
  | _ => none }
def FramesBackWrongFalsely : Prop := framesBackRow.holds Try.pinned (OpenSpec.ofChange framesBackWrong)

/-- 'transeptlaw03.FramesTorn': WHATEVER THE INPUT: true; the input reads as it did. -/
def framesTornSpec : ChangeSpec := { name := "framesTorn", fn := fun _ => fun
  | [d1, d2] => { results := [.lit (.bool true)], args := [d1, d2] }
  | _ => none }
def framesTornRow : OpenClaim := { program := "ythphelbkfgbejaa", sum := "83bb9435c06ab9220b0d39cdb0bef0d4fb137c298756f6a6aa7141ce4bd65f23", func := "transept/transeptlaw03.FramesTorn", spec := "framesTorn", unfollowed := true, recurses := true, apart := false }
def FramesTornSaid : Prop := framesTornRow.holds Try.pinned (OpenSpec.ofChange framesTornSpec)

/-- ITS FALSE NEIGHBOUR: 'it returns false'. Refute it at one input. -/
def framesTornWrong : ChangeSpec := { name := "framesTorn", fn := fun _ => fun
  | [d1, d2] => { results := [.lit (.bool false)], args := [d1, d2] }
  | _ => none }
def FramesTornWrongFalsely : Prop := framesTornRow.holds Try.pinned (OpenSpec.ofChange framesTornWrong)

/-- 'transeptlaw03.FramesJoined': WHATEVER THE INPUT: true; the input reads as it did. -/
def framesJoinedSpec : ChangeSpec := { name := "framesJoined", fn := fun _ => fun
  | [d1, d2] => { results := [.lit (.bool true)], args := [d1, d2] }
  | _ => none }
def framesJoinedRow : OpenClaim := { program := "ythphelbkfgbejaa", sum := "83bb9435c06ab9220b0d39cdb0bef0d4fb137c298756f6a6aa7141ce4bd65f23", func := "transept/transeptlaw03.FramesJoined", spec := "framesJoined", unfollowed := true, recurses := true, apart := false }
def FramesJoinedSaid : Prop := framesJoinedRow.holds Try.pinned (OpenSpec.ofChange framesJoinedSpec)

/-- ITS FALSE NEIGHBOUR: 'it returns false'. Refute it at one input. -/
def framesJoinedWrong : ChangeSpec := { name := "framesJoined", fn := fun _ => fun
  | [d1, d2] => { results := [.lit (.bool false)], args := [d1, d2] }
  | _ => none }
def FramesJoinedWrongFalsely : Prop := framesJoinedRow.holds Try.pinned (OpenSpec.ofChange framesJoinedWrong)

/- THE SECOND FORM. 'bulk': how many values and letters a reading holds, each counted each time it is reached (what is shared counts as often as it is met; a slice's spare places count too). A statement '..UptoSaid' is the law's where the arguments, and the package variables that the reading takes, are together of bulk at most 1048576: NARROWER than '..Said'. Prove '..Said' where nothing that the law and all that it calls make is longer than what came in: it says more and counts as full. Else prove '..UptoSaid'. A law counts once. -/
mutual
def uptoBulk {H : Type} : DataW H → Nat
  | .lit (.string bytes) => bytes.length + 1
  | .lit _ => 1
  | .nil => 1
  | .ptr d => uptoBulk d + 1
  | .slice elems spare => uptoBulkAll elems + uptoBulkAll spare + 1
  | .agg parts => uptoBulkAll parts + 1
  | .iface _ d => uptoBulk d + 1
  | .map entries => uptoBulkEntries entries + 1
  | .held _ => 1
def uptoBulkAll {H : Type} : List (DataW H) → Nat
  | [] => 0
  | d :: r => uptoBulk d + uptoBulkAll r
def uptoBulkEntries {H : Type} : List (Lit × DataW H) → Nat
  | [] => 0
  | x :: r => uptoBulkEntry x + uptoBulkEntries r
def uptoBulkEntry {H : Type} : Lit × DataW H → Nat
  | (.string bytes, d) => bytes.length + uptoBulk d + 1
  | (_, d) => uptoBulk d + 1
 end
def uptoSmall : (H : Type) → List (DataW H) → Bool := fun _ ds => decide (uptoBulkAll ds ≤ 1048576)
def OpenSpec.upto (s : _root_.Go.ChangeSpec) : _root_.Go.OpenSpec := { _root_.Go.OpenSpec.ofChange s with cond := some uptoSmall }

/-- 'transeptlaw01.OctetsApart', WHERE WHAT IT READS IS OF BULK AT MOST 1048576: true; the input reads as it did. -/
def octetsApartUptoRow : OpenClaim := { program := "ythphelbkfgbejaa", sum := "83bb9435c06ab9220b0d39cdb0bef0d4fb137c298756f6a6aa7141ce4bd65f23", func := "transept/transeptlaw01.OctetsApart", spec := "octetsApart", unfollowed := true, recurses := true, apart := false, narrowed := true }
def OctetsApartUptoSaid : Prop := octetsApartUptoRow.holds Try.pinned (OpenSpec.upto octetsApartSpec)

/-- 'transeptlaw01.OctetsCuts', WHERE WHAT IT READS IS OF BULK AT MOST 1048576: true; the input reads as it did. -/
def octetsCutsUptoRow : OpenClaim := { program := "ythphelbkfgbejaa", sum := "83bb9435c06ab9220b0d39cdb0bef0d4fb137c298756f6a6aa7141ce4bd65f23", func := "transept/transeptlaw01.OctetsCuts", spec := "octetsCuts", unfollowed := true, recurses := true, apart := false, narrowed := true }
def OctetsCutsUptoSaid : Prop := octetsCutsUptoRow.holds Try.pinned (OpenSpec.upto octetsCutsSpec)

/-- 'transeptlaw01.OctetsOwn', WHERE WHAT IT READS IS OF BULK AT MOST 1048576: true; the input reads as it did. -/
def octetsOwnUptoRow : OpenClaim := { program := "ythphelbkfgbejaa", sum := "83bb9435c06ab9220b0d39cdb0bef0d4fb137c298756f6a6aa7141ce4bd65f23", func := "transept/transeptlaw01.OctetsOwn", spec := "octetsOwn", unfollowed := true, recurses := true, apart := false, narrowed := true }
def OctetsOwnUptoSaid : Prop := octetsOwnUptoRow.holds Try.pinned (OpenSpec.upto octetsOwnSpec)

/-- 'transeptlaw01.OctetsBack', WHERE WHAT IT READS IS OF BULK AT MOST 1048576: true; the input reads as it did. -/
def octetsBackUptoRow : OpenClaim := { program := "ythphelbkfgbejaa", sum := "83bb9435c06ab9220b0d39cdb0bef0d4fb137c298756f6a6aa7141ce4bd65f23", func := "transept/transeptlaw01.OctetsBack", spec := "octetsBack", unfollowed := true, recurses := true, apart := false, narrowed := true }
def OctetsBackUptoSaid : Prop := octetsBackUptoRow.holds Try.pinned (OpenSpec.upto octetsBackSpec)

/-- 'transeptlaw01.OctetsBits', WHERE WHAT IT READS IS OF BULK AT MOST 1048576: true; the input reads as it did. -/
def octetsBitsUptoRow : OpenClaim := { program := "ythphelbkfgbejaa", sum := "83bb9435c06ab9220b0d39cdb0bef0d4fb137c298756f6a6aa7141ce4bd65f23", func := "transept/transeptlaw01.OctetsBits", spec := "octetsBits", unfollowed := true, recurses := true, apart := false, narrowed := true }
def OctetsBitsUptoSaid : Prop := octetsBitsUptoRow.holds Try.pinned (OpenSpec.upto octetsBitsSpec)

/-- 'transeptlaw01.OctetsTells', WHERE WHAT IT READS IS OF BULK AT MOST 1048576: true; the input reads as it did. -/
def octetsTellsUptoRow : OpenClaim := { program := "ythphelbkfgbejaa", sum := "83bb9435c06ab9220b0d39cdb0bef0d4fb137c298756f6a6aa7141ce4bd65f23", func := "transept/transeptlaw01.OctetsTells", spec := "octetsTells", unfollowed := true, recurses := true, apart := false, narrowed := true }
def OctetsTellsUptoSaid : Prop := octetsTellsUptoRow.holds Try.pinned (OpenSpec.upto octetsTellsSpec)

/-- 'transeptlaw03.FramesFinds', WHERE WHAT IT READS IS OF BULK AT MOST 1048576: true; the input reads as it did. -/
def framesFindsUptoRow : OpenClaim := { program := "ythphelbkfgbejaa", sum := "83bb9435c06ab9220b0d39cdb0bef0d4fb137c298756f6a6aa7141ce4bd65f23", func := "transept/transeptlaw03.FramesFinds", spec := "framesFinds", unfollowed := true, recurses := true, apart := false, narrowed := true }
def FramesFindsUptoSaid : Prop := framesFindsUptoRow.holds Try.pinned (OpenSpec.upto framesFindsSpec)

/-- 'transeptlaw03.FramesOwn', WHERE WHAT IT READS IS OF BULK AT MOST 1048576: true; the input reads as it did. -/
def framesOwnUptoRow : OpenClaim := { program := "ythphelbkfgbejaa", sum := "83bb9435c06ab9220b0d39cdb0bef0d4fb137c298756f6a6aa7141ce4bd65f23", func := "transept/transeptlaw03.FramesOwn", spec := "framesOwn", unfollowed := true, recurses := true, apart := false, narrowed := true }
def FramesOwnUptoSaid : Prop := framesOwnUptoRow.holds Try.pinned (OpenSpec.upto framesOwnSpec)

/-- 'transeptlaw03.FramesTells', WHERE WHAT IT READS IS OF BULK AT MOST 1048576: true; the input reads as it did. -/
def framesTellsUptoRow : OpenClaim := { program := "ythphelbkfgbejaa", sum := "83bb9435c06ab9220b0d39cdb0bef0d4fb137c298756f6a6aa7141ce4bd65f23", func := "transept/transeptlaw03.FramesTells", spec := "framesTells", unfollowed := true, recurses := true, apart := false, narrowed := true }
def FramesTellsUptoSaid : Prop := framesTellsUptoRow.holds Try.pinned (OpenSpec.upto framesTellsSpec)

/-- 'transeptlaw03.FramesBack', WHERE WHAT IT READS IS OF BULK AT MOST 1048576: true; the input reads as it did. -/
def framesBackUptoRow : OpenClaim := { program := "ythphelbkfgbejaa", sum := "83bb9435c06ab9220b0d39cdb0bef0d4fb137c298756f6a6aa7141ce4bd65f23", func := "transept/transeptlaw03.FramesBack", spec := "framesBack", unfollowed := true, recurses := true, apart := false, narrowed := true }
def FramesBackUptoSaid : Prop := framesBackUptoRow.holds Try.pinned (OpenSpec.upto framesBackSpec)

/-- 'transeptlaw03.FramesTorn', WHERE WHAT IT READS IS OF BULK AT MOST 1048576: true; the input reads as it did. -/
def framesTornUptoRow : OpenClaim := { program := "ythphelbkfgbejaa", sum := "83bb9435c06ab9220b0d39cdb0bef0d4fb137c298756f6a6aa7141ce4bd65f23", func := "transept/transeptlaw03.FramesTorn", spec := "framesTorn", unfollowed := true, recurses := true, apart := false, narrowed := true }
def FramesTornUptoSaid : Prop := framesTornUptoRow.holds Try.pinned (OpenSpec.upto framesTornSpec)

/-- 'transeptlaw03.FramesJoined', WHERE WHAT IT READS IS OF BULK AT MOST 1048576: true; the input reads as it did. -/
def framesJoinedUptoRow : OpenClaim := { program := "ythphelbkfgbejaa", sum := "83bb9435c06ab9220b0d39cdb0bef0d4fb137c298756f6a6aa7141ce4bd65f23", func := "transept/transeptlaw03.FramesJoined", spec := "framesJoined", unfollowed := true, recurses := true, apart := false, narrowed := true }
def FramesJoinedUptoSaid : Prop := framesJoinedUptoRow.holds Try.pinned (OpenSpec.upto framesJoinedSpec)

end Rows
end Go.Proofs.Ythphelbkfgbejaa

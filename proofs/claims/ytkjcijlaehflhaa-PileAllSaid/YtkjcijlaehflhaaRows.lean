/-
  No cell of these rows narrows 'for every input' (looked for: loops, veiled, ifaces, maps, wideKeys, modest, calm, conditions, laid).
  DERIVED. THE GIVEN ROWS OF THIS SEAT. 11 by the template 'for every input the law returns true; each argument reads behind the call as it read before'; 0 by the template 'total and deterministic' (their statements: YtkjcijlaehflhaaTotals.lean).
  GIVEN WITH THE SEED: the statements are not yours to turn. If you find one false, say at which input.
  Laid BY PROGRAM, IN A SANDBOX (cutbox-rows.mjs): the forced cells as the released guide's own fill.sh prints them over the translation fa3ea83d06242d69… (all of the seat's roots in one cut). By AI agents, Wed Nov 11 2026. No macro, syntax, notation, axiom, sorry.
-/
import Derived.Test.YtkjcijlaehflhaaChecked
import GoSem.Claim
import GoSem.ClaimJoined
import GoSem.ClaimMapViews
import Derived.JoinedTies
import Derived.KernelRfl
namespace Go.Proofs.Ytkjcijlaehflhaa
/- THE CELL 'sum', in the pinned program and in every row, IS THE sha256 OF THE DUMP (.gsa) THAT YtkjcijlaehflhaaProg.lean LOADS. Nothing in Lean hashes anything: it is a label: what it is worth is what the hold of that sum in a sandbox is worth. -/
noncomputable def Try.pinned : Pinned := { name := "ytkjcijlaehflhaa", sum := "fa3ea83d06242d69c23281ab3f49ed67782a6431c0e55cc3ef045c5227056047", checked := Try.checked }
namespace Rows
def none {H : Type} : Left H := { results := [], args := [] }

/-- 'swarflaw05.PileMasses': WHATEVER THE INPUT: true; the input reads as it did. -/
def pileMassesSpec : ChangeSpec := { name := "pileMasses", fn := fun _ => fun
  | [d1, d2, d3, d4, d5, d6] => { results := [.lit (.bool true)], args := [d1, d2, d3, d4, d5, d6] }
  | _ => none }
def pileMassesRow : OpenClaim := { program := "ytkjcijlaehflhaa", sum := "fa3ea83d06242d69c23281ab3f49ed67782a6431c0e55cc3ef045c5227056047", func := "swarf/swarflaw05.PileMasses", spec := "pileMasses", unfollowed := true, recurses := true, plainKeys := false, apart := false }
def PileMassesSaid : Prop := pileMassesRow.holds Try.pinned (OpenSpec.ofChange pileMassesSpec)

/-- ITS FALSE NEIGHBOUR: 'it returns false'. Refute it at one input. -/
def pileMassesWrong : ChangeSpec := { name := "pileMasses", fn := fun _ => fun
  | [d1, d2, d3, d4, d5, d6] => { results := [.lit (.bool false)], args := [d1, d2, d3, d4, d5, d6] }
  | _ => none }
def PileMassesWrongFalsely : Prop := pileMassesRow.holds Try.pinned (OpenSpec.ofChange pileMassesWrong)

/-- 'swarflaw05.PileBreaks': WHATEVER THE INPUT: true; the input reads as it did. -/
def pileBreaksSpec : ChangeSpec := { name := "pileBreaks", fn := fun _ => fun
  | [d1, d2, d3] => { results := [.lit (.bool true)], args := [d1, d2, d3] }
  | _ => none }
def pileBreaksRow : OpenClaim := { program := "ytkjcijlaehflhaa", sum := "fa3ea83d06242d69c23281ab3f49ed67782a6431c0e55cc3ef045c5227056047", func := "swarf/swarflaw05.PileBreaks", spec := "pileBreaks", unfollowed := true, recurses := true, plainKeys := false, apart := false }
def PileBreaksSaid : Prop := pileBreaksRow.holds Try.pinned (OpenSpec.ofChange pileBreaksSpec)

/-- ITS FALSE NEIGHBOUR: 'it returns false'. Refute it at one input. -/
def pileBreaksWrong : ChangeSpec := { name := "pileBreaks", fn := fun _ => fun
  | [d1, d2, d3] => { results := [.lit (.bool false)], args := [d1, d2, d3] }
  | _ => none }
def PileBreaksWrongFalsely : Prop := pileBreaksRow.holds Try.pinned (OpenSpec.ofChange pileBreaksWrong)

/-- 'swarflaw05.PileRooms': WHATEVER THE INPUT: true; the input reads as it did. -/
def pileRoomsSpec : ChangeSpec := { name := "pileRooms", fn := fun _ => fun
  | [d1, d2, d3, d4, d5] => { results := [.lit (.bool true)], args := [d1, d2, d3, d4, d5] }
  | _ => none }
def pileRoomsRow : OpenClaim := { program := "ytkjcijlaehflhaa", sum := "fa3ea83d06242d69c23281ab3f49ed67782a6431c0e55cc3ef045c5227056047", func := "swarf/swarflaw05.PileRooms", spec := "pileRooms", unfollowed := true, recurses := true, plainKeys := false, apart := false }
def PileRoomsSaid : Prop := pileRoomsRow.holds Try.pinned (OpenSpec.ofChange pileRoomsSpec)

/-- ITS FALSE NEIGHBOUR: 'it returns false'. Refute it at one input. -/
def pileRoomsWrong : ChangeSpec := { name := "pileRooms", fn := fun _ => fun
  | [d1, d2, d3, d4, d5] => { results := [.lit (.bool false)], args := [d1, d2, d3, d4, d5] }
  | _ => none }
def PileRoomsWrongFalsely : Prop := pileRoomsRow.holds Try.pinned (OpenSpec.ofChange pileRoomsWrong)

/-- 'swarflaw05.PileTrue': WHATEVER THE INPUT: true; the input reads as it did. -/
def pileTrueSpec : ChangeSpec := { name := "pileTrue", fn := fun _ => fun
  | [d] => { results := [.lit (.bool true)], args := [d] }
  | _ => none }
def pileTrueRow : OpenClaim := { program := "ytkjcijlaehflhaa", sum := "fa3ea83d06242d69c23281ab3f49ed67782a6431c0e55cc3ef045c5227056047", func := "swarf/swarflaw05.PileTrue", spec := "pileTrue", unfollowed := true, recurses := true, plainKeys := false, apart := false }
def PileTrueSaid : Prop := pileTrueRow.holds Try.pinned (OpenSpec.ofChange pileTrueSpec)

/-- ITS FALSE NEIGHBOUR: 'it returns false'. Refute it at one input. -/
def pileTrueWrong : ChangeSpec := { name := "pileTrue", fn := fun _ => fun
  | [d] => { results := [.lit (.bool false)], args := [d] }
  | _ => none }
def PileTrueWrongFalsely : Prop := pileTrueRow.holds Try.pinned (OpenSpec.ofChange pileTrueWrong)

/-- 'swarflaw05.PileAll': WHATEVER THE INPUT: true; the input reads as it did. -/
def pileAllSpec : ChangeSpec := { name := "pileAll", fn := fun _ => fun
  | [d] => { results := [.lit (.bool true)], args := [d] }
  | _ => none }
def pileAllRow : OpenClaim := { program := "ytkjcijlaehflhaa", sum := "fa3ea83d06242d69c23281ab3f49ed67782a6431c0e55cc3ef045c5227056047", func := "swarf/swarflaw05.PileAll", spec := "pileAll", unfollowed := true, recurses := true, plainKeys := false, apart := false }
def PileAllSaid : Prop := pileAllRow.holds Try.pinned (OpenSpec.ofChange pileAllSpec)

/-- ITS FALSE NEIGHBOUR: 'it returns false'. Refute it at one input. -/
def pileAllWrong : ChangeSpec := { name := "pileAll", fn := fun _ => fun
  | [d] => { results := [.lit (.bool false)], args := [d] }
  | _ => none }
def PileAllWrongFalsely : Prop := pileAllRow.holds Try.pinned (OpenSpec.ofChange pileAllWrong)

/-- 'swarflaw05.PileBetter': WHATEVER THE INPUT: true; the input reads as it did. -/
def pileBetterSpec : ChangeSpec := { name := "pileBetter", fn := fun _ => fun
  | [d] => { results := [.lit (.bool true)], args := [d] }
  | _ => none }
def pileBetterRow : OpenClaim := { program := "ytkjcijlaehflhaa", sum := "fa3ea83d06242d69c23281ab3f49ed67782a6431c0e55cc3ef045c5227056047", func := "swarf/swarflaw05.PileBetter", spec := "pileBetter", unfollowed := true, recurses := true, plainKeys := false, apart := false }
def PileBetterSaid : Prop := pileBetterRow.holds Try.pinned (OpenSpec.ofChange pileBetterSpec)

/-- ITS FALSE NEIGHBOUR: 'it returns false'. Refute it at one input. -/
def pileBetterWrong : ChangeSpec := { name := "pileBetter", fn := fun _ => fun
  | [d] => { results := [.lit (.bool false)], args := [d] }
  | _ => none }
def PileBetterWrongFalsely : Prop := pileBetterRow.holds Try.pinned (OpenSpec.ofChange pileBetterWrong)

/-- 'swarflaw05.PileRoom': WHATEVER THE INPUT: true; the input reads as it did. -/
def pileRoomSpec : ChangeSpec := { name := "pileRoom", fn := fun _ => fun
  | [d] => { results := [.lit (.bool true)], args := [d] }
  | _ => none }
def pileRoomRow : OpenClaim := { program := "ytkjcijlaehflhaa", sum := "fa3ea83d06242d69c23281ab3f49ed67782a6431c0e55cc3ef045c5227056047", func := "swarf/swarflaw05.PileRoom", spec := "pileRoom", unfollowed := true, recurses := true, plainKeys := false, apart := false }
def PileRoomSaid : Prop := pileRoomRow.holds Try.pinned (OpenSpec.ofChange pileRoomSpec)

/-- ITS FALSE NEIGHBOUR: 'it returns false'. Refute it at one input. -/
def pileRoomWrong : ChangeSpec := { name := "pileRoom", fn := fun _ => fun
  | [d] => { results := [.lit (.bool false)], args := [d] }
  | _ => none }
def PileRoomWrongFalsely : Prop := pileRoomRow.holds Try.pinned (OpenSpec.ofChange pileRoomWrong)

/-- 'swarflaw05.PileLater': WHATEVER THE INPUT: true; the input reads as it did. -/
def pileLaterSpec : ChangeSpec := { name := "pileLater", fn := fun _ => fun
  | [d] => { results := [.lit (.bool true)], args := [d] }
  | _ => none }
def pileLaterRow : OpenClaim := { program := "ytkjcijlaehflhaa", sum := "fa3ea83d06242d69c23281ab3f49ed67782a6431c0e55cc3ef045c5227056047", func := "swarf/swarflaw05.PileLater", spec := "pileLater", unfollowed := true, recurses := true, plainKeys := false, apart := false }
def PileLaterSaid : Prop := pileLaterRow.holds Try.pinned (OpenSpec.ofChange pileLaterSpec)

/-- ITS FALSE NEIGHBOUR: 'it returns false'. Refute it at one input. -/
def pileLaterWrong : ChangeSpec := { name := "pileLater", fn := fun _ => fun
  | [d] => { results := [.lit (.bool false)], args := [d] }
  | _ => none }
def PileLaterWrongFalsely : Prop := pileLaterRow.holds Try.pinned (OpenSpec.ofChange pileLaterWrong)

/-- 'swarflaw05.PileEither': WHATEVER THE INPUT: true; the input reads as it did. -/
def pileEitherSpec : ChangeSpec := { name := "pileEither", fn := fun _ => fun
  | [d] => { results := [.lit (.bool true)], args := [d] }
  | _ => none }
def pileEitherRow : OpenClaim := { program := "ytkjcijlaehflhaa", sum := "fa3ea83d06242d69c23281ab3f49ed67782a6431c0e55cc3ef045c5227056047", func := "swarf/swarflaw05.PileEither", spec := "pileEither", unfollowed := true, recurses := true, plainKeys := false, apart := false }
def PileEitherSaid : Prop := pileEitherRow.holds Try.pinned (OpenSpec.ofChange pileEitherSpec)

/-- ITS FALSE NEIGHBOUR: 'it returns false'. Refute it at one input. -/
def pileEitherWrong : ChangeSpec := { name := "pileEither", fn := fun _ => fun
  | [d] => { results := [.lit (.bool false)], args := [d] }
  | _ => none }
def PileEitherWrongFalsely : Prop := pileEitherRow.holds Try.pinned (OpenSpec.ofChange pileEitherWrong)

/-- 'swarflaw05.PileStricter': WHATEVER THE INPUT: true; the input reads as it did. -/
def pileStricterSpec : ChangeSpec := { name := "pileStricter", fn := fun _ => fun
  | [d] => { results := [.lit (.bool true)], args := [d] }
  | _ => none }
def pileStricterRow : OpenClaim := { program := "ytkjcijlaehflhaa", sum := "fa3ea83d06242d69c23281ab3f49ed67782a6431c0e55cc3ef045c5227056047", func := "swarf/swarflaw05.PileStricter", spec := "pileStricter", unfollowed := true, recurses := true, plainKeys := false, apart := false }
def PileStricterSaid : Prop := pileStricterRow.holds Try.pinned (OpenSpec.ofChange pileStricterSpec)

/-- ITS FALSE NEIGHBOUR: 'it returns false'. Refute it at one input. -/
def pileStricterWrong : ChangeSpec := { name := "pileStricter", fn := fun _ => fun
  | [d] => { results := [.lit (.bool false)], args := [d] }
  | _ => none }
def PileStricterWrongFalsely : Prop := pileStricterRow.holds Try.pinned (OpenSpec.ofChange pileStricterWrong)

/-- 'swarflaw05.PileOld': WHATEVER THE INPUT: true; the input reads as it did. -/
def pileOldSpec : ChangeSpec := { name := "pileOld", fn := fun _ => fun
  | [d] => { results := [.lit (.bool true)], args := [d] }
  | _ => none }
def pileOldRow : OpenClaim := { program := "ytkjcijlaehflhaa", sum := "fa3ea83d06242d69c23281ab3f49ed67782a6431c0e55cc3ef045c5227056047", func := "swarf/swarflaw05.PileOld", spec := "pileOld", unfollowed := true, recurses := true, plainKeys := false, apart := false }
def PileOldSaid : Prop := pileOldRow.holds Try.pinned (OpenSpec.ofChange pileOldSpec)

/-- ITS FALSE NEIGHBOUR: 'it returns false'. Refute it at one input. -/
def pileOldWrong : ChangeSpec := { name := "pileOld", fn := fun _ => fun
  | [d] => { results := [.lit (.bool false)], args := [d] }
  | _ => none }
def PileOldWrongFalsely : Prop := pileOldRow.holds Try.pinned (OpenSpec.ofChange pileOldWrong)

/- THE SECOND FORM. 'bulk': how many values and letters a reading holds, each counted each time it is reached (what is shared counts as often as it is met; a slice's spare places count too). A statement '..UptoSaid' is the law's where the arguments, and the package variables that the reading takes, are together of bulk at most 1048576: NARROWER than '..Said'. Prove '..Said' where nothing that the law and all that it calls make is longer than what came in: it says more and counts as full. Else prove '..UptoSaid'. A law counts once. -/
mutual
def uptoBulk {H : Type} : DataW H → Nat
  | .lit (.string bytes) => bytes.length + 1
  | .lit _ => 1
  | .nil => 1
  | .ptr d => uptoBulk d + 1
  | .slice elems spare => uptoBulkAll elems + uptoBulkAll spare + 1
  | .agg parts => uptoBulkAll parts + 1
  | .iface _ d => uptoBulk d + 1
  | .map entries => uptoBulkEntries entries + 1
  | .held _ => 1
def uptoBulkAll {H : Type} : List (DataW H) → Nat
  | [] => 0
  | d :: r => uptoBulk d + uptoBulkAll r
def uptoBulkEntries {H : Type} : List (Lit × DataW H) → Nat
  | [] => 0
  | x :: r => uptoBulkEntry x + uptoBulkEntries r
def uptoBulkEntry {H : Type} : Lit × DataW H → Nat
  | (.string bytes, d) => bytes.length + uptoBulk d + 1
  | (_, d) => uptoBulk d + 1
 end
def uptoSmall : (H : Type) → List (DataW H) → Bool := fun _ ds => decide (uptoBulkAll ds ≤ 1048576)
def OpenSpec.upto (s : _root_.Go.ChangeSpec) : _root_.Go.OpenSpec := { _root_.Go.OpenSpec.ofChange s with cond := some uptoSmall }

/-- 'swarflaw05.PileMasses', WHERE WHAT IT READS IS OF BULK AT MOST 1048576: true; the input reads as it did. -/
def pileMassesUptoRow : OpenClaim := { program := "ytkjcijlaehflhaa", sum := "fa3ea83d06242d69c23281ab3f49ed67782a6431c0e55cc3ef045c5227056047", func := "swarf/swarflaw05.PileMasses", spec := "pileMasses", unfollowed := true, recurses := true, plainKeys := false, apart := false, narrowed := true }
def PileMassesUptoSaid : Prop := pileMassesUptoRow.holds Try.pinned (OpenSpec.upto pileMassesSpec)

/-- 'swarflaw05.PileBreaks', WHERE WHAT IT READS IS OF BULK AT MOST 1048576: true; the input reads as it did. -/
def pileBreaksUptoRow : OpenClaim := { program := "ytkjcijlaehflhaa", sum := "fa3ea83d06242d69c23281ab3f49ed67782a6431c0e55cc3ef045c5227056047", func := "swarf/swarflaw05.PileBreaks", spec := "pileBreaks", unfollowed := true, recurses := true, plainKeys := false, apart := false, narrowed := true }
def PileBreaksUptoSaid : Prop := pileBreaksUptoRow.holds Try.pinned (OpenSpec.upto pileBreaksSpec)

/-- 'swarflaw05.PileRooms', WHERE WHAT IT READS IS OF BULK AT MOST 1048576: true; the input reads as it did. -/
def pileRoomsUptoRow : OpenClaim := { program := "ytkjcijlaehflhaa", sum := "fa3ea83d06242d69c23281ab3f49ed67782a6431c0e55cc3ef045c5227056047", func := "swarf/swarflaw05.PileRooms", spec := "pileRooms", unfollowed := true, recurses := true, plainKeys := false, apart := false, narrowed := true }
def PileRoomsUptoSaid : Prop := pileRoomsUptoRow.holds Try.pinned (OpenSpec.upto pileRoomsSpec)

/-- 'swarflaw05.PileTrue', WHERE WHAT IT READS IS OF BULK AT MOST 1048576: true; the input reads as it did. -/
def pileTrueUptoRow : OpenClaim := { program := "ytkjcijlaehflhaa", sum := "fa3ea83d06242d69c23281ab3f49ed67782a6431c0e55cc3ef045c5227056047", func := "swarf/swarflaw05.PileTrue", spec := "pileTrue", unfollowed := true, recurses := true, plainKeys := false, apart := false, narrowed := true }
def PileTrueUptoSaid : Prop := pileTrueUptoRow.holds Try.pinned (OpenSpec.upto pileTrueSpec)

/-- 'swarflaw05.PileAll', WHERE WHAT IT READS IS OF BULK AT MOST 1048576: true; the input reads as it did. -/
def pileAllUptoRow : OpenClaim := { program := "ytkjcijlaehflhaa", sum := "fa3ea83d06242d69c23281ab3f49ed67782a6431c0e55cc3ef045c5227056047", func := "swarf/swarflaw05.PileAll", spec := "pileAll", unfollowed := true, recurses := true, plainKeys := false, apart := false, narrowed := true }
def PileAllUptoSaid : Prop := pileAllUptoRow.holds Try.pinned (OpenSpec.upto pileAllSpec)

/-- 'swarflaw05.PileBetter', WHERE WHAT IT READS IS OF BULK AT MOST 1048576: true; the input reads as it did. -/
def pileBetterUptoRow : OpenClaim := { program := "ytkjcijlaehflhaa", sum := "fa3ea83d06242d69c23281ab3f49ed67782a6431c0e55cc3ef045c5227056047", func := "swarf/swarflaw05.PileBetter", spec := "pileBetter", unfollowed := true, recurses := true, plainKeys := false, apart := false, narrowed := true }
def PileBetterUptoSaid : Prop := pileBetterUptoRow.holds Try.pinned (OpenSpec.upto pileBetterSpec)

/-- 'swarflaw05.PileRoom', WHERE WHAT IT READS IS OF BULK AT MOST 1048576: true; the input reads as it did. -/
def pileRoomUptoRow : OpenClaim := { program := "ytkjcijlaehflhaa", sum := "fa3ea83d06242d69c23281ab3f49ed67782a6431c0e55cc3ef045c5227056047", func := "swarf/swarflaw05.PileRoom", spec := "pileRoom", unfollowed := true, recurses := true, plainKeys := false, apart := false, narrowed := true }
def PileRoomUptoSaid : Prop := pileRoomUptoRow.holds Try.pinned (OpenSpec.upto pileRoomSpec)

/-- 'swarflaw05.PileLater', WHERE WHAT IT READS IS OF BULK AT MOST 1048576: true; the input reads as it did. -/
def pileLaterUptoRow : OpenClaim := { program := "ytkjcijlaehflhaa", sum := "fa3ea83d06242d69c23281ab3f49ed67782a6431c0e55cc3ef045c5227056047", func := "swarf/swarflaw05.PileLater", spec := "pileLater", unfollowed := true, recurses := true, plainKeys := false, apart := false, narrowed := true }
def PileLaterUptoSaid : Prop := pileLaterUptoRow.holds Try.pinned (OpenSpec.upto pileLaterSpec)

/-- 'swarflaw05.PileEither', WHERE WHAT IT READS IS OF BULK AT MOST 1048576: true; the input reads as it did. -/
def pileEitherUptoRow : OpenClaim := { program := "ytkjcijlaehflhaa", sum := "fa3ea83d06242d69c23281ab3f49ed67782a6431c0e55cc3ef045c5227056047", func := "swarf/swarflaw05.PileEither", spec := "pileEither", unfollowed := true, recurses := true, plainKeys := false, apart := false, narrowed := true }
def PileEitherUptoSaid : Prop := pileEitherUptoRow.holds Try.pinned (OpenSpec.upto pileEitherSpec)

/-- 'swarflaw05.PileStricter', WHERE WHAT IT READS IS OF BULK AT MOST 1048576: true; the input reads as it did. -/
def pileStricterUptoRow : OpenClaim := { program := "ytkjcijlaehflhaa", sum := "fa3ea83d06242d69c23281ab3f49ed67782a6431c0e55cc3ef045c5227056047", func := "swarf/swarflaw05.PileStricter", spec := "pileStricter", unfollowed := true, recurses := true, plainKeys := false, apart := false, narrowed := true }
def PileStricterUptoSaid : Prop := pileStricterUptoRow.holds Try.pinned (OpenSpec.upto pileStricterSpec)

/-- 'swarflaw05.PileOld', WHERE WHAT IT READS IS OF BULK AT MOST 1048576: true; the input reads as it did. -/
def pileOldUptoRow : OpenClaim := { program := "ytkjcijlaehflhaa", sum := "fa3ea83d06242d69c23281ab3f49ed67782a6431c0e55cc3ef045c5227056047", func := "swarf/swarflaw05.PileOld", spec := "pileOld", unfollowed := true, recurses := true, plainKeys := false, apart := false, narrowed := true }
def PileOldUptoSaid : Prop := pileOldUptoRow.holds Try.pinned (OpenSpec.upto pileOldSpec)

end Rows
end Go.Proofs.Ytkjcijlaehflhaa

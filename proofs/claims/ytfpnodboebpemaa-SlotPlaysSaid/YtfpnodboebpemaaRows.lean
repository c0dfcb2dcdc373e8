/-
  No cell of these rows narrows 'for every input' (looked for: loops, veiled, ifaces, maps, wideKeys, modest, calm, conditions, laid).
  DERIVED. THE GIVEN ROWS OF THIS SEAT. 24 by the template 'for every input the law returns true; each argument reads behind the call as it read before'; 0 by the template 'total and deterministic' (their statements: YtfpnodboebpemaaTotals.lean).
  GIVEN WITH THE SEED: the statements are not yours to turn. If you find one false, say at which input.
  Laid BY PROGRAM, IN A SANDBOX (cutbox-rows.mjs): the forced cells as the released guide's own fill.sh prints them over the translation 68849f3e26973cd9… (all of the seat's roots in one cut). By AI agents, Wed Nov 11 2026. No macro, syntax, notation, axiom, sorry.
-/
import Derived.Test.YtfpnodboebpemaaChecked
import GoSem.Claim
import GoSem.ClaimJoined
import GoSem.ClaimMapViews
import Derived.JoinedTies
import Derived.KernelRfl
namespace Go.Proofs.Ytfpnodboebpemaa
/- THE CELL 'sum', in the pinned program and in every row, IS THE sha256 OF THE DUMP (.gsa) THAT YtfpnodboebpemaaProg.lean LOADS. Nothing in Lean hashes anything: it is a label: what it is worth is what the hold of that sum in a sandbox is worth. -/
noncomputable def Try.pinned : Pinned := { name := "ytfpnodboebpemaa", sum := "68849f3e26973cd9497aeead5e6e6958aac949c8e30103688c3afc2c47c93e80", checked := Try.checked }
namespace Rows
def none {H : Type} : Left H := { results := [], args := [] }

/-- 'scarplaw8.FrameLimits': WHATEVER THE INPUT: true; the input reads as it did. -/
def frameLimitsSpec : ChangeSpec := { name := "frameLimits", fn := fun _ => fun
  | [d1, d2, d3, d4, d5] => { results := [.lit (.bool true)], args := [d1, d2, d3, d4, d5] }
  | _ => none }
def frameLimitsRow : OpenClaim := { program := "ytfpnodboebpemaa", sum := "68849f3e26973cd9497aeead5e6e6958aac949c8e30103688c3afc2c47c93e80", func := "scarp/scarplaw8.FrameLimits", spec := "frameLimits", unfollowed := true, recurses := true, apart := false }
def FrameLimitsSaid : Prop := frameLimitsRow.holds Try.pinned (OpenSpec.ofChange frameLimitsSpec)

/-- ITS FALSE NEIGHBOUR: 'it returns false'. Refute it at one input. -/
def frameLimitsWrong : ChangeSpec := { name := "frameLimits", fn := fun _ => fun
  | [d1, d2, d3, d4, d5] => { results := [.lit (.bool false)], args := [d1, d2, d3, d4, d5] }
  | _ => none }
def FrameLimitsWrongFalsely : Prop := frameLimitsRow.holds Try.pinned (OpenSpec.ofChange frameLimitsWrong)

/-- 'scarplaw8.FrameApart': WHATEVER THE INPUT: true; the input reads as it did. -/
def frameApartSpec : ChangeSpec := { name := "frameApart", fn := fun _ => fun
  | [d1, d2] => { results := [.lit (.bool true)], args := [d1, d2] }
  | _ => none }
def frameApartRow : OpenClaim := { program := "ytfpnodboebpemaa", sum := "68849f3e26973cd9497aeead5e6e6958aac949c8e30103688c3afc2c47c93e80", func := "scarp/scarplaw8.FrameApart", spec := "frameApart", unfollowed := true, recurses := true, apart := false }
def FrameApartSaid : Prop := frameApartRow.holds Try.pinned (OpenSpec.ofChange frameApartSpec)

/-- ITS FALSE NEIGHBOUR: 'it returns false'. Refute it at one input. -/
def frameApartWrong : ChangeSpec := { name := "frameApart", fn := fun _ => fun
  | [d1, d2] => { results := [.lit (.bool false)], args := [d1, d2] }
  | _ => none }
def FrameApartWrongFalsely : Prop := frameApartRow.holds Try.pinned (OpenSpec.ofChange frameApartWrong)

/-- 'scarplaw9.ZdevZones': WHATEVER THE INPUT: true; the input reads as it did. -/
def zdevZonesSpec : ChangeSpec := { name := "zdevZones", fn := fun _ => fun
  | [d1, d2] => { results := [.lit (.bool true)], args := [d1, d2] }
  | _ => none }
def zdevZonesRow : OpenClaim := { program := "ytfpnodboebpemaa", sum := "68849f3e26973cd9497aeead5e6e6958aac949c8e30103688c3afc2c47c93e80", func := "scarp/scarplaw9.ZdevZones", spec := "zdevZones", apart := false }
def ZdevZonesSaid : Prop := zdevZonesRow.holds Try.pinned (OpenSpec.ofChange zdevZonesSpec)

/-- ITS FALSE NEIGHBOUR: 'it returns false'. Refute it at one input. -/
def zdevZonesWrong : ChangeSpec := { name := "zdevZones", fn := fun _ => fun
  | [d1, d2] => { results := [.lit (.bool false)], args := [d1, d2] }
  | _ => none }
def ZdevZonesWrongFalsely : Prop := zdevZonesRow.holds Try.pinned (OpenSpec.ofChange zdevZonesWrong)

/-- 'scarplaw9.ZdevFull': WHATEVER THE INPUT: true; the input reads as it did. -/
def zdevFullSpec : ChangeSpec := { name := "zdevFull", fn := fun _ => fun
  | [d1, d2, d3] => { results := [.lit (.bool true)], args := [d1, d2, d3] }
  | _ => none }
def zdevFullRow : OpenClaim := { program := "ytfpnodboebpemaa", sum := "68849f3e26973cd9497aeead5e6e6958aac949c8e30103688c3afc2c47c93e80", func := "scarp/scarplaw9.ZdevFull", spec := "zdevFull", apart := false }
def ZdevFullSaid : Prop := zdevFullRow.holds Try.pinned (OpenSpec.ofChange zdevFullSpec)

/-- ITS FALSE NEIGHBOUR: 'it returns false'. Refute it at one input. -/
def zdevFullWrong : ChangeSpec := { name := "zdevFull", fn := fun _ => fun
  | [d1, d2, d3] => { results := [.lit (.bool false)], args := [d1, d2, d3] }
  | _ => none }
def ZdevFullWrongFalsely : Prop := zdevFullRow.holds Try.pinned (OpenSpec.ofChange zdevFullWrong)

/-- 'scarplaw17.BatchLimits': WHATEVER THE INPUT: true; the input reads as it did. -/
def batchLimitsSpec : ChangeSpec := { name := "batchLimits", fn := fun _ => fun
  | [d1, d2, d3] => { results := [.lit (.bool true)], args := [d1, d2, d3] }
  | _ => none }
def batchLimitsRow : OpenClaim := { program := "ytfpnodboebpemaa", sum := "68849f3e26973cd9497aeead5e6e6958aac949c8e30103688c3afc2c47c93e80", func := "scarp/scarplaw17.BatchLimits", spec := "batchLimits", unfollowed := true, recurses := true, apart := false }
def BatchLimitsSaid : Prop := batchLimitsRow.holds Try.pinned (OpenSpec.ofChange batchLimitsSpec)

/-- ITS FALSE NEIGHBOUR: 'it returns false'. Refute it at one input. -/
def batchLimitsWrong : ChangeSpec := { name := "batchLimits", fn := fun _ => fun
  | [d1, d2, d3] => { results := [.lit (.bool false)], args := [d1, d2, d3] }
  | _ => none }
def BatchLimitsWrongFalsely : Prop := batchLimitsRow.holds Try.pinned (OpenSpec.ofChange batchLimitsWrong)

/-- 'scarplaw8.FrameCodes': WHATEVER THE INPUT: true; the input reads as it did. -/
def frameCodesSpec : ChangeSpec := { name := "frameCodes", fn := fun _ => fun
  | [d1, d2] => { results := [.lit (.bool true)], args := [d1, d2] }
  | _ => none }
def frameCodesRow : OpenClaim := { program := "ytfpnodboebpemaa", sum := "68849f3e26973cd9497aeead5e6e6958aac949c8e30103688c3afc2c47c93e80", func := "scarp/scarplaw8.FrameCodes", spec := "frameCodes", unfollowed := true, recurses := true, apart := false }
def FrameCodesSaid : Prop := frameCodesRow.holds Try.pinned (OpenSpec.ofChange frameCodesSpec)

/-- ITS FALSE NEIGHBOUR: 'it returns false'. Refute it at one input. -/
def frameCodesWrong : ChangeSpec := { name := "frameCodes", fn := fun _ => fun
  | [d1, d2] => { results := [.lit (.bool false)], args := [d1, d2] }
  | _ => none }
def FrameCodesWrongFalsely : Prop := frameCodesRow.holds Try.pinned (OpenSpec.ofChange frameCodesWrong)

/-- 'scarplaw18.SeglogApart': WHATEVER THE INPUT: true; the input reads as it did. -/
def seglogApartSpec : ChangeSpec := { name := "seglogApart", fn := fun _ => fun
  | [d1, d2] => { results := [.lit (.bool true)], args := [d1, d2] }
  | _ => none }
def seglogApartRow : OpenClaim := { program := "ytfpnodboebpemaa", sum := "68849f3e26973cd9497aeead5e6e6958aac949c8e30103688c3afc2c47c93e80", func := "scarp/scarplaw18.SeglogApart", spec := "seglogApart", unfollowed := true, recurses := true, apart := false }
def SeglogApartSaid : Prop := seglogApartRow.holds Try.pinned (OpenSpec.ofChange seglogApartSpec)

/-- ITS FALSE NEIGHBOUR: 'it returns false'. Refute it at one input. -/
def seglogApartWrong : ChangeSpec := { name := "seglogApart", fn := fun _ => fun
  | [d1, d2] => { results := [.lit (.bool false)], args := [d1, d2] }
  | _ => none }
def SeglogApartWrongFalsely : Prop := seglogApartRow.holds Try.pinned (OpenSpec.ofChange seglogApartWrong)

/-- 'scarplaw8.FrameBack': WHATEVER THE INPUT: true; the input reads as it did. -/
def frameBackSpec : ChangeSpec := { name := "frameBack", fn := fun _ => fun
  | [d1, d2, d3] => { results := [.lit (.bool true)], args := [d1, d2, d3] }
  | _ => none }
def frameBackRow : OpenClaim := { program := "ytfpnodboebpemaa", sum := "68849f3e26973cd9497aeead5e6e6958aac949c8e30103688c3afc2c47c93e80", func := "scarp/scarplaw8.FrameBack", spec := "frameBack", unfollowed := true, recurses := true, apart := false }
def FrameBackSaid : Prop := frameBackRow.holds Try.pinned (OpenSpec.ofChange frameBackSpec)

/-- ITS FALSE NEIGHBOUR: 'it returns false'. Refute it at one input. -/
def frameBackWrong : ChangeSpec := { name := "frameBack", fn := fun _ => fun
  | [d1, d2, d3] => { results := [.lit (.bool false)], args := [d1, d2, d3] }
  | _ => none }
def FrameBackWrongFalsely : Prop := frameBackRow.holds Try.pinned (OpenSpec.ofChange frameBackWrong)

/-- 'scarplaw8.FrameTorn': WHATEVER THE INPUT: true; the input reads as it did. -/
def frameTornSpec : ChangeSpec := { name := "frameTorn", fn := fun _ => fun
  | [d] => { results := [.lit (.bool true)], args := [d] }
  | _ => none }
def frameTornRow : OpenClaim := { program := "ytfpnodboebpemaa", sum := "68849f3e26973cd9497aeead5e6e6958aac949c8e30103688c3afc2c47c93e80", func := "scarp/scarplaw8.FrameTorn", spec := "frameTorn", unfollowed := true, recurses := true, apart := false }
def FrameTornSaid : Prop := frameTornRow.holds Try.pinned (OpenSpec.ofChange frameTornSpec)

/-- ITS FALSE NEIGHBOUR: 'it returns false'. Refute it at one input. -/
def frameTornWrong : ChangeSpec := { name := "frameTorn", fn := fun _ => fun
  | [d] => { results := [.lit (.bool false)], args := [d] }
  | _ => none }
def FrameTornWrongFalsely : Prop := frameTornRow.holds Try.pinned (OpenSpec.ofChange frameTornWrong)

/-- 'scarplaw18.SeglogCrash': WHATEVER THE INPUT: true; the input reads as it did. -/
def seglogCrashSpec : ChangeSpec := { name := "seglogCrash", fn := fun _ => fun
  | [d1, d2, d3, d4, d5] => { results := [.lit (.bool true)], args := [d1, d2, d3, d4, d5] }
  | _ => none }
def seglogCrashRow : OpenClaim := { program := "ytfpnodboebpemaa", sum := "68849f3e26973cd9497aeead5e6e6958aac949c8e30103688c3afc2c47c93e80", func := "scarp/scarplaw18.SeglogCrash", spec := "seglogCrash", unfollowed := true, recurses := true, apart := false }
def SeglogCrashSaid : Prop := seglogCrashRow.holds Try.pinned (OpenSpec.ofChange seglogCrashSpec)

/-- ITS FALSE NEIGHBOUR: 'it returns false'. Refute it at one input. -/
def seglogCrashWrong : ChangeSpec := { name := "seglogCrash", fn := fun _ => fun
  | [d1, d2, d3, d4, d5] => { results := [.lit (.bool false)], args := [d1, d2, d3, d4, d5] }
  | _ => none }
def SeglogCrashWrongFalsely : Prop := seglogCrashRow.holds Try.pinned (OpenSpec.ofChange seglogCrashWrong)

/-- 'scarplaw9.ZdevNothing': WHATEVER THE INPUT: true; the input reads as it did. -/
def zdevNothingSpec : ChangeSpec := { name := "zdevNothing", fn := fun _ => fun
  | [d1, d2] => { results := [.lit (.bool true)], args := [d1, d2] }
  | _ => none }
def zdevNothingRow : OpenClaim := { program := "ytfpnodboebpemaa", sum := "68849f3e26973cd9497aeead5e6e6958aac949c8e30103688c3afc2c47c93e80", func := "scarp/scarplaw9.ZdevNothing", spec := "zdevNothing", apart := false }
def ZdevNothingSaid : Prop := zdevNothingRow.holds Try.pinned (OpenSpec.ofChange zdevNothingSpec)

/-- ITS FALSE NEIGHBOUR: 'it returns false'. Refute it at one input. -/
def zdevNothingWrong : ChangeSpec := { name := "zdevNothing", fn := fun _ => fun
  | [d1, d2] => { results := [.lit (.bool false)], args := [d1, d2] }
  | _ => none }
def ZdevNothingWrongFalsely : Prop := zdevNothingRow.holds Try.pinned (OpenSpec.ofChange zdevNothingWrong)

/-- 'scarplaw17.BatchForms': WHATEVER THE INPUT: true; the input reads as it did. -/
def batchFormsSpec : ChangeSpec := { name := "batchForms", fn := fun _ => fun
  | [d] => { results := [.lit (.bool true)], args := [d] }
  | _ => none }
def batchFormsRow : OpenClaim := { program := "ytfpnodboebpemaa", sum := "68849f3e26973cd9497aeead5e6e6958aac949c8e30103688c3afc2c47c93e80", func := "scarp/scarplaw17.BatchForms", spec := "batchForms", unfollowed := true, recurses := true, apart := false }
def BatchFormsSaid : Prop := batchFormsRow.holds Try.pinned (OpenSpec.ofChange batchFormsSpec)

/-- ITS FALSE NEIGHBOUR: 'it returns false'. Refute it at one input. -/
def batchFormsWrong : ChangeSpec := { name := "batchForms", fn := fun _ => fun
  | [d] => { results := [.lit (.bool false)], args := [d] }
  | _ => none }
def BatchFormsWrongFalsely : Prop := batchFormsRow.holds Try.pinned (OpenSpec.ofChange batchFormsWrong)

/-- 'scarplaw9.ZdevApart': WHATEVER THE INPUT: true; the input reads as it did. -/
def zdevApartSpec : ChangeSpec := { name := "zdevApart", fn := fun _ => fun
  | [d1, d2] => { results := [.lit (.bool true)], args := [d1, d2] }
  | _ => none }
def zdevApartRow : OpenClaim := { program := "ytfpnodboebpemaa", sum := "68849f3e26973cd9497aeead5e6e6958aac949c8e30103688c3afc2c47c93e80", func := "scarp/scarplaw9.ZdevApart", spec := "zdevApart", apart := false }
def ZdevApartSaid : Prop := zdevApartRow.holds Try.pinned (OpenSpec.ofChange zdevApartSpec)

/-- ITS FALSE NEIGHBOUR: 'it returns false'. Refute it at one input. -/
def zdevApartWrong : ChangeSpec := { name := "zdevApart", fn := fun _ => fun
  | [d1, d2] => { results := [.lit (.bool false)], args := [d1, d2] }
  | _ => none }
def ZdevApartWrongFalsely : Prop := zdevApartRow.holds Try.pinned (OpenSpec.ofChange zdevApartWrong)

/-- 'scarplaw17.BatchDecodes': WHATEVER THE INPUT: true; the input reads as it did. -/
def batchDecodesSpec : ChangeSpec := { name := "batchDecodes", fn := fun _ => fun
  | [d] => { results := [.lit (.bool true)], args := [d] }
  | _ => none }
def batchDecodesRow : OpenClaim := { program := "ytfpnodboebpemaa", sum := "68849f3e26973cd9497aeead5e6e6958aac949c8e30103688c3afc2c47c93e80", func := "scarp/scarplaw17.BatchDecodes", spec := "batchDecodes", unfollowed := true, recurses := true, apart := false }
def BatchDecodesSaid : Prop := batchDecodesRow.holds Try.pinned (OpenSpec.ofChange batchDecodesSpec)

/-- ITS FALSE NEIGHBOUR: 'it returns false'. Refute it at one input. -/
def batchDecodesWrong : ChangeSpec := { name := "batchDecodes", fn := fun _ => fun
  | [d] => { results := [.lit (.bool false)], args := [d] }
  | _ => none }
def BatchDecodesWrongFalsely : Prop := batchDecodesRow.holds Try.pinned (OpenSpec.ofChange batchDecodesWrong)

/-- 'scarplaw17.BatchBack': WHATEVER THE INPUT: true; the input reads as it did. -/
def batchBackSpec : ChangeSpec := { name := "batchBack", fn := fun _ => fun
  | [d1, d2, d3, d4, d5] => { results := [.lit (.bool true)], args := [d1, d2, d3, d4, d5] }
  | _ => none }
def batchBackRow : OpenClaim := { program := "ytfpnodboebpemaa", sum := "68849f3e26973cd9497aeead5e6e6958aac949c8e30103688c3afc2c47c93e80", func := "scarp/scarplaw17.BatchBack", spec := "batchBack", unfollowed := true, recurses := true, apart := false }
def BatchBackSaid : Prop := batchBackRow.holds Try.pinned (OpenSpec.ofChange batchBackSpec)

/-- ITS FALSE NEIGHBOUR: 'it returns false'. Refute it at one input. -/
def batchBackWrong : ChangeSpec := { name := "batchBack", fn := fun _ => fun
  | [d1, d2, d3, d4, d5] => { results := [.lit (.bool false)], args := [d1, d2, d3, d4, d5] }
  | _ => none }
def BatchBackWrongFalsely : Prop := batchBackRow.holds Try.pinned (OpenSpec.ofChange batchBackWrong)

/-- 'scarplaw17.BatchRow': WHATEVER THE INPUT: true; the input reads as it did. -/
def batchRowSpec : ChangeSpec := { name := "batchRow", fn := fun _ => fun
  | [d1, d2] => { results := [.lit (.bool true)], args := [d1, d2] }
  | _ => none }
def batchRowRow : OpenClaim := { program := "ytfpnodboebpemaa", sum := "68849f3e26973cd9497aeead5e6e6958aac949c8e30103688c3afc2c47c93e80", func := "scarp/scarplaw17.BatchRow", spec := "batchRow", unfollowed := true, recurses := true, apart := false }
def BatchRowSaid : Prop := batchRowRow.holds Try.pinned (OpenSpec.ofChange batchRowSpec)

/-- ITS FALSE NEIGHBOUR: 'it returns false'. Refute it at one input. -/
def batchRowWrong : ChangeSpec := { name := "batchRow", fn := fun _ => fun
  | [d1, d2] => { results := [.lit (.bool false)], args := [d1, d2] }
  | _ => none }
def BatchRowWrongFalsely : Prop := batchRowRow.holds Try.pinned (OpenSpec.ofChange batchRowWrong)

/-- 'scarplaw19.SlotPlays': WHATEVER THE INPUT: true; the input reads as it did. -/
def slotPlaysSpec : ChangeSpec := { name := "slotPlays", fn := fun _ => fun
  | [d1, d2, d3] => { results := [.lit (.bool true)], args := [d1, d2, d3] }
  | _ => none }
def slotPlaysRow : OpenClaim := { program := "ytfpnodboebpemaa", sum := "68849f3e26973cd9497aeead5e6e6958aac949c8e30103688c3afc2c47c93e80", func := "scarp/scarplaw19.SlotPlays", spec := "slotPlays", unfollowed := true, recurses := true, apart := false }
def SlotPlaysSaid : Prop := slotPlaysRow.holds Try.pinned (OpenSpec.ofChange slotPlaysSpec)

/-- ITS FALSE NEIGHBOUR: 'it returns false'. Refute it at one input. -/
def slotPlaysWrong : ChangeSpec := { name := "slotPlays", fn := fun _ => fun
  | [d1, d2, d3] => { results := [.lit (.bool false)], args := [d1, d2, d3] }
  | _ => none }
def SlotPlaysWrongFalsely : Prop := slotPlaysRow.holds Try.pinned (OpenSpec.ofChange slotPlaysWrong)

/-- 'scarplaw19.SlotNothing': WHATEVER THE INPUT: true; the input reads as it did. -/
def slotNothingSpec : ChangeSpec := { name := "slotNothing", fn := fun _ => fun
  | [d1, d2, d3] => { results := [.lit (.bool true)], args := [d1, d2, d3] }
  | _ => none }
def slotNothingRow : OpenClaim := { program := "ytfpnodboebpemaa", sum := "68849f3e26973cd9497aeead5e6e6958aac949c8e30103688c3afc2c47c93e80", func := "scarp/scarplaw19.SlotNothing", spec := "slotNothing", unfollowed := true, recurses := true, apart := false }
def SlotNothingSaid : Prop := slotNothingRow.holds Try.pinned (OpenSpec.ofChange slotNothingSpec)

/-- ITS FALSE NEIGHBOUR: 'it returns false'. Refute it at one input. -/
def slotNothingWrong : ChangeSpec := { name := "slotNothing", fn := fun _ => fun
  | [d1, d2, d3] => { results := [.lit (.bool false)], args := [d1, d2, d3] }
  | _ => none }
def SlotNothingWrongFalsely : Prop := slotNothingRow.holds Try.pinned (OpenSpec.ofChange slotNothingWrong)

/-- 'scarplaw19.SlotApart': WHATEVER THE INPUT: true; the input reads as it did. -/
def slotApartSpec : ChangeSpec := { name := "slotApart", fn := fun _ => fun
  | [d1, d2] => { results := [.lit (.bool true)], args := [d1, d2] }
  | _ => none }
def slotApartRow : OpenClaim := { program := "ytfpnodboebpemaa", sum := "68849f3e26973cd9497aeead5e6e6958aac949c8e30103688c3afc2c47c93e80", func := "scarp/scarplaw19.SlotApart", spec := "slotApart", unfollowed := true, recurses := true, apart := false }
def SlotApartSaid : Prop := slotApartRow.holds Try.pinned (OpenSpec.ofChange slotApartSpec)

/-- ITS FALSE NEIGHBOUR: 'it returns false'. Refute it at one input. -/
def slotApartWrong : ChangeSpec := { name := "slotApart", fn := fun _ => fun
  | [d1, d2] => { results := [.lit (.bool false)], args := [d1, d2] }
  | _ => none }
def SlotApartWrongFalsely : Prop := slotApartRow.holds Try.pinned (OpenSpec.ofChange slotApartWrong)

/-- 'scarplaw19.SlotTurns': WHATEVER THE INPUT: true; the input reads as it did. -/
def slotTurnsSpec : ChangeSpec := { name := "slotTurns", fn := fun _ => fun
  | [d1, d2, d3, d4] => { results := [.lit (.bool true)], args := [d1, d2, d3, d4] }
  | _ => none }
def slotTurnsRow : OpenClaim := { program := "ytfpnodboebpemaa", sum := "68849f3e26973cd9497aeead5e6e6958aac949c8e30103688c3afc2c47c93e80", func := "scarp/scarplaw19.SlotTurns", spec := "slotTurns", unfollowed := true, recurses := true, apart := false }
def SlotTurnsSaid : Prop := slotTurnsRow.holds Try.pinned (OpenSpec.ofChange slotTurnsSpec)

/-- ITS FALSE NEIGHBOUR: 'it returns false'. Refute it at one input. -/
def slotTurnsWrong : ChangeSpec := { name := "slotTurns", fn := fun _ => fun
  | [d1, d2, d3, d4] => { results := [.lit (.bool false)], args := [d1, d2, d3, d4] }
  | _ => none }
def SlotTurnsWrongFalsely : Prop := slotTurnsRow.holds Try.pinned (OpenSpec.ofChange slotTurnsWrong)

/-- 'scarplaw19.SlotCrash': WHATEVER THE INPUT: true; the input reads as it did. -/
def slotCrashSpec : ChangeSpec := { name := "slotCrash", fn := fun _ => fun
  | [d1, d2, d3, d4, d5] => { results := [.lit (.bool true)], args := [d1, d2, d3, d4, d5] }
  | _ => none }
def slotCrashRow : OpenClaim := { program := "ytfpnodboebpemaa", sum := "68849f3e26973cd9497aeead5e6e6958aac949c8e30103688c3afc2c47c93e80", func := "scarp/scarplaw19.SlotCrash", spec := "slotCrash", unfollowed := true, recurses := true, apart := false }
def SlotCrashSaid : Prop := slotCrashRow.holds Try.pinned (OpenSpec.ofChange slotCrashSpec)

/-- ITS FALSE NEIGHBOUR: 'it returns false'. Refute it at one input. -/
def slotCrashWrong : ChangeSpec := { name := "slotCrash", fn := fun _ => fun
  | [d1, d2, d3, d4, d5] => { results := [.lit (.bool false)], args := [d1, d2, d3, d4, d5] }
  | _ => none }
def SlotCrashWrongFalsely : Prop := slotCrashRow.holds Try.pinned (OpenSpec.ofChange slotCrashWrong)

/-- 'scarplaw18.SeglogPlays': WHATEVER THE INPUT: true; the input reads as it did. -/
def seglogPlaysSpec : ChangeSpec := { name := "seglogPlays", fn := fun _ => fun
  | [d1, d2, d3] => { results := [.lit (.bool true)], args := [d1, d2, d3] }
  | _ => none }
def seglogPlaysRow : OpenClaim := { program := "ytfpnodboebpemaa", sum := "68849f3e26973cd9497aeead5e6e6958aac949c8e30103688c3afc2c47c93e80", func := "scarp/scarplaw18.SeglogPlays", spec := "seglogPlays", unfollowed := true, recurses := true, apart := false }
def SeglogPlaysSaid : Prop := seglogPlaysRow.holds Try.pinned (OpenSpec.ofChange seglogPlaysSpec)

/-- ITS FALSE NEIGHBOUR: 'it returns false'. Refute it at one input. -/
def seglogPlaysWrong : ChangeSpec := { name := "seglogPlays", fn := fun _ => fun
  | [d1, d2, d3] => { results := [.lit (.bool false)], args := [d1, d2, d3] }
  | _ => none }
def SeglogPlaysWrongFalsely : Prop := seglogPlaysRow.holds Try.pinned (OpenSpec.ofChange seglogPlaysWrong)

/-- 'scarplaw18.SeglogTurns': WHATEVER THE INPUT: true; the input reads as it did. -/
def seglogTurnsSpec : ChangeSpec := { name := "seglogTurns", fn := fun _ => fun
  | [d1, d2, d3] => { results := [.lit (.bool true)], args := [d1, d2, d3] }
  | _ => none }
def seglogTurnsRow : OpenClaim := { program := "ytfpnodboebpemaa", sum := "68849f3e26973cd9497aeead5e6e6958aac949c8e30103688c3afc2c47c93e80", func := "scarp/scarplaw18.SeglogTurns", spec := "seglogTurns", unfollowed := true, recurses := true, apart := false }
def SeglogTurnsSaid : Prop := seglogTurnsRow.holds Try.pinned (OpenSpec.ofChange seglogTurnsSpec)

/-- ITS FALSE NEIGHBOUR: 'it returns false'. Refute it at one input. -/
def seglogTurnsWrong : ChangeSpec := { name := "seglogTurns", fn := fun _ => fun
  | [d1, d2, d3] => { results := [.lit (.bool false)], args := [d1, d2, d3] }
  | _ => none }
def SeglogTurnsWrongFalsely : Prop := seglogTurnsRow.holds Try.pinned (OpenSpec.ofChange seglogTurnsWrong)

/-- 'scarplaw18.SeglogLimits': WHATEVER THE INPUT: true; the input reads as it did. -/
def seglogLimitsSpec : ChangeSpec := { name := "seglogLimits", fn := fun _ => fun
  | [d1, d2, d3, d4] => { results := [.lit (.bool true)], args := [d1, d2, d3, d4] }
  | _ => none }
def seglogLimitsRow : OpenClaim := { program := "ytfpnodboebpemaa", sum := "68849f3e26973cd9497aeead5e6e6958aac949c8e30103688c3afc2c47c93e80", func := "scarp/scarplaw18.SeglogLimits", spec := "seglogLimits", unfollowed := true, recurses := true, apart := false }
def SeglogLimitsSaid : Prop := seglogLimitsRow.holds Try.pinned (OpenSpec.ofChange seglogLimitsSpec)

/-- ITS FALSE NEIGHBOUR: 'it returns false'. Refute it at one input. -/
def seglogLimitsWrong : ChangeSpec := { name := "seglogLimits", fn := fun _ => fun
  | [d1, d2, d3, d4] => { results := [.lit (.bool false)], args := [d1, d2, d3, d4] }
  | _ => none }
def SeglogLimitsWrongFalsely : Prop := seglogLimitsRow.holds Try.pinned (OpenSpec.ofChange seglogLimitsWrong)

/- THE SECOND FORM. 'bulk': how many values and letters a reading holds, each counted each time it is reached (what is shared counts as often as it is met; a slice's spare places count too). A statement '..UptoSaid' is the law's where the arguments, and the package variables that the reading takes, are together of bulk at most 1048576: NARROWER than '..Said'. Prove '..Said' where nothing that the law and all that it calls make is longer than what came in: it says more and counts as full. Else prove '..UptoSaid'. A law counts once. -/
mutual
def uptoBulk {H : Type} : DataW H → Nat
  | .lit (.string bytes) => bytes.length + 1
  | .lit _ => 1
  | .nil => 1
  | .ptr d => uptoBulk d + 1
  | .slice elems spare => uptoBulkAll elems + uptoBulkAll spare + 1
  | .agg parts => uptoBulkAll parts + 1
  | .iface _ d => uptoBulk d + 1
  | .map entries => uptoBulkEntries entries + 1
  | .held _ => 1
def uptoBulkAll {H : Type} : List (DataW H) → Nat
  | [] => 0
  | d :: r => uptoBulk d + uptoBulkAll r
def uptoBulkEntries {H : Type} : List (Lit × DataW H) → Nat
  | [] => 0
  | x :: r => uptoBulkEntry x + uptoBulkEntries r
def uptoBulkEntry {H : Type} : Lit × DataW H → Nat
  | (.string bytes, d) => bytes.length + uptoBulk d + 1
  | (_, d) => uptoBulk d + 1
 end
def uptoSmall : (H : Type) → List (DataW H) → Bool := fun _ ds => decide (uptoBulkAll ds ≤ 1048576)
def OpenSpec.upto (s : _root_.Go.ChangeSpec) : _root_.Go.OpenSpec := { _root_.Go.OpenSpec.ofChange s with cond := some uptoSmall }

/-- 'scarplaw8.FrameLimits', WHERE WHAT IT READS IS OF BULK AT MOST 1048576: true; the input reads as it did. -/
def frameLimitsUptoRow : OpenClaim := { program := "ytfpnodboebpemaa", sum := "68849f3e26973cd9497aeead5e6e6958aac949c8e30103688c3afc2c47c93e80", func := "scarp/scarplaw8.FrameLimits", spec := "frameLimits", unfollowed := true, recurses := true, apart := false, narrowed := true }
def FrameLimitsUptoSaid : Prop := frameLimitsUptoRow.holds Try.pinned (OpenSpec.upto frameLimitsSpec)

/-- 'scarplaw8.FrameApart', WHERE WHAT IT READS IS OF BULK AT MOST 1048576: true; the input reads as it did. -/
def frameApartUptoRow : OpenClaim := { program := "ytfpnodboebpemaa", sum := "68849f3e26973cd9497aeead5e6e6958aac949c8e30103688c3afc2c47c93e80", func := "scarp/scarplaw8.FrameApart", spec := "frameApart", unfollowed := true, recurses := true, apart := false, narrowed := true }
def FrameApartUptoSaid : Prop := frameApartUptoRow.holds Try.pinned (OpenSpec.upto frameApartSpec)

/-- 'scarplaw9.ZdevZones', WHERE WHAT IT READS IS OF BULK AT MOST 1048576: true; the input reads as it did. -/
def zdevZonesUptoRow : OpenClaim := { program := "ytfpnodboebpemaa", sum := "68849f3e26973cd9497aeead5e6e6958aac949c8e30103688c3afc2c47c93e80", func := "scarp/scarplaw9.ZdevZones", spec := "zdevZones", apart := false, narrowed := true }
def ZdevZonesUptoSaid : Prop := zdevZonesUptoRow.holds Try.pinned (OpenSpec.upto zdevZonesSpec)

/-- 'scarplaw9.ZdevFull', WHERE WHAT IT READS IS OF BULK AT MOST 1048576: true; the input reads as it did. -/
def zdevFullUptoRow : OpenClaim := { program := "ytfpnodboebpemaa", sum := "68849f3e26973cd9497aeead5e6e6958aac949c8e30103688c3afc2c47c93e80", func := "scarp/scarplaw9.ZdevFull", spec := "zdevFull", apart := false, narrowed := true }
def ZdevFullUptoSaid : Prop := zdevFullUptoRow.holds Try.pinned (OpenSpec.upto zdevFullSpec)

/-- 'scarplaw17.BatchLimits', WHERE WHAT IT READS IS OF BULK AT MOST 1048576: true; the input reads as it did. -/
def batchLimitsUptoRow : OpenClaim := { program := "ytfpnodboebpemaa", sum := "68849f3e26973cd9497aeead5e6e6958aac949c8e30103688c3afc2c47c93e80", func := "scarp/scarplaw17.BatchLimits", spec := "batchLimits", unfollowed := true, recurses := true, apart := false, narrowed := true }
def BatchLimitsUptoSaid : Prop := batchLimitsUptoRow.holds Try.pinned (OpenSpec.upto batchLimitsSpec)

/-- 'scarplaw8.FrameCodes', WHERE WHAT IT READS IS OF BULK AT MOST 1048576: true; the input reads as it did. -/
def frameCodesUptoRow : OpenClaim := { program := "ytfpnodboebpemaa", sum := "68849f3e26973cd9497aeead5e6e6958aac949c8e30103688c3afc2c47c93e80", func := "scarp/scarplaw8.FrameCodes", spec := "frameCodes", unfollowed := true, recurses := true, apart := false, narrowed := true }
def FrameCodesUptoSaid : Prop := frameCodesUptoRow.holds Try.pinned (OpenSpec.upto frameCodesSpec)

/-- 'scarplaw18.SeglogApart', WHERE WHAT IT READS IS OF BULK AT MOST 1048576: true; the input reads as it did. -/
def seglogApartUptoRow : OpenClaim := { program := "ytfpnodboebpemaa", sum := "68849f3e26973cd9497aeead5e6e6958aac949c8e30103688c3afc2c47c93e80", func := "scarp/scarplaw18.SeglogApart", spec := "seglogApart", unfollowed := true, recurses := true, apart := false, narrowed := true }
def SeglogApartUptoSaid : Prop := seglogApartUptoRow.holds Try.pinned (OpenSpec.upto seglogApartSpec)

/-- 'scarplaw8.FrameBack', WHERE WHAT IT READS IS OF BULK AT MOST 1048576: true; the input reads as it did. -/
def frameBackUptoRow : OpenClaim := { program := "ytfpnodboebpemaa", sum := "68849f3e26973cd9497aeead5e6e6958aac949c8e30103688c3afc2c47c93e80", func := "scarp/scarplaw8.FrameBack", spec := "frameBack", unfollowed := true, recurses := true, apart := false, narrowed := true }
def FrameBackUptoSaid : Prop := frameBackUptoRow.holds Try.pinned (OpenSpec.upto frameBackSpec)

/-- 'scarplaw8.FrameTorn', WHERE WHAT IT READS IS OF BULK AT MOST 1048576: true; the input reads as it did. -/
def frameTornUptoRow : OpenClaim := { program := "ytfpnodboebpemaa", sum := "68849f3e26973cd9497aeead5e6e6958aac949c8e30103688c3afc2c47c93e80", func := "scarp/scarplaw8.FrameTorn", spec := "frameTorn", unfollowed := true, recurses := true, apart := false, narrowed := true }
def FrameTornUptoSaid : Prop := frameTornUptoRow.holds Try.pinned (OpenSpec.upto frameTornSpec)

/-- 'scarplaw18.SeglogCrash', WHERE WHAT IT READS IS OF BULK AT MOST 1048576: true; the input reads as it did. -/
def seglogCrashUptoRow : OpenClaim := { program := "ytfpnodboebpemaa", sum := "68849f3e26973cd9497aeead5e6e6958aac949c8e30103688c3afc2c47c93e80", func := "scarp/scarplaw18.SeglogCrash", spec := "seglogCrash", unfollowed := true, recurses := true, apart := false, narrowed := true }
def SeglogCrashUptoSaid : Prop := seglogCrashUptoRow.holds Try.pinned (OpenSpec.upto seglogCrashSpec)

/-- 'scarplaw9.ZdevNothing', WHERE WHAT IT READS IS OF BULK AT MOST 1048576: true; the input reads as it did. -/
def zdevNothingUptoRow : OpenClaim := { program := "ytfpnodboebpemaa", sum := "68849f3e26973cd9497aeead5e6e6958aac949c8e30103688c3afc2c47c93e80", func := "scarp/scarplaw9.ZdevNothing", spec := "zdevNothing", apart := false, narrowed := true }
def ZdevNothingUptoSaid : Prop := zdevNothingUptoRow.holds Try.pinned (OpenSpec.upto zdevNothingSpec)

/-- 'scarplaw17.BatchForms', WHERE WHAT IT READS IS OF BULK AT MOST 1048576: true; the input reads as it did. -/
def batchFormsUptoRow : OpenClaim := { program := "ytfpnodboebpemaa", sum := "68849f3e26973cd9497aeead5e6e6958aac949c8e30103688c3afc2c47c93e80", func := "scarp/scarplaw17.BatchForms", spec := "batchForms", unfollowed := true, recurses := true, apart := false, narrowed := true }
def BatchFormsUptoSaid : Prop := batchFormsUptoRow.holds Try.pinned (OpenSpec.upto batchFormsSpec)

/-- 'scarplaw9.ZdevApart', WHERE WHAT IT READS IS OF BULK AT MOST 1048576: true; the input reads as it did. -/
def zdevApartUptoRow : OpenClaim := { program := "ytfpnodboebpemaa", sum := "68849f3e26973cd9497aeead5e6e6958aac949c8e30103688c3afc2c47c93e80", func := "scarp/scarplaw9.ZdevApart", spec := "zdevApart", apart := false, narrowed := true }
def ZdevApartUptoSaid : Prop := zdevApartUptoRow.holds Try.pinned (OpenSpec.upto zdevApartSpec)

/-- 'scarplaw17.BatchDecodes', WHERE WHAT IT READS IS OF BULK AT MOST 1048576: true; the input reads as it did. -/
def batchDecodesUptoRow : OpenClaim := { program := "ytfpnodboebpemaa", sum := "68849f3e26973cd9497aeead5e6e6958aac949c8e30103688c3afc2c47c93e80", func := "scarp/scarplaw17.BatchDecodes", spec := "batchDecodes", unfollowed := true, recurses := true, apart := false, narrowed := true }
def BatchDecodesUptoSaid : Prop := batchDecodesUptoRow.holds Try.pinned (OpenSpec.upto batchDecodesSpec)

/-- 'scarplaw17.BatchBack', WHERE WHAT IT READS IS OF BULK AT MOST 1048576: true; the input reads as it did. -/
def batchBackUptoRow : OpenClaim := { program := "ytfpnodboebpemaa", sum := "68849f3e26973cd9497aeead5e6e6958aac949c8e30103688c3afc2c47c93e80", func := "scarp/scarplaw17.BatchBack", spec := "batchBack", unfollowed := true, recurses := true, apart := false, narrowed := true }
def BatchBackUptoSaid : Prop := batchBackUptoRow.holds Try.pinned (OpenSpec.upto batchBackSpec)

/-- 'scarplaw17.BatchRow', WHERE WHAT IT READS IS OF BULK AT MOST 1048576: true; the input reads as it did. -/
def batchRowUptoRow : OpenClaim := { program := "ytfpnodboebpemaa", sum := "68849f3e26973cd9497aeead5e6e6958aac949c8e30103688c3afc2c47c93e80", func := "scarp/scarplaw17.BatchRow", spec := "batchRow", unfollowed := true, recurses := true, apart := false, narrowed := true }
def BatchRowUptoSaid : Prop := batchRowUptoRow.holds Try.pinned (OpenSpec.upto batchRowSpec)

/-- 'scarplaw19.SlotPlays', WHERE WHAT IT READS IS OF BULK AT MOST 1048576: true; the input reads as it did. -/
def slotPlaysUptoRow : OpenClaim := { program := "ytfpnodboebpemaa", sum := "68849f3e26973cd9497aeead5e6e6958aac949c8e30103688c3afc2c47c93e80", func := "scarp/scarplaw19.SlotPlays", spec := "slotPlays", unfollowed := true, recurses := true, apart := false, narrowed := true }
def SlotPlaysUptoSaid : Prop := slotPlaysUptoRow.holds Try.pinned (OpenSpec.upto slotPlaysSpec)

/-- 'scarplaw19.SlotNothing', WHERE WHAT IT READS IS OF BULK AT MOST 1048576: true; the input reads as it did. -/
def slotNothingUptoRow : OpenClaim := { program := "ytfpnodboebpemaa", sum := "68849f3e26973cd9497aeead5e6e6958aac949c8e30103688c3afc2c47c93e80", func := "scarp/scarplaw19.SlotNothing", spec := "slotNothing", unfollowed := true, recurses := true, apart := false, narrowed := true }
def SlotNothingUptoSaid : Prop := slotNothingUptoRow.holds Try.pinned (OpenSpec.upto slotNothingSpec)

/-- 'scarplaw19.SlotApart', WHERE WHAT IT READS IS OF BULK AT MOST 1048576: true; the input reads as it did. -/
def slotApartUptoRow : OpenClaim := { program := "ytfpnodboebpemaa", sum := "68849f3e26973cd9497aeead5e6e6958aac949c8e30103688c3afc2c47c93e80", func := "scarp/scarplaw19.SlotApart", spec := "slotApart", unfollowed := true, recurses := true, apart := false, narrowed := true }
def SlotApartUptoSaid : Prop := slotApartUptoRow.holds Try.pinned (OpenSpec.upto slotApartSpec)

/-- 'scarplaw19.SlotTurns', WHERE WHAT IT READS IS OF BULK AT MOST 1048576: true; the input reads as it did. -/
def slotTurnsUptoRow : OpenClaim := { program := "ytfpnodboebpemaa", sum := "68849f3e26973cd9497aeead5e6e6958aac949c8e30103688c3afc2c47c93e80", func := "scarp/scarplaw19.SlotTurns", spec := "slotTurns", unfollowed := true, recurses := true, apart := false, narrowed := true }
def SlotTurnsUptoSaid : Prop := slotTurnsUptoRow.holds Try.pinned (OpenSpec.upto slotTurnsSpec)

/-- 'scarplaw19.SlotCrash', WHERE WHAT IT READS IS OF BULK AT MOST 1048576: true; the input reads as it did. -/
def slotCrashUptoRow : OpenClaim := { program := "ytfpnodboebpemaa", sum := "68849f3e26973cd9497aeead5e6e6958aac949c8e30103688c3afc2c47c93e80", func := "scarp/scarplaw19.SlotCrash", spec := "slotCrash", unfollowed := true, recurses := true, apart := false, narrowed := true }
def SlotCrashUptoSaid : Prop := slotCrashUptoRow.holds Try.pinned (OpenSpec.upto slotCrashSpec)

/-- 'scarplaw18.SeglogPlays', WHERE WHAT IT READS IS OF BULK AT MOST 1048576: true; the input reads as it did. -/
def seglogPlaysUptoRow : OpenClaim := { program := "ytfpnodboebpemaa", sum := "68849f3e26973cd9497aeead5e6e6958aac949c8e30103688c3afc2c47c93e80", func := "scarp/scarplaw18.SeglogPlays", spec := "seglogPlays", unfollowed := true, recurses := true, apart := false, narrowed := true }
def SeglogPlaysUptoSaid : Prop := seglogPlaysUptoRow.holds Try.pinned (OpenSpec.upto seglogPlaysSpec)

/-- 'scarplaw18.SeglogTurns', WHERE WHAT IT READS IS OF BULK AT MOST 1048576: true; the input reads as it did. -/
def seglogTurnsUptoRow : OpenClaim := { program := "ytfpnodboebpemaa", sum := "68849f3e26973cd9497aeead5e6e6958aac949c8e30103688c3afc2c47c93e80", func := "scarp/scarplaw18.SeglogTurns", spec := "seglogTurns", unfollowed := true, recurses := true, apart := false, narrowed := true }
def SeglogTurnsUptoSaid : Prop := seglogTurnsUptoRow.holds Try.pinned (OpenSpec.upto seglogTurnsSpec)

/-- 'scarplaw18.SeglogLimits', WHERE WHAT IT READS IS OF BULK AT MOST 1048576: true; the input reads as it did. -/
def seglogLimitsUptoRow : OpenClaim := { program := "ytfpnodboebpemaa", sum := "68849f3e26973cd9497aeead5e6e6958aac949c8e30103688c3afc2c47c93e80", func := "scarp/scarplaw18.SeglogLimits", spec := "seglogLimits", unfollowed := true, recurses := true, apart := false, narrowed := true }
def SeglogLimitsUptoSaid : Prop := seglogLimitsUptoRow.holds Try.pinned (OpenSpec.upto seglogLimitsSpec)

end Rows
end Go.Proofs.Ytfpnodboebpemaa

/-
  NARROWER THAN 'FOR EVERY INPUT', by the rows' own cells (each row's printed sentence says how): SealKeepsRings: laid · SealChecksAsSpecified: laid · SealRotatesInTime: laid · SealBlindsApart: laid · SealChangesRings: laid · SealHoldsInItsDays: laid.
  DERIVED. THE GIVEN ROWS OF THIS SEAT. 6 by the template 'for every input the law returns true; each argument reads behind the call as it read before'; 0 by the template 'total and deterministic' (their statements: YtbccfgeepdmegaaDoorTotals.lean).
  GIVEN WITH THE SEED: the statements are not yours to turn. If you find one false, say at which input.
  Laid BY PROGRAM, IN A SANDBOX (cutbox-rows.mjs): the forced cells as the released guide's own fill.sh prints them over the translation 0c485bd2084c3d48… (all of the seat's roots in one cut). By AI agents, Wed Nov 11 2026. No macro, syntax, notation, axiom, sorry.
-/
import Derived.Test.YtbccfgeepdmegaaDoorChecked
import GoSem.Claim
import GoSem.ClaimJoined
import GoSem.ClaimMapViews
import Derived.JoinedTies
import Derived.KernelRfl
namespace Go.Proofs.YtbccfgeepdmegaaDoor
/- THE CELL 'sum', in the pinned program and in every row, IS THE sha256 OF THE DUMP (.gsa) THAT YtbccfgeepdmegaaDoorProg.lean LOADS. Nothing in Lean hashes anything: it is a label: what it is worth is what the hold of that sum in a sandbox is worth. -/
noncomputable def Tryd.pinned : Pinned := { name := "ytbccfgeepdmegaadoor", sum := "0c485bd2084c3d48ba225d9786ea2c1b9e76ae9d7ab8e9ed61031ded5a9d56c1", checked := Tryd.checked }
namespace Rows
def none {H : Type} : Left H := { results := [], args := [] }

/- WHAT THE LISTED PACKAGE-LEVEL VARIABLES READ AS WHEN THE CALL BEGINS. Each datum BY PROGRAM (the guide's laid-datum.mjs) off the statement by which the dump's own 'gosem.cut.vars' lays the variable. In a bare row this is a premise. The card (YtbccfgeepdmegaaDoorCards.lean) ties it to the program's text. -/
def laid_antiquary_hash_constants {H : Type} : DataW H := .agg [.lit (.int .u32 1116352408), .lit (.int .u32 1899447441), .lit (.int .u32 3049323471), .lit (.int .u32 3921009573), .lit (.int .u32 961987163), .lit (.int .u32 1508970993), .lit (.int .u32 2453635748), .lit (.int .u32 2870763221), .lit (.int .u32 3624381080), .lit (.int .u32 310598401), .lit (.int .u32 607225278), .lit (.int .u32 1426881987), .lit (.int .u32 1925078388), .lit (.int .u32 2162078206), .lit (.int .u32 2614888103), .lit (.int .u32 3248222580), .lit (.int .u32 3835390401), .lit (.int .u32 4022224774), .lit (.int .u32 264347078), .lit (.int .u32 604807628), .lit (.int .u32 770255983), .lit (.int .u32 1249150122), .lit (.int .u32 1555081692), .lit (.int .u32 1996064986), .lit (.int .u32 2554220882), .lit (.int .u32 2821834349), .lit (.int .u32 2952996808), .lit (.int .u32 3210313671), .lit (.int .u32 3336571891), .lit (.int .u32 3584528711), .lit (.int .u32 113926993), .lit (.int .u32 338241895), .lit (.int .u32 666307205), .lit (.int .u32 773529912), .lit (.int .u32 1294757372), .lit (.int .u32 1396182291), .lit (.int .u32 1695183700), .lit (.int .u32 1986661051), .lit (.int .u32 2177026350), .lit (.int .u32 2456956037), .lit (.int .u32 2730485921), .lit (.int .u32 2820302411), .lit (.int .u32 3259730800), .lit (.int .u32 3345764771), .lit (.int .u32 3516065817), .lit (.int .u32 3600352804), .lit (.int .u32 4094571909), .lit (.int .u32 275423344), .lit (.int .u32 430227734), .lit (.int .u32 506948616), .lit (.int .u32 659060556), .lit (.int .u32 883997877), .lit (.int .u32 958139571), .lit (.int .u32 1322822218), .lit (.int .u32 1537002063), .lit (.int .u32 1747873779), .lit (.int .u32 1955562222), .lit (.int .u32 2024104815), .lit (.int .u32 2227730452), .lit (.int .u32 2361852424), .lit (.int .u32 2428436474), .lit (.int .u32 2756734187), .lit (.int .u32 3204031479), .lit (.int .u32 3329325298)]
def laid_antiquary_antiquaryref02_constants {H : Type} : DataW H := .agg [.lit (.int .u32 1116352408), .lit (.int .u32 1899447441), .lit (.int .u32 3049323471), .lit (.int .u32 3921009573), .lit (.int .u32 961987163), .lit (.int .u32 1508970993), .lit (.int .u32 2453635748), .lit (.int .u32 2870763221), .lit (.int .u32 3624381080), .lit (.int .u32 310598401), .lit (.int .u32 607225278), .lit (.int .u32 1426881987), .lit (.int .u32 1925078388), .lit (.int .u32 2162078206), .lit (.int .u32 2614888103), .lit (.int .u32 3248222580), .lit (.int .u32 3835390401), .lit (.int .u32 4022224774), .lit (.int .u32 264347078), .lit (.int .u32 604807628), .lit (.int .u32 770255983), .lit (.int .u32 1249150122), .lit (.int .u32 1555081692), .lit (.int .u32 1996064986), .lit (.int .u32 2554220882), .lit (.int .u32 2821834349), .lit (.int .u32 2952996808), .lit (.int .u32 3210313671), .lit (.int .u32 3336571891), .lit (.int .u32 3584528711), .lit (.int .u32 113926993), .lit (.int .u32 338241895), .lit (.int .u32 666307205), .lit (.int .u32 773529912), .lit (.int .u32 1294757372), .lit (.int .u32 1396182291), .lit (.int .u32 1695183700), .lit (.int .u32 1986661051), .lit (.int .u32 2177026350), .lit (.int .u32 2456956037), .lit (.int .u32 2730485921), .lit (.int .u32 2820302411), .lit (.int .u32 3259730800), .lit (.int .u32 3345764771), .lit (.int .u32 3516065817), .lit (.int .u32 3600352804), .lit (.int .u32 4094571909), .lit (.int .u32 275423344), .lit (.int .u32 430227734), .lit (.int .u32 506948616), .lit (.int .u32 659060556), .lit (.int .u32 883997877), .lit (.int .u32 958139571), .lit (.int .u32 1322822218), .lit (.int .u32 1537002063), .lit (.int .u32 1747873779), .lit (.int .u32 1955562222), .lit (.int .u32 2024104815), .lit (.int .u32 2227730452), .lit (.int .u32 2361852424), .lit (.int .u32 2428436474), .lit (.int .u32 2756734187), .lit (.int .u32 3204031479), .lit (.int .u32 3329325298)]

/-- 'antiquarylaw12.SealKeepsRings': WHATEVER THE INPUT: true; the input reads as it did. -/
def sealKeepsRingsSpec : ChangeSpec := { name := "sealKeepsRings", fn := fun _ => fun
  | [d1, d2, d3, d4, d5] => { results := [.lit (.bool true)], args := [d1, d2, d3, d4, d5] }
  | _ => none }
def sealKeepsRingsRow : OpenClaim := { program := "ytbccfgeepdmegaadoor", sum := "0c485bd2084c3d48ba225d9786ea2c1b9e76ae9d7ab8e9ed61031ded5a9d56c1", func := "antiquary/antiquarylaw12.SealKeepsRings", spec := "sealKeepsRings", unfollowed := true, recurses := true, named := ["antiquary/hash.constants"], apart := false, laid := [("antiquary/hash.constants", laid_antiquary_hash_constants)] }
def SealKeepsRingsSaid : Prop := sealKeepsRingsRow.holds Tryd.pinned (OpenSpec.ofChange sealKeepsRingsSpec)

/-- ITS FALSE NEIGHBOUR: 'it returns false'. Refute it at one input. -/
def sealKeepsRingsWrong : ChangeSpec := { name := "sealKeepsRings", fn := fun _ => fun
  | [d1, d2, d3, d4, d5] => { results := [.lit (.bool false)], args := [d1, d2, d3, d4, d5] }
  | _ => none }
def SealKeepsRingsWrongFalsely : Prop := sealKeepsRingsRow.holds Tryd.pinned (OpenSpec.ofChange sealKeepsRingsWrong)

/-- 'antiquarylaw12.SealChecksAsSpecified': WHATEVER THE INPUT: true; the input reads as it did. -/
def sealChecksAsSpecifiedSpec : ChangeSpec := { name := "sealChecksAsSpecified", fn := fun _ => fun
  | [d1, d2, d3, d4, d5, d6, d7, d8, d9] => { results := [.lit (.bool true)], args := [d1, d2, d3, d4, d5, d6, d7, d8, d9] }
  | _ => none }
def sealChecksAsSpecifiedRow : OpenClaim := { program := "ytbccfgeepdmegaadoor", sum := "0c485bd2084c3d48ba225d9786ea2c1b9e76ae9d7ab8e9ed61031ded5a9d56c1", func := "antiquary/antiquarylaw12.SealChecksAsSpecified", spec := "sealChecksAsSpecified", unfollowed := true, recurses := true, named := ["antiquary/hash.constants", "antiquary/antiquaryref02.constants"], apart := false, laid := [("antiquary/antiquaryref02.constants", laid_antiquary_antiquaryref02_constants), ("antiquary/hash.constants", laid_antiquary_hash_constants)] }
def SealChecksAsSpecifiedSaid : Prop := sealChecksAsSpecifiedRow.holds Tryd.pinned (OpenSpec.ofChange sealChecksAsSpecifiedSpec)

/-- ITS FALSE NEIGHBOUR: 'it returns false'. Refute it at one input. -/
def sealChecksAsSpecifiedWrong : ChangeSpec := { name := "sealChecksAsSpecified", fn := fun _ => fun
  | [d1, d2, d3, d4, d5, d6, d7, d8, d9] => { results := [.lit (.bool false)], args := [d1, d2, d3, d4, d5, d6, d7, d8, d9] }
  | _ => none }
def SealChecksAsSpecifiedWrongFalsely : Prop := sealChecksAsSpecifiedRow.holds Tryd.pinned (OpenSpec.ofChange sealChecksAsSpecifiedWrong)

/-- 'antiquarylaw12.SealRotatesInTime': WHATEVER THE INPUT: true; the input reads as it did. -/
def sealRotatesInTimeSpec : ChangeSpec := { name := "sealRotatesInTime", fn := fun _ => fun
  | [d1, d2, d3, d4, d5] => { results := [.lit (.bool true)], args := [d1, d2, d3, d4, d5] }
  | _ => none }
def sealRotatesInTimeRow : OpenClaim := { program := "ytbccfgeepdmegaadoor", sum := "0c485bd2084c3d48ba225d9786ea2c1b9e76ae9d7ab8e9ed61031ded5a9d56c1", func := "antiquary/antiquarylaw12.SealRotatesInTime", spec := "sealRotatesInTime", unfollowed := true, recurses := true, named := ["antiquary/hash.constants"], apart := false, laid := [("antiquary/hash.constants", laid_antiquary_hash_constants)] }
def SealRotatesInTimeSaid : Prop := sealRotatesInTimeRow.holds Tryd.pinned (OpenSpec.ofChange sealRotatesInTimeSpec)

/-- ITS FALSE NEIGHBOUR: 'it returns false'. Refute it at one input. -/
def sealRotatesInTimeWrong : ChangeSpec := { name := "sealRotatesInTime", fn := fun _ => fun
  | [d1, d2, d3, d4, d5] => { results := [.lit (.bool false)], args := [d1, d2, d3, d4, d5] }
  | _ => none }
def SealRotatesInTimeWrongFalsely : Prop := sealRotatesInTimeRow.holds Tryd.pinned (OpenSpec.ofChange sealRotatesInTimeWrong)

/-- 'antiquarylaw12.SealBlindsApart': WHATEVER THE INPUT: true; the input reads as it did. -/
def sealBlindsApartSpec : ChangeSpec := { name := "sealBlindsApart", fn := fun _ => fun
  | [d1, d2, d3, d4] => { results := [.lit (.bool true)], args := [d1, d2, d3, d4] }
  | _ => none }
def sealBlindsApartRow : OpenClaim := { program := "ytbccfgeepdmegaadoor", sum := "0c485bd2084c3d48ba225d9786ea2c1b9e76ae9d7ab8e9ed61031ded5a9d56c1", func := "antiquary/antiquarylaw12.SealBlindsApart", spec := "sealBlindsApart", unfollowed := true, recurses := true, named := ["antiquary/hash.constants"], apart := false, laid := [("antiquary/hash.constants", laid_antiquary_hash_constants)] }
def SealBlindsApartSaid : Prop := sealBlindsApartRow.holds Tryd.pinned (OpenSpec.ofChange sealBlindsApartSpec)

/-- ITS FALSE NEIGHBOUR: 'it returns false'. Refute it at one input. -/
def sealBlindsApartWrong : ChangeSpec := { name := "sealBlindsApart", fn := fun _ => fun
  | [d1, d2, d3, d4] => { results := [.lit (.bool false)], args := [d1, d2, d3, d4] }
  | _ => none }
def SealBlindsApartWrongFalsely : Prop := sealBlindsApartRow.holds Tryd.pinned (OpenSpec.ofChange sealBlindsApartWrong)

/-- 'antiquarylaw12.SealChangesRings': WHATEVER THE INPUT: true; the input reads as it did. -/
def sealChangesRingsSpec : ChangeSpec := { name := "sealChangesRings", fn := fun _ => fun
  | [d1, d2, d3, d4, d5] => { results := [.lit (.bool true)], args := [d1, d2, d3, d4, d5] }
  | _ => none }
def sealChangesRingsRow : OpenClaim := { program := "ytbccfgeepdmegaadoor", sum := "0c485bd2084c3d48ba225d9786ea2c1b9e76ae9d7ab8e9ed61031ded5a9d56c1", func := "antiquary/antiquarylaw12.SealChangesRings", spec := "sealChangesRings", unfollowed := true, recurses := true, named := ["antiquary/hash.constants"], apart := false, laid := [("antiquary/hash.constants", laid_antiquary_hash_constants)] }
def SealChangesRingsSaid : Prop := sealChangesRingsRow.holds Tryd.pinned (OpenSpec.ofChange sealChangesRingsSpec)

/-- ITS FALSE NEIGHBOUR: 'it returns false'. Refute it at one input. -/
def sealChangesRingsWrong : ChangeSpec := { name := "sealChangesRings", fn := fun _ => fun
  | [d1, d2, d3, d4, d5] => { results := [.lit (.bool false)], args := [d1, d2, d3, d4, d5] }
  | _ => none }
def SealChangesRingsWrongFalsely : Prop := sealChangesRingsRow.holds Tryd.pinned (OpenSpec.ofChange sealChangesRingsWrong)

/-- 'antiquarylaw12.SealHoldsInItsDays': WHATEVER THE INPUT: true; the input reads as it did. -/
def sealHoldsInItsDaysSpec : ChangeSpec := { name := "sealHoldsInItsDays", fn := fun _ => fun
  | [d1, d2, d3, d4, d5, d6, d7] => { results := [.lit (.bool true)], args := [d1, d2, d3, d4, d5, d6, d7] }
  | _ => none }
def sealHoldsInItsDaysRow : OpenClaim := { program := "ytbccfgeepdmegaadoor", sum := "0c485bd2084c3d48ba225d9786ea2c1b9e76ae9d7ab8e9ed61031ded5a9d56c1", func := "antiquary/antiquarylaw12.SealHoldsInItsDays", spec := "sealHoldsInItsDays", unfollowed := true, recurses := true, named := ["antiquary/hash.constants"], apart := false, laid := [("antiquary/hash.constants", laid_antiquary_hash_constants)] }
def SealHoldsInItsDaysSaid : Prop := sealHoldsInItsDaysRow.holds Tryd.pinned (OpenSpec.ofChange sealHoldsInItsDaysSpec)

/-- ITS FALSE NEIGHBOUR: 'it returns false'. Refute it at one input. -/
def sealHoldsInItsDaysWrong : ChangeSpec := { name := "sealHoldsInItsDays", fn := fun _ => fun
  | [d1, d2, d3, d4, d5, d6, d7] => { results := [.lit (.bool false)], args := [d1, d2, d3, d4, d5, d6, d7] }
  | _ => none }
def SealHoldsInItsDaysWrongFalsely : Prop := sealHoldsInItsDaysRow.holds Tryd.pinned (OpenSpec.ofChange sealHoldsInItsDaysWrong)

/- THE SECOND FORM. 'bulk': how many values and letters a reading holds, each counted each time it is reached (what is shared counts as often as it is met; a slice's spare places count too). A statement '..UptoSaid' is the law's where the arguments, and the package variables that the reading takes, are together of bulk at most 1048576: NARROWER than '..Said'. Prove '..Said' where nothing that the law and all that it calls make is longer than what came in: it says more and counts as full. Else prove '..UptoSaid'. A law counts once. -/
mutual
def uptoBulk {H : Type} : DataW H → Nat
  | .lit (.string bytes) => bytes.length + 1
  | .lit _ => 1
  | .nil => 1
  | .ptr d => uptoBulk d + 1
  | .slice elems spare => uptoBulkAll elems + uptoBulkAll spare + 1
  | .agg parts => uptoBulkAll parts + 1
  | .iface _ d => uptoBulk d + 1
  | .map entries => uptoBulkEntries entries + 1
  | .held _ => 1
def uptoBulkAll {H : Type} : List (DataW H) → Nat
  | [] => 0
  | d :: r => uptoBulk d + uptoBulkAll r
def uptoBulkEntries {H : Type} : List (Lit × DataW H) → Nat
  | [] => 0
  | x :: r => uptoBulkEntry x + uptoBulkEntries r
def uptoBulkEntry {H : Type} : Lit × DataW H → Nat
  | (.string bytes, d) => bytes.length + uptoBulk d + 1
  | (_, d) => uptoBulk d + 1
 end
def uptoSmall : (H : Type) → List (DataW H) → Bool := fun _ ds => decide (uptoBulkAll ds ≤ 1048576)
def OpenSpec.upto (s : _root_.Go.ChangeSpec) : _root_.Go.OpenSpec := { _root_.Go.OpenSpec.ofChange s with cond := some uptoSmall }

/-- 'antiquarylaw12.SealKeepsRings', WHERE WHAT IT READS IS OF BULK AT MOST 1048576: true; the input reads as it did. -/
def sealKeepsRingsUptoRow : OpenClaim := { program := "ytbccfgeepdmegaadoor", sum := "0c485bd2084c3d48ba225d9786ea2c1b9e76ae9d7ab8e9ed61031ded5a9d56c1", func := "antiquary/antiquarylaw12.SealKeepsRings", spec := "sealKeepsRings", unfollowed := true, recurses := true, named := ["antiquary/hash.constants"], apart := false, laid := [("antiquary/hash.constants", laid_antiquary_hash_constants)], narrowed := true }
def SealKeepsRingsUptoSaid : Prop := sealKeepsRingsUptoRow.holds Tryd.pinned (OpenSpec.upto sealKeepsRingsSpec)

/-- 'antiquarylaw12.SealChecksAsSpecified', WHERE WHAT IT READS IS OF BULK AT MOST 1048576: true; the input reads as it did. -/
def sealChecksAsSpecifiedUptoRow : OpenClaim := { program := "ytbccfgeepdmegaadoor", sum := "0c485bd2084c3d48ba225d9786ea2c1b9e76ae9d7ab8e9ed61031ded5a9d56c1", func := "antiquary/antiquarylaw12.SealChecksAsSpecified", spec := "sealChecksAsSpecified", unfollowed := true, recurses := true, named := ["antiquary/hash.constants", "antiquary/antiquaryref02.constants"], apart := false, laid := [("antiquary/antiquaryref02.constants", laid_antiquary_antiquaryref02_constants), ("antiquary/hash.constants", laid_antiquary_hash_constants)], narrowed := true }
def SealChecksAsSpecifiedUptoSaid : Prop := sealChecksAsSpecifiedUptoRow.holds Tryd.pinned (OpenSpec.upto sealChecksAsSpecifiedSpec)

/-- 'antiquarylaw12.SealRotatesInTime', WHERE WHAT IT READS IS OF BULK AT MOST 1048576: true; the input reads as it did. -/
def sealRotatesInTimeUptoRow : OpenClaim := { program := "ytbccfgeepdmegaadoor", sum := "0c485bd2084c3d48ba225d9786ea2c1b9e76ae9d7ab8e9ed61031ded5a9d56c1", func := "antiquary/antiquarylaw12.SealRotatesInTime", spec := "sealRotatesInTime", unfollowed := true, recurses := true, named := ["antiquary/hash.constants"], apart := false, laid := [("antiquary/hash.constants", laid_antiquary_hash_constants)], narrowed := true }
def SealRotatesInTimeUptoSaid : Prop := sealRotatesInTimeUptoRow.holds Tryd.pinned (OpenSpec.upto sealRotatesInTimeSpec)

/-- 'antiquarylaw12.SealBlindsApart', WHERE WHAT IT READS IS OF BULK AT MOST 1048576: true; the input reads as it did. -/
def sealBlindsApartUptoRow : OpenClaim := { program := "ytbccfgeepdmegaadoor", sum := "0c485bd2084c3d48ba225d9786ea2c1b9e76ae9d7ab8e9ed61031ded5a9d56c1", func := "antiquary/antiquarylaw12.SealBlindsApart", spec := "sealBlindsApart", unfollowed := true, recurses := true, named := ["antiquary/hash.constants"], apart := false, laid := [("antiquary/hash.constants", laid_antiquary_hash_constants)], narrowed := true }
def SealBlindsApartUptoSaid : Prop := sealBlindsApartUptoRow.holds Tryd.pinned (OpenSpec.upto sealBlindsApartSpec)

/-- 'antiquarylaw12.SealChangesRings', WHERE WHAT IT READS IS OF BULK AT MOST 1048576: true; the input reads as it did. -/
def sealChangesRingsUptoRow : OpenClaim := { program := "ytbccfgeepdmegaadoor", sum := "0c485bd2084c3d48ba225d9786ea2c1b9e76ae9d7ab8e9ed61031ded5a9d56c1", func := "antiquary/antiquarylaw12.SealChangesRings", spec := "sealChangesRings", unfollowed := true, recurses := true, named := ["antiquary/hash.constants"], apart := false, laid := [("antiquary/hash.constants", laid_antiquary_hash_constants)], narrowed := true }
def SealChangesRingsUptoSaid : Prop := sealChangesRingsUptoRow.holds Tryd.pinned (OpenSpec.upto sealChangesRingsSpec)

/-- 'antiquarylaw12.SealHoldsInItsDays', WHERE WHAT IT READS IS OF BULK AT MOST 1048576: true; the input reads as it did. -/
def sealHoldsInItsDaysUptoRow : OpenClaim := { program := "ytbccfgeepdmegaadoor", sum := "0c485bd2084c3d48ba225d9786ea2c1b9e76ae9d7ab8e9ed61031ded5a9d56c1", func := "antiquary/antiquarylaw12.SealHoldsInItsDays", spec := "sealHoldsInItsDays", unfollowed := true, recurses := true, named := ["antiquary/hash.constants"], apart := false, laid := [("antiquary/hash.constants", laid_antiquary_hash_constants)], narrowed := true }
def SealHoldsInItsDaysUptoSaid : Prop := sealHoldsInItsDaysUptoRow.holds Tryd.pinned (OpenSpec.upto sealHoldsInItsDaysSpec)

end Rows
end Go.Proofs.YtbccfgeepdmegaaDoor

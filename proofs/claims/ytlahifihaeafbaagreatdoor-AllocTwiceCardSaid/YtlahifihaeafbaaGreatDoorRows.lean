/-
  NARROWER THAN 'FOR EVERY INPUT', by the rows' own cells (each row's printed sentence says how): AllocLives: laid · AllocAccepts: laid · AllocAllocates: laid · AllocAlways: laid · AllocSpares: laid · AllocNames: laid · AllocMore: laid · AllocLive: laid · AllocCaught: laid · AllocTwice: laid · AllocCode: laid.
  DERIVED. THE GIVEN ROWS OF THIS SEAT. 11 by the template 'for every input the law returns true; each argument reads behind the call as it read before'; 0 by the template 'total and deterministic' (their statements: YtlahifihaeafbaaGreatDoorTotals.lean).
  GIVEN WITH THE SEED: the statements are not yours to turn. If you find one false, say at which input.
  Laid BY PROGRAM, IN A SANDBOX (cutbox-rows.mjs): the forced cells as the released guide's own fill.sh prints them over the translation 40b0be5ce80f55c2… (all of the seat's roots in one cut). By AI agents, Wed Nov 11 2026. No macro, syntax, notation, axiom, sorry.
-/
import Derived.Test.YtlahifihaeafbaaGreatDoorChecked
import GoSem.Claim
import GoSem.ClaimJoined
import GoSem.ClaimMapViews
import Derived.JoinedTies
import Derived.KernelRfl
namespace Go.Proofs.YtlahifihaeafbaaGreatDoor
/- THE CELL 'sum', in the pinned program and in every row, IS THE sha256 OF THE DUMP (.gsa) THAT YtlahifihaeafbaaGreatDoorProg.lean LOADS. Nothing in Lean hashes anything: it is a label: what it is worth is what the hold of that sum in a sandbox is worth. -/
noncomputable def Tryz.pinned : Pinned := { name := "ytlahifihaeafbaagreatdoor", sum := "40b0be5ce80f55c259ca4b102b80257931937c275973ca940f9dbc49ae0a3c22", checked := Tryz.checked }
namespace Rows
def none {H : Type} : Left H := { results := [], args := [] }

/- WHAT THE LISTED PACKAGE-LEVEL VARIABLES READ AS WHEN THE CALL BEGINS. Each datum BY PROGRAM (the guide's laid-datum.mjs) off the statement by which the dump's own 'gosem.cut.vars' lays the variable. In a bare row this is a premise. The card (YtlahifihaeafbaaGreatDoorCards.lean) ties it to the program's text. -/
def laid_candling_host_forms {H : Type} : DataW H := .agg [.agg [.lit (.string []), .lit (.int .i64 0), .lit (.int .i64 0)], .agg [.lit (.string [115, 101, 116]), .lit (.int .i64 264), .lit (.int .i64 0)], .agg [.lit (.string [109, 111, 118]), .lit (.int .i64 24), .lit (.int .i64 0)], .agg [.lit (.string [98, 105, 110]), .lit (.int .i64 57), .lit (.int .i64 1)], .agg [.lit (.string [98, 105, 110, 105]), .lit (.int .i64 281), .lit (.int .i64 1)], .agg [.lit (.string [117, 110]), .lit (.int .i64 31), .lit (.int .i64 2)], .agg [.lit (.string [109, 117, 120]), .lit (.int .i64 120), .lit (.int .i64 0)], .agg [.lit (.string [118, 115, 101, 116]), .lit (.int .i64 3080), .lit (.int .i64 0)], .agg [.lit (.string [118, 109, 111, 118]), .lit (.int .i64 6168), .lit (.int .i64 0)], .agg [.lit (.string [118, 98, 105, 110]), .lit (.int .i64 14393), .lit (.int .i64 3)], .agg [.lit (.string [118, 117, 110]), .lit (.int .i64 6169), .lit (.int .i64 4)], .agg [.lit (.string [118, 99, 109, 112]), .lit (.int .i64 12345), .lit (.int .i64 5)], .agg [.lit (.string [118, 110, 122]), .lit (.int .i64 4120), .lit (.int .i64 0)], .agg [.lit (.string [118, 102, 105, 108, 108]), .lit (.int .i64 2072), .lit (.int .i64 0)], .agg [.lit (.string [118, 115, 112, 108, 97, 116]), .lit (.int .i64 2072), .lit (.int .i64 0)], .agg [.lit (.string [118, 119, 111, 114, 100]), .lit (.int .i64 4248), .lit (.int .i64 6)], .agg [.lit (.string [118, 112, 117, 116]), .lit (.int .i64 6328), .lit (.int .i64 6)], .agg [.lit (.string [118, 109, 97, 115, 107]), .lit (.int .i64 4120), .lit (.int .i64 0)], .agg [.lit (.string [118, 109, 117, 120]), .lit (.int .i64 26744), .lit (.int .i64 0)], .agg [.lit (.string [103, 101, 116]), .lit (.int .i64 140), .lit (.int .i64 7)], .agg [.lit (.string [112, 117, 116]), .lit (.int .i64 148), .lit (.int .i64 7)], .agg [.lit (.string [112, 117, 116, 105]), .lit (.int .i64 388), .lit (.int .i64 7)], .agg [.lit (.string [118, 103, 101, 116]), .lit (.int .i64 2184), .lit (.int .i64 8)], .agg [.lit (.string [118, 112, 117, 116, 115]), .lit (.int .i64 4240), .lit (.int .i64 8)], .agg [.lit (.string [108, 111, 97, 100]), .lit (.int .i64 284), .lit (.int .i64 9)], .agg [.lit (.string [115, 116, 111, 114, 101]), .lit (.int .i64 308), .lit (.int .i64 9)], .agg [.lit (.string [118, 108, 111, 97, 100]), .lit (.int .i64 2328), .lit (.int .i64 0)], .agg [.lit (.string [118, 115, 116, 111, 114, 101]), .lit (.int .i64 8496), .lit (.int .i64 0)], .agg [.lit (.string [115, 104, 108, 111, 97, 100]), .lit (.int .i64 284), .lit (.int .i64 9)], .agg [.lit (.string [115, 104, 115, 116, 111, 114, 101]), .lit (.int .i64 308), .lit (.int .i64 9)], .agg [.lit (.string [118, 115, 104, 108, 111, 97, 100]), .lit (.int .i64 2328), .lit (.int .i64 0)], .agg [.lit (.string [118, 115, 104, 115, 116, 111, 114, 101]), .lit (.int .i64 8496), .lit (.int .i64 0)], .agg [.lit (.string [111, 114, 105, 103, 105, 110]), .lit (.int .i64 284), .lit (.int .i64 10)], .agg [.lit (.string [115, 101, 116, 111, 114, 105, 103, 105, 110]), .lit (.int .i64 432), .lit (.int .i64 11)], .agg [.lit (.string [99, 97, 115]), .lit (.int .i64 377), .lit (.int .i64 12)], .agg [.lit (.string [97, 114, 103]), .lit (.int .i64 144), .lit (.int .i64 13)], .agg [.lit (.string [99, 97, 108, 108]), .lit (.int .i64 9), .lit (.int .i64 14)], .agg [.lit (.string [110, 111, 116, 101]), .lit (.int .i64 400), .lit (.int .i64 15)], .agg [.lit (.string [109, 97, 114, 107]), .lit (.int .i64 384), .lit (.int .i64 16)], .agg [.lit (.string [101, 120, 105, 116]), .lit (.int .i64 912), .lit (.int .i64 17)], .agg [.lit (.string [101, 110, 100]), .lit (.int .i64 896), .lit (.int .i64 17)], .agg [.lit (.string [101, 110, 100, 114]), .lit (.int .i64 144), .lit (.int .i64 17)], .agg [.lit (.string [115, 112, 105, 108, 108]), .lit (.int .i64 144), .lit (.int .i64 18)], .agg [.lit (.string [102, 105, 108, 108]), .lit (.int .i64 136), .lit (.int .i64 18)], .agg [.lit (.string [118, 115, 112, 105, 108, 108]), .lit (.int .i64 4240), .lit (.int .i64 19)], .agg [.lit (.string [118, 117, 110, 115, 112, 105, 108, 108]), .lit (.int .i64 2184), .lit (.int .i64 19)]]

/-- 'candlinglaw19.AllocLives': WHATEVER THE INPUT: true; the input reads as it did. -/
def allocLivesSpec : ChangeSpec := { name := "allocLives", fn := fun _ => fun
  | [d1, d2] => { results := [.lit (.bool true)], args := [d1, d2] }
  | _ => none }
def allocLivesRow : OpenClaim := { program := "ytlahifihaeafbaagreatdoor", sum := "40b0be5ce80f55c259ca4b102b80257931937c275973ca940f9dbc49ae0a3c22", func := "candling/candlinglaw19.AllocLives", spec := "allocLives", unfollowed := true, recurses := true, named := ["candling/host.forms"], plainKeys := false, apart := false, laid := [("candling/host.forms", laid_candling_host_forms)] }
def AllocLivesSaid : Prop := allocLivesRow.holds Tryz.pinned (OpenSpec.ofChange allocLivesSpec)

/-- ITS FALSE NEIGHBOUR: 'it returns false'. Refute it at one input. -/
def allocLivesWrong : ChangeSpec := { name := "allocLives", fn := fun _ => fun
  | [d1, d2] => { results := [.lit (.bool false)], args := [d1, d2] }
  | _ => none }
def AllocLivesWrongFalsely : Prop := allocLivesRow.holds Tryz.pinned (OpenSpec.ofChange allocLivesWrong)

/-- 'candlinglaw19.AllocAccepts': WHATEVER THE INPUT: true; the input reads as it did. -/
def allocAcceptsSpec : ChangeSpec := { name := "allocAccepts", fn := fun _ => fun
  | [d1, d2, d3, d4] => { results := [.lit (.bool true)], args := [d1, d2, d3, d4] }
  | _ => none }
def allocAcceptsRow : OpenClaim := { program := "ytlahifihaeafbaagreatdoor", sum := "40b0be5ce80f55c259ca4b102b80257931937c275973ca940f9dbc49ae0a3c22", func := "candling/candlinglaw19.AllocAccepts", spec := "allocAccepts", unfollowed := true, recurses := true, named := ["candling/host.forms"], plainKeys := false, apart := false, laid := [("candling/host.forms", laid_candling_host_forms)] }
def AllocAcceptsSaid : Prop := allocAcceptsRow.holds Tryz.pinned (OpenSpec.ofChange allocAcceptsSpec)

/-- ITS FALSE NEIGHBOUR: 'it returns false'. Refute it at one input. -/
def allocAcceptsWrong : ChangeSpec := { name := "allocAccepts", fn := fun _ => fun
  | [d1, d2, d3, d4] => { results := [.lit (.bool false)], args := [d1, d2, d3, d4] }
  | _ => none }
def AllocAcceptsWrongFalsely : Prop := allocAcceptsRow.holds Tryz.pinned (OpenSpec.ofChange allocAcceptsWrong)

/-- 'candlinglaw19.AllocAllocates': WHATEVER THE INPUT: true; the input reads as it did. -/
def allocAllocatesSpec : ChangeSpec := { name := "allocAllocates", fn := fun _ => fun
  | [d1, d2, d3] => { results := [.lit (.bool true)], args := [d1, d2, d3] }
  | _ => none }
def allocAllocatesRow : OpenClaim := { program := "ytlahifihaeafbaagreatdoor", sum := "40b0be5ce80f55c259ca4b102b80257931937c275973ca940f9dbc49ae0a3c22", func := "candling/candlinglaw19.AllocAllocates", spec := "allocAllocates", unfollowed := true, recurses := true, named := ["candling/host.forms"], plainKeys := false, apart := false, laid := [("candling/host.forms", laid_candling_host_forms)] }
def AllocAllocatesSaid : Prop := allocAllocatesRow.holds Tryz.pinned (OpenSpec.ofChange allocAllocatesSpec)

/-- ITS FALSE NEIGHBOUR: 'it returns false'. Refute it at one input. -/
def allocAllocatesWrong : ChangeSpec := { name := "allocAllocates", fn := fun _ => fun
  | [d1, d2, d3] => { results := [.lit (.bool false)], args := [d1, d2, d3] }
  | _ => none }
def AllocAllocatesWrongFalsely : Prop := allocAllocatesRow.holds Tryz.pinned (OpenSpec.ofChange allocAllocatesWrong)

/-- 'candlinglaw19.AllocAlways': WHATEVER THE INPUT: true; the input reads as it did. -/
def allocAlwaysSpec : ChangeSpec := { name := "allocAlways", fn := fun _ => fun
  | [d] => { results := [.lit (.bool true)], args := [d] }
  | _ => none }
def allocAlwaysRow : OpenClaim := { program := "ytlahifihaeafbaagreatdoor", sum := "40b0be5ce80f55c259ca4b102b80257931937c275973ca940f9dbc49ae0a3c22", func := "candling/candlinglaw19.AllocAlways", spec := "allocAlways", unfollowed := true, recurses := true, named := ["candling/host.forms"], plainKeys := false, apart := false, laid := [("candling/host.forms", laid_candling_host_forms)] }
def AllocAlwaysSaid : Prop := allocAlwaysRow.holds Tryz.pinned (OpenSpec.ofChange allocAlwaysSpec)

/-- ITS FALSE NEIGHBOUR: 'it returns false'. Refute it at one input. -/
def allocAlwaysWrong : ChangeSpec := { name := "allocAlways", fn := fun _ => fun
  | [d] => { results := [.lit (.bool false)], args := [d] }
  | _ => none }
def AllocAlwaysWrongFalsely : Prop := allocAlwaysRow.holds Tryz.pinned (OpenSpec.ofChange allocAlwaysWrong)

/-- 'candlinglaw19.AllocSpares': WHATEVER THE INPUT: true; the input reads as it did. -/
def allocSparesSpec : ChangeSpec := { name := "allocSpares", fn := fun _ => fun
  | [d1, d2, d3, d4] => { results := [.lit (.bool true)], args := [d1, d2, d3, d4] }
  | _ => none }
def allocSparesRow : OpenClaim := { program := "ytlahifihaeafbaagreatdoor", sum := "40b0be5ce80f55c259ca4b102b80257931937c275973ca940f9dbc49ae0a3c22", func := "candling/candlinglaw19.AllocSpares", spec := "allocSpares", unfollowed := true, recurses := true, named := ["candling/host.forms"], plainKeys := false, apart := false, laid := [("candling/host.forms", laid_candling_host_forms)] }
def AllocSparesSaid : Prop := allocSparesRow.holds Tryz.pinned (OpenSpec.ofChange allocSparesSpec)

/-- ITS FALSE NEIGHBOUR: 'it returns false'. Refute it at one input. -/
def allocSparesWrong : ChangeSpec := { name := "allocSpares", fn := fun _ => fun
  | [d1, d2, d3, d4] => { results := [.lit (.bool false)], args := [d1, d2, d3, d4] }
  | _ => none }
def AllocSparesWrongFalsely : Prop := allocSparesRow.holds Tryz.pinned (OpenSpec.ofChange allocSparesWrong)

/-- 'candlinglaw19.AllocNames': WHATEVER THE INPUT: true; the input reads as it did. -/
def allocNamesSpec : ChangeSpec := { name := "allocNames", fn := fun _ => fun
  | [d1, d2, d3, d4, d5, d6] => { results := [.lit (.bool true)], args := [d1, d2, d3, d4, d5, d6] }
  | _ => none }
def allocNamesRow : OpenClaim := { program := "ytlahifihaeafbaagreatdoor", sum := "40b0be5ce80f55c259ca4b102b80257931937c275973ca940f9dbc49ae0a3c22", func := "candling/candlinglaw19.AllocNames", spec := "allocNames", unfollowed := true, recurses := true, named := ["candling/host.forms"], plainKeys := false, apart := false, laid := [("candling/host.forms", laid_candling_host_forms)] }
def AllocNamesSaid : Prop := allocNamesRow.holds Tryz.pinned (OpenSpec.ofChange allocNamesSpec)

/-- ITS FALSE NEIGHBOUR: 'it returns false'. Refute it at one input. -/
def allocNamesWrong : ChangeSpec := { name := "allocNames", fn := fun _ => fun
  | [d1, d2, d3, d4, d5, d6] => { results := [.lit (.bool false)], args := [d1, d2, d3, d4, d5, d6] }
  | _ => none }
def AllocNamesWrongFalsely : Prop := allocNamesRow.holds Tryz.pinned (OpenSpec.ofChange allocNamesWrong)

/-- 'candlinglaw19.AllocMore': WHATEVER THE INPUT: true; the input reads as it did. -/
def allocMoreSpec : ChangeSpec := { name := "allocMore", fn := fun _ => fun
  | [d1, d2, d3, d4, d5, d6] => { results := [.lit (.bool true)], args := [d1, d2, d3, d4, d5, d6] }
  | _ => none }
def allocMoreRow : OpenClaim := { program := "ytlahifihaeafbaagreatdoor", sum := "40b0be5ce80f55c259ca4b102b80257931937c275973ca940f9dbc49ae0a3c22", func := "candling/candlinglaw19.AllocMore", spec := "allocMore", unfollowed := true, recurses := true, named := ["candling/host.forms"], plainKeys := false, apart := false, laid := [("candling/host.forms", laid_candling_host_forms)] }
def AllocMoreSaid : Prop := allocMoreRow.holds Tryz.pinned (OpenSpec.ofChange allocMoreSpec)

/-- ITS FALSE NEIGHBOUR: 'it returns false'. Refute it at one input. -/
def allocMoreWrong : ChangeSpec := { name := "allocMore", fn := fun _ => fun
  | [d1, d2, d3, d4, d5, d6] => { results := [.lit (.bool false)], args := [d1, d2, d3, d4, d5, d6] }
  | _ => none }
def AllocMoreWrongFalsely : Prop := allocMoreRow.holds Tryz.pinned (OpenSpec.ofChange allocMoreWrong)

/-- 'candlinglaw19.AllocLive': WHATEVER THE INPUT: true; the input reads as it did. -/
def allocLiveSpec : ChangeSpec := { name := "allocLive", fn := fun _ => fun
  | [d] => { results := [.lit (.bool true)], args := [d] }
  | _ => none }
def allocLiveRow : OpenClaim := { program := "ytlahifihaeafbaagreatdoor", sum := "40b0be5ce80f55c259ca4b102b80257931937c275973ca940f9dbc49ae0a3c22", func := "candling/candlinglaw19.AllocLive", spec := "allocLive", unfollowed := true, recurses := true, named := ["candling/host.forms"], plainKeys := false, apart := false, laid := [("candling/host.forms", laid_candling_host_forms)] }
def AllocLiveSaid : Prop := allocLiveRow.holds Tryz.pinned (OpenSpec.ofChange allocLiveSpec)

/-- ITS FALSE NEIGHBOUR: 'it returns false'. Refute it at one input. -/
def allocLiveWrong : ChangeSpec := { name := "allocLive", fn := fun _ => fun
  | [d] => { results := [.lit (.bool false)], args := [d] }
  | _ => none }
def AllocLiveWrongFalsely : Prop := allocLiveRow.holds Tryz.pinned (OpenSpec.ofChange allocLiveWrong)

/-- 'candlinglaw19.AllocCaught': WHATEVER THE INPUT: true; the input reads as it did. -/
def allocCaughtSpec : ChangeSpec := { name := "allocCaught", fn := fun _ => fun
  | [d1, d2, d3, d4, d5, d6] => { results := [.lit (.bool true)], args := [d1, d2, d3, d4, d5, d6] }
  | _ => none }
def allocCaughtRow : OpenClaim := { program := "ytlahifihaeafbaagreatdoor", sum := "40b0be5ce80f55c259ca4b102b80257931937c275973ca940f9dbc49ae0a3c22", func := "candling/candlinglaw19.AllocCaught", spec := "allocCaught", unfollowed := true, recurses := true, named := ["candling/host.forms"], plainKeys := false, apart := false, laid := [("candling/host.forms", laid_candling_host_forms)] }
def AllocCaughtSaid : Prop := allocCaughtRow.holds Tryz.pinned (OpenSpec.ofChange allocCaughtSpec)

/-- ITS FALSE NEIGHBOUR: 'it returns false'. Refute it at one input. -/
def allocCaughtWrong : ChangeSpec := { name := "allocCaught", fn := fun _ => fun
  | [d1, d2, d3, d4, d5, d6] => { results := [.lit (.bool false)], args := [d1, d2, d3, d4, d5, d6] }
  | _ => none }
def AllocCaughtWrongFalsely : Prop := allocCaughtRow.holds Tryz.pinned (OpenSpec.ofChange allocCaughtWrong)

/-- 'candlinglaw19.AllocTwice': WHATEVER THE INPUT: true; the input reads as it did. -/
def allocTwiceSpec : ChangeSpec := { name := "allocTwice", fn := fun _ => fun
  | [d1, d2, d3, d4, d5] => { results := [.lit (.bool true)], args := [d1, d2, d3, d4, d5] }
  | _ => none }
def allocTwiceRow : OpenClaim := { program := "ytlahifihaeafbaagreatdoor", sum := "40b0be5ce80f55c259ca4b102b80257931937c275973ca940f9dbc49ae0a3c22", func := "candling/candlinglaw19.AllocTwice", spec := "allocTwice", inPlace := ["slices.overlaps[candling/api.HInsn]", "slices.overlaps[int]"], unfollowed := true, recurses := true, named := ["candling/host.forms"], plainKeys := false, apart := false, laid := [("candling/host.forms", laid_candling_host_forms)] }
def AllocTwiceSaid : Prop := allocTwiceRow.holds Tryz.pinned (OpenSpec.ofChange allocTwiceSpec)

/-- ITS FALSE NEIGHBOUR: 'it returns false'. Refute it at one input. -/
def allocTwiceWrong : ChangeSpec := { name := "allocTwice", fn := fun _ => fun
  | [d1, d2, d3, d4, d5] => { results := [.lit (.bool false)], args := [d1, d2, d3, d4, d5] }
  | _ => none }
def AllocTwiceWrongFalsely : Prop := allocTwiceRow.holds Tryz.pinned (OpenSpec.ofChange allocTwiceWrong)

/-- 'candlinglaw19.AllocCode': WHATEVER THE INPUT: true; the input reads as it did. -/
def allocCodeSpec : ChangeSpec := { name := "allocCode", fn := fun _ => fun
  | [d1, d2, d3, d4] => { results := [.lit (.bool true)], args := [d1, d2, d3, d4] }
  | _ => none }
def allocCodeRow : OpenClaim := { program := "ytlahifihaeafbaagreatdoor", sum := "40b0be5ce80f55c259ca4b102b80257931937c275973ca940f9dbc49ae0a3c22", func := "candling/candlinglaw19.AllocCode", spec := "allocCode", unfollowed := true, recurses := true, named := ["candling/host.forms"], plainKeys := false, apart := false, laid := [("candling/host.forms", laid_candling_host_forms)] }
def AllocCodeSaid : Prop := allocCodeRow.holds Tryz.pinned (OpenSpec.ofChange allocCodeSpec)

/-- ITS FALSE NEIGHBOUR: 'it returns false'. Refute it at one input. -/
def allocCodeWrong : ChangeSpec := { name := "allocCode", fn := fun _ => fun
  | [d1, d2, d3, d4] => { results := [.lit (.bool false)], args := [d1, d2, d3, d4] }
  | _ => none }
def AllocCodeWrongFalsely : Prop := allocCodeRow.holds Tryz.pinned (OpenSpec.ofChange allocCodeWrong)

/- THE SECOND FORM. 'bulk': how many values and letters a reading holds, each counted each time it is reached (what is shared counts as often as it is met; a slice's spare places count too). A statement '..UptoSaid' is the law's where the arguments, and the package variables that the reading takes, are together of bulk at most 1048576: NARROWER than '..Said'. Prove '..Said' where nothing that the law and all that it calls make is longer than what came in: it says more and counts as full. Else prove '..UptoSaid'. A law counts once. -/
mutual
def uptoBulk {H : Type} : DataW H → Nat
  | .lit (.string bytes) => bytes.length + 1
  | .lit _ => 1
  | .nil => 1
  | .ptr d => uptoBulk d + 1
  | .slice elems spare => uptoBulkAll elems + uptoBulkAll spare + 1
  | .agg parts => uptoBulkAll parts + 1
  | .iface _ d => uptoBulk d + 1
  | .map entries => uptoBulkEntries entries + 1
  | .held _ => 1
def uptoBulkAll {H : Type} : List (DataW H) → Nat
  | [] => 0
  | d :: r => uptoBulk d + uptoBulkAll r
def uptoBulkEntries {H : Type} : List (Lit × DataW H) → Nat
  | [] => 0
  | x :: r => uptoBulkEntry x + uptoBulkEntries r
def uptoBulkEntry {H : Type} : Lit × DataW H → Nat
  | (.string bytes, d) => bytes.length + uptoBulk d + 1
  | (_, d) => uptoBulk d + 1
 end
def uptoSmall : (H : Type) → List (DataW H) → Bool := fun _ ds => decide (uptoBulkAll ds ≤ 1048576)
def OpenSpec.upto (s : _root_.Go.ChangeSpec) : _root_.Go.OpenSpec := { _root_.Go.OpenSpec.ofChange s with cond := some uptoSmall }

/-- 'candlinglaw19.AllocLives', WHERE WHAT IT READS IS OF BULK AT MOST 1048576: true; the input reads as it did. -/
def allocLivesUptoRow : OpenClaim := { program := "ytlahifihaeafbaagreatdoor", sum := "40b0be5ce80f55c259ca4b102b80257931937c275973ca940f9dbc49ae0a3c22", func := "candling/candlinglaw19.AllocLives", spec := "allocLives", unfollowed := true, recurses := true, named := ["candling/host.forms"], plainKeys := false, apart := false, laid := [("candling/host.forms", laid_candling_host_forms)], narrowed := true }
def AllocLivesUptoSaid : Prop := allocLivesUptoRow.holds Tryz.pinned (OpenSpec.upto allocLivesSpec)

/-- 'candlinglaw19.AllocAccepts', WHERE WHAT IT READS IS OF BULK AT MOST 1048576: true; the input reads as it did. -/
def allocAcceptsUptoRow : OpenClaim := { program := "ytlahifihaeafbaagreatdoor", sum := "40b0be5ce80f55c259ca4b102b80257931937c275973ca940f9dbc49ae0a3c22", func := "candling/candlinglaw19.AllocAccepts", spec := "allocAccepts", unfollowed := true, recurses := true, named := ["candling/host.forms"], plainKeys := false, apart := false, laid := [("candling/host.forms", laid_candling_host_forms)], narrowed := true }
def AllocAcceptsUptoSaid : Prop := allocAcceptsUptoRow.holds Tryz.pinned (OpenSpec.upto allocAcceptsSpec)

/-- 'candlinglaw19.AllocAllocates', WHERE WHAT IT READS IS OF BULK AT MOST 1048576: true; the input reads as it did. -/
def allocAllocatesUptoRow : OpenClaim := { program := "ytlahifihaeafbaagreatdoor", sum := "40b0be5ce80f55c259ca4b102b80257931937c275973ca940f9dbc49ae0a3c22", func := "candling/candlinglaw19.AllocAllocates", spec := "allocAllocates", unfollowed := true, recurses := true, named := ["candling/host.forms"], plainKeys := false, apart := false, laid := [("candling/host.forms", laid_candling_host_forms)], narrowed := true }
def AllocAllocatesUptoSaid : Prop := allocAllocatesUptoRow.holds Tryz.pinned (OpenSpec.upto allocAllocatesSpec)

/-- 'candlinglaw19.AllocAlways', WHERE WHAT IT READS IS OF BULK AT MOST 1048576: true; the input reads as it did. -/
def allocAlwaysUptoRow : OpenClaim := { program := "ytlahifihaeafbaagreatdoor", sum := "40b0be5ce80f55c259ca4b102b80257931937c275973ca940f9dbc49ae0a3c22", func := "candling/candlinglaw19.AllocAlways", spec := "allocAlways", unfollowed := true, recurses := true, named := ["candling/host.forms"], plainKeys := false, apart := false, laid := [("candling/host.forms", laid_candling_host_forms)], narrowed := true }
def AllocAlwaysUptoSaid : Prop := allocAlwaysUptoRow.holds Tryz.pinned (OpenSpec.upto allocAlwaysSpec)

/-- 'candlinglaw19.AllocSpares', WHERE WHAT IT READS IS OF BULK AT MOST 1048576: true; the input reads as it did. -/
def allocSparesUptoRow : OpenClaim := { program := "ytlahifihaeafbaagreatdoor", sum := "40b0be5ce80f55c259ca4b102b80257931937c275973ca940f9dbc49ae0a3c22", func := "candling/candlinglaw19.AllocSpares", spec := "allocSpares", unfollowed := true, recurses := true, named := ["candling/host.forms"], plainKeys := false, apart := false, laid := [("candling/host.forms", laid_candling_host_forms)], narrowed := true }
def AllocSparesUptoSaid : Prop := allocSparesUptoRow.holds Tryz.pinned (OpenSpec.upto allocSparesSpec)

/-- 'candlinglaw19.AllocNames', WHERE WHAT IT READS IS OF BULK AT MOST 1048576: true; the input reads as it did. -/
def allocNamesUptoRow : OpenClaim := { program := "ytlahifihaeafbaagreatdoor", sum := "40b0be5ce80f55c259ca4b102b80257931937c275973ca940f9dbc49ae0a3c22", func := "candling/candlinglaw19.AllocNames", spec := "allocNames", unfollowed := true, recurses := true, named := ["candling/host.forms"], plainKeys := false, apart := false, laid := [("candling/host.forms", laid_candling_host_forms)], narrowed := true }
def AllocNamesUptoSaid : Prop := allocNamesUptoRow.holds Tryz.pinned (OpenSpec.upto allocNamesSpec)

/-- 'candlinglaw19.AllocMore', WHERE WHAT IT READS IS OF BULK AT MOST 1048576: true; the input reads as it did. -/
def allocMoreUptoRow : OpenClaim := { program := "ytlahifihaeafbaagreatdoor", sum := "40b0be5ce80f55c259ca4b102b80257931937c275973ca940f9dbc49ae0a3c22", func := "candling/candlinglaw19.AllocMore", spec := "allocMore", unfollowed := true, recurses := true, named := ["candling/host.forms"], plainKeys := false, apart := false, laid := [("candling/host.forms", laid_candling_host_forms)], narrowed := true }
def AllocMoreUptoSaid : Prop := allocMoreUptoRow.holds Tryz.pinned (OpenSpec.upto allocMoreSpec)

/-- 'candlinglaw19.AllocLive', WHERE WHAT IT READS IS OF BULK AT MOST 1048576: true; the input reads as it did. -/
def allocLiveUptoRow : OpenClaim := { program := "ytlahifihaeafbaagreatdoor", sum := "40b0be5ce80f55c259ca4b102b80257931937c275973ca940f9dbc49ae0a3c22", func := "candling/candlinglaw19.AllocLive", spec := "allocLive", unfollowed := true, recurses := true, named := ["candling/host.forms"], plainKeys := false, apart := false, laid := [("candling/host.forms", laid_candling_host_forms)], narrowed := true }
def AllocLiveUptoSaid : Prop := allocLiveUptoRow.holds Tryz.pinned (OpenSpec.upto allocLiveSpec)

/-- 'candlinglaw19.AllocCaught', WHERE WHAT IT READS IS OF BULK AT MOST 1048576: true; the input reads as it did. -/
def allocCaughtUptoRow : OpenClaim := { program := "ytlahifihaeafbaagreatdoor", sum := "40b0be5ce80f55c259ca4b102b80257931937c275973ca940f9dbc49ae0a3c22", func := "candling/candlinglaw19.AllocCaught", spec := "allocCaught", unfollowed := true, recurses := true, named := ["candling/host.forms"], plainKeys := false, apart := false, laid := [("candling/host.forms", laid_candling_host_forms)], narrowed := true }
def AllocCaughtUptoSaid : Prop := allocCaughtUptoRow.holds Tryz.pinned (OpenSpec.upto allocCaughtSpec)

/-- 'candlinglaw19.AllocTwice', WHERE WHAT IT READS IS OF BULK AT MOST 1048576: true; the input reads as it did. -/
def allocTwiceUptoRow : OpenClaim := { program := "ytlahifihaeafbaagreatdoor", sum := "40b0be5ce80f55c259ca4b102b80257931937c275973ca940f9dbc49ae0a3c22", func := "candling/candlinglaw19.AllocTwice", spec := "allocTwice", inPlace := ["slices.overlaps[candling/api.HInsn]", "slices.overlaps[int]"], unfollowed := true, recurses := true, named := ["candling/host.forms"], plainKeys := false, apart := false, laid := [("candling/host.forms", laid_candling_host_forms)], narrowed := true }
def AllocTwiceUptoSaid : Prop := allocTwiceUptoRow.holds Tryz.pinned (OpenSpec.upto allocTwiceSpec)

/-- 'candlinglaw19.AllocCode', WHERE WHAT IT READS IS OF BULK AT MOST 1048576: true; the input reads as it did. -/
def allocCodeUptoRow : OpenClaim := { program := "ytlahifihaeafbaagreatdoor", sum := "40b0be5ce80f55c259ca4b102b80257931937c275973ca940f9dbc49ae0a3c22", func := "candling/candlinglaw19.AllocCode", spec := "allocCode", unfollowed := true, recurses := true, named := ["candling/host.forms"], plainKeys := false, apart := false, laid := [("candling/host.forms", laid_candling_host_forms)], narrowed := true }
def AllocCodeUptoSaid : Prop := allocCodeUptoRow.holds Tryz.pinned (OpenSpec.upto allocCodeSpec)

end Rows
end Go.Proofs.YtlahifihaeafbaaGreatDoor

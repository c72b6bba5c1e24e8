/-
  NARROWER THAN 'FOR EVERY INPUT', by the rows' own cells (each row's printed sentence says how): RecordMissesNone: loops · RecordMerges: loops · RecordMore: loops · RecordNothing: loops.
  DERIVED. THE GIVEN ROWS OF THIS SEAT. 4 by the template 'for every input the law returns true; each argument reads behind the call as it read before'; 0 by the template 'total and deterministic' (their statements: YtihfcjioilmmjaaGreatTotals.lean).
  GIVEN WITH THE SEED: the statements are not yours to turn. If you find one false, say at which input.
  Laid BY PROGRAM, IN A SANDBOX (cutbox-rows.mjs): the forced cells as the released guide's own fill.sh prints them over the translation e7fb35819d7452fd… (all of the seat's roots in one cut). By AI agents, Wed Nov 11 2026. No macro, syntax, notation, axiom, sorry.
-/
import Derived.Test.YtihfcjioilmmjaaGreatChecked
import GoSem.Claim
import GoSem.ClaimJoined
import GoSem.ClaimMapViews
import Derived.JoinedTies
import Derived.KernelRfl
namespace Go.Proofs.YtihfcjioilmmjaaGreat
/- THE CELL 'sum', in the pinned program and in every row, IS THE sha256 OF THE DUMP (.gsa) THAT YtihfcjioilmmjaaGreatProg.lean LOADS. Nothing in Lean hashes anything: it is a label: what it is worth is what the hold of that sum in a sandbox is worth. -/
noncomputable def Tryz.pinned : Pinned := { name := "ytihfcjioilmmjaagreat", sum := "e7fb35819d7452fd46391084f6b81bc87ba76a3022516e9fa444c083743f9d88", checked := Tryz.checked }
namespace Rows
def none {H : Type} : Left H := { results := [], args := [] }

/-- 'voussoirlaw11.RecordMissesNone': WHATEVER THE INPUT: true; the input reads as it did. -/
def recordMissesNoneSpec : ChangeSpec := { name := "recordMissesNone", fn := fun _ => fun
  | [d] => { results := [.lit (.bool true)], args := [d] }
  | _ => none }
def recordMissesNoneRow : OpenClaim := { program := "ytihfcjioilmmjaagreat", sum := "e7fb35819d7452fd46391084f6b81bc87ba76a3022516e9fa444c083743f9d88", func := "voussoir/voussoirlaw11.RecordMissesNone", spec := "recordMissesNone", inPlace := ["internal/bytealg.IndexByteString", "internal/bytealg.IndexString"], unfollowed := true, recurses := true, named := ["internal/bytealg.MaxLen"], loops := true, plainKeys := false, apart := false }
def RecordMissesNoneSaid : Prop := recordMissesNoneRow.holds Tryz.pinned (OpenSpec.ofChange recordMissesNoneSpec)

/-- ITS FALSE NEIGHBOUR: 'it returns false'. Refute it at one input. -/
def recordMissesNoneWrong : ChangeSpec := { name := "recordMissesNone", fn := fun _ => fun
  | [d] => { results := [.lit (.bool false)], args := [d] }
  | _ => none }
def RecordMissesNoneWrongFalsely : Prop := recordMissesNoneRow.holds Tryz.pinned (OpenSpec.ofChange recordMissesNoneWrong)

/-- 'voussoirlaw11.RecordMerges': WHATEVER THE INPUT: true; the input reads as it did. -/
def recordMergesSpec : ChangeSpec := { name := "recordMerges", fn := fun _ => fun
  | [d] => { results := [.lit (.bool true)], args := [d] }
  | _ => none }
def recordMergesRow : OpenClaim := { program := "ytihfcjioilmmjaagreat", sum := "e7fb35819d7452fd46391084f6b81bc87ba76a3022516e9fa444c083743f9d88", func := "voussoir/voussoirlaw11.RecordMerges", spec := "recordMerges", inPlace := ["internal/bytealg.IndexByteString", "internal/bytealg.IndexString"], unfollowed := true, recurses := true, named := ["internal/bytealg.MaxLen"], loops := true, plainKeys := false, apart := false }
def RecordMergesSaid : Prop := recordMergesRow.holds Tryz.pinned (OpenSpec.ofChange recordMergesSpec)

/-- ITS FALSE NEIGHBOUR: 'it returns false'. Refute it at one input. -/
def recordMergesWrong : ChangeSpec := { name := "recordMerges", fn := fun _ => fun
  | [d] => { results := [.lit (.bool false)], args := [d] }
  | _ => none }
def RecordMergesWrongFalsely : Prop := recordMergesRow.holds Tryz.pinned (OpenSpec.ofChange recordMergesWrong)

/-- 'voussoirlaw11.RecordMore': WHATEVER THE INPUT: true; the input reads as it did. -/
def recordMoreSpec : ChangeSpec := { name := "recordMore", fn := fun _ => fun
  | [d] => { results := [.lit (.bool true)], args := [d] }
  | _ => none }
def recordMoreRow : OpenClaim := { program := "ytihfcjioilmmjaagreat", sum := "e7fb35819d7452fd46391084f6b81bc87ba76a3022516e9fa444c083743f9d88", func := "voussoir/voussoirlaw11.RecordMore", spec := "recordMore", inPlace := ["internal/bytealg.IndexByteString", "internal/bytealg.IndexString"], unfollowed := true, recurses := true, named := ["internal/bytealg.MaxLen"], loops := true, plainKeys := false, apart := false }
def RecordMoreSaid : Prop := recordMoreRow.holds Tryz.pinned (OpenSpec.ofChange recordMoreSpec)

/-- ITS FALSE NEIGHBOUR: 'it returns false'. Refute it at one input. -/
def recordMoreWrong : ChangeSpec := { name := "recordMore", fn := fun _ => fun
  | [d] => { results := [.lit (.bool false)], args := [d] }
  | _ => none }
def RecordMoreWrongFalsely : Prop := recordMoreRow.holds Tryz.pinned (OpenSpec.ofChange recordMoreWrong)

/-- 'voussoirlaw11.RecordNothing': WHATEVER THE INPUT: true; the input reads as it did. -/
def recordNothingSpec : ChangeSpec := { name := "recordNothing", fn := fun _ => fun
  | [d] => { results := [.lit (.bool true)], args := [d] }
  | _ => none }
def recordNothingRow : OpenClaim := { program := "ytihfcjioilmmjaagreat", sum := "e7fb35819d7452fd46391084f6b81bc87ba76a3022516e9fa444c083743f9d88", func := "voussoir/voussoirlaw11.RecordNothing", spec := "recordNothing", inPlace := ["internal/bytealg.IndexByteString", "internal/bytealg.IndexString"], unfollowed := true, recurses := true, named := ["internal/bytealg.MaxLen"], loops := true, plainKeys := false, apart := false }
def RecordNothingSaid : Prop := recordNothingRow.holds Tryz.pinned (OpenSpec.ofChange recordNothingSpec)

/-- ITS FALSE NEIGHBOUR: 'it returns false'. Refute it at one input. -/
def recordNothingWrong : ChangeSpec := { name := "recordNothing", fn := fun _ => fun
  | [d] => { results := [.lit (.bool false)], args := [d] }
  | _ => none }
def RecordNothingWrongFalsely : Prop := recordNothingRow.holds Tryz.pinned (OpenSpec.ofChange recordNothingWrong)

/- THE SECOND FORM. 'bulk': how many values and letters a reading holds, each counted each time it is reached (what is shared counts as often as it is met; a slice's spare places count too). A statement '..UptoSaid' is the law's where the arguments, and the package variables that the reading takes, are together of bulk at most 1048576: NARROWER than '..Said'. Prove '..Said' where nothing that the law and all that it calls make is longer than what came in: it says more and counts as full. Else prove '..UptoSaid'. A law counts once. -/
mutual
def uptoBulk {H : Type} : DataW H → Nat
  | .lit (.string bytes) => bytes.length + 1
  | .lit _ => 1
  | .nil => 1
  | .ptr d => uptoBulk d + 1
  | .slice elems spare => uptoBulkAll elems + uptoBulkAll spare + 1
  | .agg parts => uptoBulkAll parts + 1
  | .iface _ d => uptoBulk d + 1
  | .map entries => uptoBulkEntries entries + 1
  | .held _ => 1
def uptoBulkAll {H : Type} : List (DataW H) → Nat
  | [] => 0
  | d :: r => uptoBulk d + uptoBulkAll r
def uptoBulkEntries {H : Type} : List (Lit × DataW H) → Nat
  | [] => 0
  | x :: r => uptoBulkEntry x + uptoBulkEntries r
def uptoBulkEntry {H : Type} : Lit × DataW H → Nat
  | (.string bytes, d) => bytes.length + uptoBulk d + 1
  | (_, d) => uptoBulk d + 1
 end
def uptoSmall : (H : Type) → List (DataW H) → Bool := fun _ ds => decide (uptoBulkAll ds ≤ 1048576)
def OpenSpec.upto (s : _root_.Go.ChangeSpec) : _root_.Go.OpenSpec := { _root_.Go.OpenSpec.ofChange s with cond := some uptoSmall }

/-- 'voussoirlaw11.RecordMissesNone', WHERE WHAT IT READS IS OF BULK AT MOST 1048576: true; the input reads as it did. -/
def recordMissesNoneUptoRow : OpenClaim := { program := "ytihfcjioilmmjaagreat", sum := "e7fb35819d7452fd46391084f6b81bc87ba76a3022516e9fa444c083743f9d88", func := "voussoir/voussoirlaw11.RecordMissesNone", spec := "recordMissesNone", inPlace := ["internal/bytealg.IndexByteString", "internal/bytealg.IndexString"], unfollowed := true, recurses := true, named := ["internal/bytealg.MaxLen"], loops := true, plainKeys := false, apart := false, narrowed := true }
def RecordMissesNoneUptoSaid : Prop := recordMissesNoneUptoRow.holds Tryz.pinned (OpenSpec.upto recordMissesNoneSpec)

/-- 'voussoirlaw11.RecordMerges', WHERE WHAT IT READS IS OF BULK AT MOST 1048576: true; the input reads as it did. -/
def recordMergesUptoRow : OpenClaim := { program := "ytihfcjioilmmjaagreat", sum := "e7fb35819d7452fd46391084f6b81bc87ba76a3022516e9fa444c083743f9d88", func := "voussoir/voussoirlaw11.RecordMerges", spec := "recordMerges", inPlace := ["internal/bytealg.IndexByteString", "internal/bytealg.IndexString"], unfollowed := true, recurses := true, named := ["internal/bytealg.MaxLen"], loops := true, plainKeys := false, apart := false, narrowed := true }
def RecordMergesUptoSaid : Prop := recordMergesUptoRow.holds Tryz.pinned (OpenSpec.upto recordMergesSpec)

/-- 'voussoirlaw11.RecordMore', WHERE WHAT IT READS IS OF BULK AT MOST 1048576: true; the input reads as it did. -/
def recordMoreUptoRow : OpenClaim := { program := "ytihfcjioilmmjaagreat", sum := "e7fb35819d7452fd46391084f6b81bc87ba76a3022516e9fa444c083743f9d88", func := "voussoir/voussoirlaw11.RecordMore", spec := "recordMore", inPlace := ["internal/bytealg.IndexByteString", "internal/bytealg.IndexString"], unfollowed := true, recurses := true, named := ["internal/bytealg.MaxLen"], loops := true, plainKeys := false, apart := false, narrowed := true }
def RecordMoreUptoSaid : Prop := recordMoreUptoRow.holds Tryz.pinned (OpenSpec.upto recordMoreSpec)

/-- 'voussoirlaw11.RecordNothing', WHERE WHAT IT READS IS OF BULK AT MOST 1048576: true; the input reads as it did. -/
def recordNothingUptoRow : OpenClaim := { program := "ytihfcjioilmmjaagreat", sum := "e7fb35819d7452fd46391084f6b81bc87ba76a3022516e9fa444c083743f9d88", func := "voussoir/voussoirlaw11.RecordNothing", spec := "recordNothing", inPlace := ["internal/bytealg.IndexByteString", "internal/bytealg.IndexString"], unfollowed := true, recurses := true, named := ["internal/bytealg.MaxLen"], loops := true, plainKeys := false, apart := false, narrowed := true }
def RecordNothingUptoSaid : Prop := recordNothingUptoRow.holds Tryz.pinned (OpenSpec.upto recordNothingSpec)

end Rows
end Go.Proofs.YtihfcjioilmmjaaGreat

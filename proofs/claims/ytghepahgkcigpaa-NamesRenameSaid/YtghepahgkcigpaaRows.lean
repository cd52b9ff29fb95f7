/-
  NARROWER THAN 'FOR EVERY INPUT', by the rows' own cells (each row's printed sentence says how): NamesSpec: loops · NamesCheckSpec: loops · NamesRefer: loops · NamesOnce: loops · NamesRename: loops · NamesFewer: loops.
  DERIVED. THE GIVEN ROWS OF THIS SEAT. 6 by the template 'for every input the law returns true; each argument reads behind the call as it read before'; 0 by the template 'total and deterministic' (their statements: YtghepahgkcigpaaTotals.lean).
  GIVEN WITH THE SEED: the statements are not yours to turn. If you find one false, say at which input.
  Laid BY PROGRAM, IN A SANDBOX (cutbox-rows.mjs): the forced cells as the released guide's own fill.sh prints them over the translation 5bf5958204483dbc… (all of the seat's roots in one cut). By AI agents, Wed Nov 11 2026. No macro, syntax, notation, axiom, sorry.
-/
import Derived.Test.YtghepahgkcigpaaChecked
import GoSem.Claim
import GoSem.ClaimJoined
import GoSem.ClaimMapViews
import Derived.JoinedTies
import Derived.KernelRfl
namespace Go.Proofs.Ytghepahgkcigpaa
/- THE CELL 'sum', in the pinned program and in every row, IS THE sha256 OF THE DUMP (.gsa) THAT YtghepahgkcigpaaProg.lean LOADS. Nothing in Lean hashes anything: it is a label: what it is worth is what the hold of that sum in a sandbox is worth. -/
noncomputable def Try.pinned : Pinned := { name := "ytghepahgkcigpaa", sum := "5bf5958204483dbc6f15e155b1ddb65685467c35f65d69fbf7dc078401365e31", checked := Try.checked }
namespace Rows
def none {H : Type} : Left H := { results := [], args := [] }

/-- 'acequialaw17.NamesSpec': WHATEVER THE INPUT: true; the input reads as it did. -/
def namesSpecSpec : ChangeSpec := { name := "namesSpec", fn := fun _ => fun
  | [d] => { results := [.lit (.bool true)], args := [d] }
  | _ => none }
def namesSpecRow : OpenClaim := { program := "ytghepahgkcigpaa", sum := "5bf5958204483dbc6f15e155b1ddb65685467c35f65d69fbf7dc078401365e31", func := "acequia/acequialaw17.NamesSpec", spec := "namesSpec", inPlace := ["internal/bytealg.IndexByteString", "internal/bytealg.IndexString"], unfollowed := true, recurses := true, named := ["internal/bytealg.MaxLen"], loops := true, apart := false }
def NamesSpecSaid : Prop := namesSpecRow.holds Try.pinned (OpenSpec.ofChange namesSpecSpec)

/-- ITS FALSE NEIGHBOUR: 'it returns false'. Refute it at one input. -/
def namesSpecWrong : ChangeSpec := { name := "namesSpec", fn := fun _ => fun
  | [d] => { results := [.lit (.bool false)], args := [d] }
  | _ => none }
def NamesSpecWrongFalsely : Prop := namesSpecRow.holds Try.pinned (OpenSpec.ofChange namesSpecWrong)

/-- 'acequialaw17.NamesCheckSpec': WHATEVER THE INPUT: true; the input reads as it did. -/
def namesCheckSpecSpec : ChangeSpec := { name := "namesCheckSpec", fn := fun _ => fun
  | [d] => { results := [.lit (.bool true)], args := [d] }
  | _ => none }
def namesCheckSpecRow : OpenClaim := { program := "ytghepahgkcigpaa", sum := "5bf5958204483dbc6f15e155b1ddb65685467c35f65d69fbf7dc078401365e31", func := "acequia/acequialaw17.NamesCheckSpec", spec := "namesCheckSpec", inPlace := ["internal/bytealg.IndexByteString", "internal/bytealg.IndexString"], unfollowed := true, recurses := true, named := ["internal/bytealg.MaxLen"], loops := true, apart := false }
def NamesCheckSpecSaid : Prop := namesCheckSpecRow.holds Try.pinned (OpenSpec.ofChange namesCheckSpecSpec)

/-- ITS FALSE NEIGHBOUR: 'it returns false'. Refute it at one input. -/
def namesCheckSpecWrong : ChangeSpec := { name := "namesCheckSpec", fn := fun _ => fun
  | [d] => { results := [.lit (.bool false)], args := [d] }
  | _ => none }
def NamesCheckSpecWrongFalsely : Prop := namesCheckSpecRow.holds Try.pinned (OpenSpec.ofChange namesCheckSpecWrong)

/-- 'acequialaw17.NamesRefer': WHATEVER THE INPUT: true; the input reads as it did. -/
def namesReferSpec : ChangeSpec := { name := "namesRefer", fn := fun _ => fun
  | [d] => { results := [.lit (.bool true)], args := [d] }
  | _ => none }
def namesReferRow : OpenClaim := { program := "ytghepahgkcigpaa", sum := "5bf5958204483dbc6f15e155b1ddb65685467c35f65d69fbf7dc078401365e31", func := "acequia/acequialaw17.NamesRefer", spec := "namesRefer", inPlace := ["internal/bytealg.IndexByteString", "internal/bytealg.IndexString"], unfollowed := true, recurses := true, named := ["internal/bytealg.MaxLen"], loops := true, apart := false }
def NamesReferSaid : Prop := namesReferRow.holds Try.pinned (OpenSpec.ofChange namesReferSpec)

/-- ITS FALSE NEIGHBOUR: 'it returns false'. Refute it at one input. -/
def namesReferWrong : ChangeSpec := { name := "namesRefer", fn := fun _ => fun
  | [d] => { results := [.lit (.bool false)], args := [d] }
  | _ => none }
def NamesReferWrongFalsely : Prop := namesReferRow.holds Try.pinned (OpenSpec.ofChange namesReferWrong)

/-- 'acequialaw17.NamesOnce': WHATEVER THE INPUT: true; the input reads as it did. -/
def namesOnceSpec : ChangeSpec := { name := "namesOnce", fn := fun _ => fun
  | [d] => { results := [.lit (.bool true)], args := [d] }
  | _ => none }
def namesOnceRow : OpenClaim := { program := "ytghepahgkcigpaa", sum := "5bf5958204483dbc6f15e155b1ddb65685467c35f65d69fbf7dc078401365e31", func := "acequia/acequialaw17.NamesOnce", spec := "namesOnce", inPlace := ["internal/bytealg.IndexByteString", "internal/bytealg.IndexString"], unfollowed := true, recurses := true, named := ["internal/bytealg.MaxLen"], loops := true, apart := false }
def NamesOnceSaid : Prop := namesOnceRow.holds Try.pinned (OpenSpec.ofChange namesOnceSpec)

/-- ITS FALSE NEIGHBOUR: 'it returns false'. Refute it at one input. -/
def namesOnceWrong : ChangeSpec := { name := "namesOnce", fn := fun _ => fun
  | [d] => { results := [.lit (.bool false)], args := [d] }
  | _ => none }
def NamesOnceWrongFalsely : Prop := namesOnceRow.holds Try.pinned (OpenSpec.ofChange namesOnceWrong)

/-- 'acequialaw17.NamesRename': WHATEVER THE INPUT: true; the input reads as it did. -/
def namesRenameSpec : ChangeSpec := { name := "namesRename", fn := fun _ => fun
  | [d1, d2, d3] => { results := [.lit (.bool true)], args := [d1, d2, d3] }
  | _ => none }
def namesRenameRow : OpenClaim := { program := "ytghepahgkcigpaa", sum := "5bf5958204483dbc6f15e155b1ddb65685467c35f65d69fbf7dc078401365e31", func := "acequia/acequialaw17.NamesRename", spec := "namesRename", inPlace := ["internal/bytealg.IndexByteString", "internal/bytealg.IndexString"], unfollowed := true, recurses := true, named := ["internal/bytealg.MaxLen"], loops := true, apart := false }
def NamesRenameSaid : Prop := namesRenameRow.holds Try.pinned (OpenSpec.ofChange namesRenameSpec)

/-- ITS FALSE NEIGHBOUR: 'it returns false'. Refute it at one input. -/
def namesRenameWrong : ChangeSpec := { name := "namesRename", fn := fun _ => fun
  | [d1, d2, d3] => { results := [.lit (.bool false)], args := [d1, d2, d3] }
  | _ => none }
def NamesRenameWrongFalsely : Prop := namesRenameRow.holds Try.pinned (OpenSpec.ofChange namesRenameWrong)

/-- 'acequialaw17.NamesFewer': WHATEVER THE INPUT: true; the input reads as it did. -/
def namesFewerSpec : ChangeSpec := { name := "namesFewer", fn := fun _ => fun
  | [d] => { results := [.lit (.bool true)], args := [d] }
  | _ => none }
def namesFewerRow : OpenClaim := { program := "ytghepahgkcigpaa", sum := "5bf5958204483dbc6f15e155b1ddb65685467c35f65d69fbf7dc078401365e31", func := "acequia/acequialaw17.NamesFewer", spec := "namesFewer", inPlace := ["internal/bytealg.IndexByteString", "internal/bytealg.IndexString"], unfollowed := true, recurses := true, named := ["internal/bytealg.MaxLen"], loops := true, apart := false }
def NamesFewerSaid : Prop := namesFewerRow.holds Try.pinned (OpenSpec.ofChange namesFewerSpec)

/-- ITS FALSE NEIGHBOUR: 'it returns false'. Refute it at one input. -/
def namesFewerWrong : ChangeSpec := { name := "namesFewer", fn := fun _ => fun
  | [d] => { results := [.lit (.bool false)], args := [d] }
  | _ => none }
def NamesFewerWrongFalsely : Prop := namesFewerRow.holds Try.pinned (OpenSpec.ofChange namesFewerWrong)

/- THE SECOND FORM. 'bulk': how many values and letters a reading holds, each counted each time it is reached (what is shared counts as often as it is met; a slice's spare places count too). A statement '..UptoSaid' is the law's where the arguments, and the package variables that the reading takes, are together of bulk at most 1048576: NARROWER than '..Said'. Prove '..Said' where nothing that the law and all that it calls make is longer than what came in: it says more and counts as full. Else prove '..UptoSaid'. A law counts once. -/
mutual
def uptoBulk {H : Type} : DataW H → Nat
  | .lit (.string bytes) => bytes.length + 1
  | .lit _ => 1
  | .nil => 1
  | .ptr d => uptoBulk d + 1
  | .slice elems spare => uptoBulkAll elems + uptoBulkAll spare + 1
  | .agg parts => uptoBulkAll parts + 1
  | .iface _ d => uptoBulk d + 1
  | .map entries => uptoBulkEntries entries + 1
  | .held _ => 1
def uptoBulkAll {H : Type} : List (DataW H) → Nat
  | [] => 0
  | d :: r => uptoBulk d + uptoBulkAll r
def uptoBulkEntries {H : Type} : List (Lit × DataW H) → Nat
  | [] => 0
  | x :: r => uptoBulkEntry x + uptoBulkEntries r
def uptoBulkEntry {H : Type} : Lit × DataW H → Nat
  | (.string bytes, d) => bytes.length + uptoBulk d + 1
  | (_, d) => uptoBulk d + 1
 end
def uptoSmall : (H : Type) → List (DataW H) → Bool := fun _ ds => decide (uptoBulkAll ds ≤ 1048576)
def OpenSpec.upto (s : _root_.Go.ChangeSpec) : _root_.Go.OpenSpec := { _root_.Go.OpenSpec.ofChange s with cond := some uptoSmall }

/-- 'acequialaw17.NamesSpec', WHERE WHAT IT READS IS OF BULK AT MOST 1048576: true; the input reads as it did. -/
def namesSpecUptoRow : OpenClaim := { program := "ytghepahgkcigpaa", sum := "5bf5958204483dbc6f15e155b1ddb65685467c35f65d69fbf7dc078401365e31", func := "acequia/acequialaw17.NamesSpec", spec := "namesSpec", inPlace := ["internal/bytealg.IndexByteString", "internal/bytealg.IndexString"], unfollowed := true, recurses := true, named := ["internal/bytealg.MaxLen"], loops := true, apart := false, narrowed := true }
def NamesSpecUptoSaid : Prop := namesSpecUptoRow.holds Try.pinned (OpenSpec.upto namesSpecSpec)

/-- 'acequialaw17.NamesCheckSpec', WHERE WHAT IT READS IS OF BULK AT MOST 1048576: true; the input reads as it did. -/
def namesCheckSpecUptoRow : OpenClaim := { program := "ytghepahgkcigpaa", sum := "5bf5958204483dbc6f15e155b1ddb65685467c35f65d69fbf7dc078401365e31", func := "acequia/acequialaw17.NamesCheckSpec", spec := "namesCheckSpec", inPlace := ["internal/bytealg.IndexByteString", "internal/bytealg.IndexString"], unfollowed := true, recurses := true, named := ["internal/bytealg.MaxLen"], loops := true, apart := false, narrowed := true }
def NamesCheckSpecUptoSaid : Prop := namesCheckSpecUptoRow.holds Try.pinned (OpenSpec.upto namesCheckSpecSpec)

/-- 'acequialaw17.NamesRefer', WHERE WHAT IT READS IS OF BULK AT MOST 1048576: true; the input reads as it did. -/
def namesReferUptoRow : OpenClaim := { program := "ytghepahgkcigpaa", sum := "5bf5958204483dbc6f15e155b1ddb65685467c35f65d69fbf7dc078401365e31", func := "acequia/acequialaw17.NamesRefer", spec := "namesRefer", inPlace := ["internal/bytealg.IndexByteString", "internal/bytealg.IndexString"], unfollowed := true, recurses := true, named := ["internal/bytealg.MaxLen"], loops := true, apart := false, narrowed := true }
def NamesReferUptoSaid : Prop := namesReferUptoRow.holds Try.pinned (OpenSpec.upto namesReferSpec)

/-- 'acequialaw17.NamesOnce', WHERE WHAT IT READS IS OF BULK AT MOST 1048576: true; the input reads as it did. -/
def namesOnceUptoRow : OpenClaim := { program := "ytghepahgkcigpaa", sum := "5bf5958204483dbc6f15e155b1ddb65685467c35f65d69fbf7dc078401365e31", func := "acequia/acequialaw17.NamesOnce", spec := "namesOnce", inPlace := ["internal/bytealg.IndexByteString", "internal/bytealg.IndexString"], unfollowed := true, recurses := true, named := ["internal/bytealg.MaxLen"], loops := true, apart := false, narrowed := true }
def NamesOnceUptoSaid : Prop := namesOnceUptoRow.holds Try.pinned (OpenSpec.upto namesOnceSpec)

/-- 'acequialaw17.NamesRename', WHERE WHAT IT READS IS OF BULK AT MOST 1048576: true; the input reads as it did. -/
def namesRenameUptoRow : OpenClaim := { program := "ytghepahgkcigpaa", sum := "5bf5958204483dbc6f15e155b1ddb65685467c35f65d69fbf7dc078401365e31", func := "acequia/acequialaw17.NamesRename", spec := "namesRename", inPlace := ["internal/bytealg.IndexByteString", "internal/bytealg.IndexString"], unfollowed := true, recurses := true, named := ["internal/bytealg.MaxLen"], loops := true, apart := false, narrowed := true }
def NamesRenameUptoSaid : Prop := namesRenameUptoRow.holds Try.pinned (OpenSpec.upto namesRenameSpec)

/-- 'acequialaw17.NamesFewer', WHERE WHAT IT READS IS OF BULK AT MOST 1048576: true; the input reads as it did. -/
def namesFewerUptoRow : OpenClaim := { program := "ytghepahgkcigpaa", sum := "5bf5958204483dbc6f15e155b1ddb65685467c35f65d69fbf7dc078401365e31", func := "acequia/acequialaw17.NamesFewer", spec := "namesFewer", inPlace := ["internal/bytealg.IndexByteString", "internal/bytealg.IndexString"], unfollowed := true, recurses := true, named := ["internal/bytealg.MaxLen"], loops := true, apart := false, narrowed := true }
def NamesFewerUptoSaid : Prop := namesFewerUptoRow.holds Try.pinned (OpenSpec.upto namesFewerSpec)

end Rows
end Go.Proofs.Ytghepahgkcigpaa

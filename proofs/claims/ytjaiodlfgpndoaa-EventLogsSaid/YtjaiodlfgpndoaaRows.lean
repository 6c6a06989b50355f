/-
  No cell of these rows narrows 'for every input' (looked for: loops, veiled, ifaces, maps, wideKeys, modest, calm, conditions, laid).
  DERIVED. THE GIVEN ROWS OF THIS SEAT. 8 by the template 'for every input the law returns true; each argument reads behind the call as it read before'; 0 by the template 'total and deterministic' (their statements: YtjaiodlfgpndoaaTotals.lean).
  GIVEN WITH THE SEED: the statements are not yours to turn. If you find one false, say at which input.
  Laid BY PROGRAM, IN A SANDBOX (cutbox-rows.mjs): the forced cells as the released guide's own fill.sh prints them over the translation 644ed4b0b8aaed42… (all of the seat's roots in one cut). By AI agents, Wed Nov 11 2026. No macro, syntax, notation, axiom, sorry.
-/
import Derived.Test.YtjaiodlfgpndoaaChecked
import GoSem.Claim
import GoSem.ClaimJoined
import GoSem.ClaimMapViews
import Derived.JoinedTies
import Derived.KernelRfl
namespace Go.Proofs.Ytjaiodlfgpndoaa
/- THE CELL 'sum', in the pinned program and in every row, IS THE sha256 OF THE DUMP (.gsa) THAT YtjaiodlfgpndoaaProg.lean LOADS. Nothing in Lean hashes anything: it is a label: what it is worth is what the hold of that sum in a sandbox is worth. -/
noncomputable def Try.pinned : Pinned := { name := "ytjaiodlfgpndoaa", sum := "644ed4b0b8aaed4271f4d4b127b88ca89ab02a10272833084b56b27f347d593d", checked := Try.checked }
namespace Rows
def none {H : Type} : Left H := { results := [], args := [] }

/-- 'sakialaw01.WideBack': WHATEVER THE INPUT: true; the input reads as it did. -/
def wideBackSpec : ChangeSpec := { name := "wideBack", fn := fun _ => fun
  | [d1, d2, d3] => { results := [.lit (.bool true)], args := [d1, d2, d3] }
  | _ => none }
def wideBackRow : OpenClaim := { program := "ytjaiodlfgpndoaa", sum := "644ed4b0b8aaed4271f4d4b127b88ca89ab02a10272833084b56b27f347d593d", func := "sakia/sakialaw01.WideBack", spec := "wideBack", apart := false }
def WideBackSaid : Prop := wideBackRow.holds Try.pinned (OpenSpec.ofChange wideBackSpec)

/-- ITS FALSE NEIGHBOUR: 'it returns false'. Refute it at one input. -/
def wideBackWrong : ChangeSpec := { name := "wideBack", fn := fun _ => fun
  | [d1, d2, d3] => { results := [.lit (.bool false)], args := [d1, d2, d3] }
  | _ => none }
def WideBackWrongFalsely : Prop := wideBackRow.holds Try.pinned (OpenSpec.ofChange wideBackWrong)

/-- 'sakialaw01.WideTells': WHATEVER THE INPUT: true; the input reads as it did. -/
def wideTellsSpec : ChangeSpec := { name := "wideTells", fn := fun _ => fun
  | [d1, d2, d3] => { results := [.lit (.bool true)], args := [d1, d2, d3] }
  | _ => none }
def wideTellsRow : OpenClaim := { program := "ytjaiodlfgpndoaa", sum := "644ed4b0b8aaed4271f4d4b127b88ca89ab02a10272833084b56b27f347d593d", func := "sakia/sakialaw01.WideTells", spec := "wideTells", apart := false }
def WideTellsSaid : Prop := wideTellsRow.holds Try.pinned (OpenSpec.ofChange wideTellsSpec)

/-- ITS FALSE NEIGHBOUR: 'it returns false'. Refute it at one input. -/
def wideTellsWrong : ChangeSpec := { name := "wideTells", fn := fun _ => fun
  | [d1, d2, d3] => { results := [.lit (.bool false)], args := [d1, d2, d3] }
  | _ => none }
def WideTellsWrongFalsely : Prop := wideTellsRow.holds Try.pinned (OpenSpec.ofChange wideTellsWrong)

/-- 'sakialaw01.WideLeast': WHATEVER THE INPUT: true; the input reads as it did. -/
def wideLeastSpec : ChangeSpec := { name := "wideLeast", fn := fun _ => fun
  | [d1, d2] => { results := [.lit (.bool true)], args := [d1, d2] }
  | _ => none }
def wideLeastRow : OpenClaim := { program := "ytjaiodlfgpndoaa", sum := "644ed4b0b8aaed4271f4d4b127b88ca89ab02a10272833084b56b27f347d593d", func := "sakia/sakialaw01.WideLeast", spec := "wideLeast", apart := false }
def WideLeastSaid : Prop := wideLeastRow.holds Try.pinned (OpenSpec.ofChange wideLeastSpec)

/-- ITS FALSE NEIGHBOUR: 'it returns false'. Refute it at one input. -/
def wideLeastWrong : ChangeSpec := { name := "wideLeast", fn := fun _ => fun
  | [d1, d2] => { results := [.lit (.bool false)], args := [d1, d2] }
  | _ => none }
def WideLeastWrongFalsely : Prop := wideLeastRow.holds Try.pinned (OpenSpec.ofChange wideLeastWrong)

/-- 'sakialaw01.WideCuts': WHATEVER THE INPUT: true; the input reads as it did. -/
def wideCutsSpec : ChangeSpec := { name := "wideCuts", fn := fun _ => fun
  | [d1, d2, d3] => { results := [.lit (.bool true)], args := [d1, d2, d3] }
  | _ => none }
def wideCutsRow : OpenClaim := { program := "ytjaiodlfgpndoaa", sum := "644ed4b0b8aaed4271f4d4b127b88ca89ab02a10272833084b56b27f347d593d", func := "sakia/sakialaw01.WideCuts", spec := "wideCuts", apart := false }
def WideCutsSaid : Prop := wideCutsRow.holds Try.pinned (OpenSpec.ofChange wideCutsSpec)

/-- ITS FALSE NEIGHBOUR: 'it returns false'. Refute it at one input. -/
def wideCutsWrong : ChangeSpec := { name := "wideCuts", fn := fun _ => fun
  | [d1, d2, d3] => { results := [.lit (.bool false)], args := [d1, d2, d3] }
  | _ => none }
def WideCutsWrongFalsely : Prop := wideCutsRow.holds Try.pinned (OpenSpec.ofChange wideCutsWrong)

/-- 'sakialaw15.EventWords': WHATEVER THE INPUT: true; the input reads as it did. -/
def eventWordsSpec : ChangeSpec := { name := "eventWords", fn := fun _ => fun
  | [d1, d2] => { results := [.lit (.bool true)], args := [d1, d2] }
  | _ => none }
def eventWordsRow : OpenClaim := { program := "ytjaiodlfgpndoaa", sum := "644ed4b0b8aaed4271f4d4b127b88ca89ab02a10272833084b56b27f347d593d", func := "sakia/sakialaw15.EventWords", spec := "eventWords", apart := false }
def EventWordsSaid : Prop := eventWordsRow.holds Try.pinned (OpenSpec.ofChange eventWordsSpec)

/-- ITS FALSE NEIGHBOUR: 'it returns false'. Refute it at one input. -/
def eventWordsWrong : ChangeSpec := { name := "eventWords", fn := fun _ => fun
  | [d1, d2] => { results := [.lit (.bool false)], args := [d1, d2] }
  | _ => none }
def EventWordsWrongFalsely : Prop := eventWordsRow.holds Try.pinned (OpenSpec.ofChange eventWordsWrong)

/-- 'sakialaw15.EventLogs': WHATEVER THE INPUT: true; the input reads as it did. -/
def eventLogsSpec : ChangeSpec := { name := "eventLogs", fn := fun _ => fun
  | [d1, d2, d3] => { results := [.lit (.bool true)], args := [d1, d2, d3] }
  | _ => none }
def eventLogsRow : OpenClaim := { program := "ytjaiodlfgpndoaa", sum := "644ed4b0b8aaed4271f4d4b127b88ca89ab02a10272833084b56b27f347d593d", func := "sakia/sakialaw15.EventLogs", spec := "eventLogs", apart := false }
def EventLogsSaid : Prop := eventLogsRow.holds Try.pinned (OpenSpec.ofChange eventLogsSpec)

/-- ITS FALSE NEIGHBOUR: 'it returns false'. Refute it at one input. -/
def eventLogsWrong : ChangeSpec := { name := "eventLogs", fn := fun _ => fun
  | [d1, d2, d3] => { results := [.lit (.bool false)], args := [d1, d2, d3] }
  | _ => none }
def EventLogsWrongFalsely : Prop := eventLogsRow.holds Try.pinned (OpenSpec.ofChange eventLogsWrong)

/-- 'sakialaw15.EventMerges': WHATEVER THE INPUT: true; the input reads as it did. -/
def eventMergesSpec : ChangeSpec := { name := "eventMerges", fn := fun _ => fun
  | [d1, d2, d3] => { results := [.lit (.bool true)], args := [d1, d2, d3] }
  | _ => none }
def eventMergesRow : OpenClaim := { program := "ytjaiodlfgpndoaa", sum := "644ed4b0b8aaed4271f4d4b127b88ca89ab02a10272833084b56b27f347d593d", func := "sakia/sakialaw15.EventMerges", spec := "eventMerges", apart := false }
def EventMergesSaid : Prop := eventMergesRow.holds Try.pinned (OpenSpec.ofChange eventMergesSpec)

/-- ITS FALSE NEIGHBOUR: 'it returns false'. Refute it at one input. -/
def eventMergesWrong : ChangeSpec := { name := "eventMerges", fn := fun _ => fun
  | [d1, d2, d3] => { results := [.lit (.bool false)], args := [d1, d2, d3] }
  | _ => none }
def EventMergesWrongFalsely : Prop := eventMergesRow.holds Try.pinned (OpenSpec.ofChange eventMergesWrong)

/-- 'sakialaw15.EventPicks': WHATEVER THE INPUT: true; the input reads as it did. -/
def eventPicksSpec : ChangeSpec := { name := "eventPicks", fn := fun _ => fun
  | [d1, d2, d3] => { results := [.lit (.bool true)], args := [d1, d2, d3] }
  | _ => none }
def eventPicksRow : OpenClaim := { program := "ytjaiodlfgpndoaa", sum := "644ed4b0b8aaed4271f4d4b127b88ca89ab02a10272833084b56b27f347d593d", func := "sakia/sakialaw15.EventPicks", spec := "eventPicks", unfollowed := true, recurses := true, apart := false }
def EventPicksSaid : Prop := eventPicksRow.holds Try.pinned (OpenSpec.ofChange eventPicksSpec)

/-- ITS FALSE NEIGHBOUR: 'it returns false'. Refute it at one input. -/
def eventPicksWrong : ChangeSpec := { name := "eventPicks", fn := fun _ => fun
  | [d1, d2, d3] => { results := [.lit (.bool false)], args := [d1, d2, d3] }
  | _ => none }
def EventPicksWrongFalsely : Prop := eventPicksRow.holds Try.pinned (OpenSpec.ofChange eventPicksWrong)

/- THE SECOND FORM. 'bulk': how many values and letters a reading holds, each counted each time it is reached (what is shared counts as often as it is met; a slice's spare places count too). A statement '..UptoSaid' is the law's where the arguments, and the package variables that the reading takes, are together of bulk at most 1048576: NARROWER than '..Said'. Prove '..Said' where nothing that the law and all that it calls make is longer than what came in: it says more and counts as full. Else prove '..UptoSaid'. A law counts once. -/
mutual
def uptoBulk {H : Type} : DataW H → Nat
  | .lit (.string bytes) => bytes.length + 1
  | .lit _ => 1
  | .nil => 1
  | .ptr d => uptoBulk d + 1
  | .slice elems spare => uptoBulkAll elems + uptoBulkAll spare + 1
  | .agg parts => uptoBulkAll parts + 1
  | .iface _ d => uptoBulk d + 1
  | .map entries => uptoBulkEntries entries + 1
  | .held _ => 1
def uptoBulkAll {H : Type} : List (DataW H) → Nat
  | [] => 0
  | d :: r => uptoBulk d + uptoBulkAll r
def uptoBulkEntries {H : Type} : List (Lit × DataW H) → Nat
  | [] => 0
  | x :: r => uptoBulkEntry x + uptoBulkEntries r
def uptoBulkEntry {H : Type} : Lit × DataW H → Nat
  | (.string bytes, d) => bytes.length + uptoBulk d + 1
  | (_, d) => uptoBulk d + 1
 end
def uptoSmall : (H : Type) → List (DataW H) → Bool := fun _ ds => decide (uptoBulkAll ds ≤ 1048576)
def OpenSpec.upto (s : _root_.Go.ChangeSpec) : _root_.Go.OpenSpec := { _root_.Go.OpenSpec.ofChange s with cond := some uptoSmall }

/-- 'sakialaw01.WideBack', WHERE WHAT IT READS IS OF BULK AT MOST 1048576: true; the input reads as it did. -/
def wideBackUptoRow : OpenClaim := { program := "ytjaiodlfgpndoaa", sum := "644ed4b0b8aaed4271f4d4b127b88ca89ab02a10272833084b56b27f347d593d", func := "sakia/sakialaw01.WideBack", spec := "wideBack", apart := false, narrowed := true }
def WideBackUptoSaid : Prop := wideBackUptoRow.holds Try.pinned (OpenSpec.upto wideBackSpec)

/-- 'sakialaw01.WideTells', WHERE WHAT IT READS IS OF BULK AT MOST 1048576: true; the input reads as it did. -/
def wideTellsUptoRow : OpenClaim := { program := "ytjaiodlfgpndoaa", sum := "644ed4b0b8aaed4271f4d4b127b88ca89ab02a10272833084b56b27f347d593d", func := "sakia/sakialaw01.WideTells", spec := "wideTells", apart := false, narrowed := true }
def WideTellsUptoSaid : Prop := wideTellsUptoRow.holds Try.pinned (OpenSpec.upto wideTellsSpec)

/-- 'sakialaw01.WideLeast', WHERE WHAT IT READS IS OF BULK AT MOST 1048576: true; the input reads as it did. -/
def wideLeastUptoRow : OpenClaim := { program := "ytjaiodlfgpndoaa", sum := "644ed4b0b8aaed4271f4d4b127b88ca89ab02a10272833084b56b27f347d593d", func := "sakia/sakialaw01.WideLeast", spec := "wideLeast", apart := false, narrowed := true }
def WideLeastUptoSaid : Prop := wideLeastUptoRow.holds Try.pinned (OpenSpec.upto wideLeastSpec)

/-- 'sakialaw01.WideCuts', WHERE WHAT IT READS IS OF BULK AT MOST 1048576: true; the input reads as it did. -/
def wideCutsUptoRow : OpenClaim := { program := "ytjaiodlfgpndoaa", sum := "644ed4b0b8aaed4271f4d4b127b88ca89ab02a10272833084b56b27f347d593d", func := "sakia/sakialaw01.WideCuts", spec := "wideCuts", apart := false, narrowed := true }
def WideCutsUptoSaid : Prop := wideCutsUptoRow.holds Try.pinned (OpenSpec.upto wideCutsSpec)

/-- 'sakialaw15.EventWords', WHERE WHAT IT READS IS OF BULK AT MOST 1048576: true; the input reads as it did. -/
def eventWordsUptoRow : OpenClaim := { program := "ytjaiodlfgpndoaa", sum := "644ed4b0b8aaed4271f4d4b127b88ca89ab02a10272833084b56b27f347d593d", func := "sakia/sakialaw15.EventWords", spec := "eventWords", apart := false, narrowed := true }
def EventWordsUptoSaid : Prop := eventWordsUptoRow.holds Try.pinned (OpenSpec.upto eventWordsSpec)

/-- 'sakialaw15.EventLogs', WHERE WHAT IT READS IS OF BULK AT MOST 1048576: true; the input reads as it did. -/
def eventLogsUptoRow : OpenClaim := { program := "ytjaiodlfgpndoaa", sum := "644ed4b0b8aaed4271f4d4b127b88ca89ab02a10272833084b56b27f347d593d", func := "sakia/sakialaw15.EventLogs", spec := "eventLogs", apart := false, narrowed := true }
def EventLogsUptoSaid : Prop := eventLogsUptoRow.holds Try.pinned (OpenSpec.upto eventLogsSpec)

/-- 'sakialaw15.EventMerges', WHERE WHAT IT READS IS OF BULK AT MOST 1048576: true; the input reads as it did. -/
def eventMergesUptoRow : OpenClaim := { program := "ytjaiodlfgpndoaa", sum := "644ed4b0b8aaed4271f4d4b127b88ca89ab02a10272833084b56b27f347d593d", func := "sakia/sakialaw15.EventMerges", spec := "eventMerges", apart := false, narrowed := true }
def EventMergesUptoSaid : Prop := eventMergesUptoRow.holds Try.pinned (OpenSpec.upto eventMergesSpec)

/-- 'sakialaw15.EventPicks', WHERE WHAT IT READS IS OF BULK AT MOST 1048576: true; the input reads as it did. -/
def eventPicksUptoRow : OpenClaim := { program := "ytjaiodlfgpndoaa", sum := "644ed4b0b8aaed4271f4d4b127b88ca89ab02a10272833084b56b27f347d593d", func := "sakia/sakialaw15.EventPicks", spec := "eventPicks", unfollowed := true, recurses := true, apart := false, narrowed := true }
def EventPicksUptoSaid : Prop := eventPicksUptoRow.holds Try.pinned (OpenSpec.upto eventPicksSpec)

end Rows
end Go.Proofs.Ytjaiodlfgpndoaa

/-
  No cell of these rows narrows 'for every input' (looked for: loops, veiled, ifaces, maps, wideKeys, modest, calm, conditions, laid).
  DERIVED. THE GIVEN ROWS OF THIS SEAT. 7 by the template 'for every input the law returns true; each argument reads behind the call as it read before'; 0 by the template 'total and deterministic' (their statements: YtkakgmpcenfjlaaTotals.lean).
  GIVEN WITH THE SEED: the statements are not yours to turn. If you find one false, say at which input.
  Laid BY PROGRAM, IN A SANDBOX (cutbox-rows.mjs): the forced cells as the released guide's own fill.sh prints them over the translation 5d8ae113dc2ed3bb… (all of the seat's roots in one cut). By AI agents, Wed Nov 11 2026. No macro, syntax, notation, axiom, sorry.
-/
import Derived.Test.YtkakgmpcenfjlaaChecked
import GoSem.Claim
import GoSem.ClaimJoined
import GoSem.ClaimMapViews
import Derived.JoinedTies
import Derived.KernelRfl
namespace Go.Proofs.Ytkakgmpcenfjlaa
/- THE CELL 'sum', in the pinned program and in every row, IS THE sha256 OF THE DUMP (.gsa) THAT YtkakgmpcenfjlaaProg.lean LOADS. Nothing in Lean hashes anything: it is a label: what it is worth is what the hold of that sum in a sandbox is worth. -/
noncomputable def Try.pinned : Pinned := { name := "ytkakgmpcenfjlaa", sum := "5d8ae113dc2ed3bbcb02c71d5a82bc8801bfc0aad8e4cece06358ca559377253", checked := Try.checked }
namespace Rows
def none {H : Type} : Left H := { results := [], args := [] }

/-- 'sakialaw10.ConfTells': WHATEVER THE INPUT: true; the input reads as it did. -/
def confTellsSpec : ChangeSpec := { name := "confTells", fn := fun _ => fun
  | [d1, d2] => { results := [.lit (.bool true)], args := [d1, d2] }
  | _ => none }
def confTellsRow : OpenClaim := { program := "ytkakgmpcenfjlaa", sum := "5d8ae113dc2ed3bbcb02c71d5a82bc8801bfc0aad8e4cece06358ca559377253", func := "sakia/sakialaw10.ConfTells", spec := "confTells", unfollowed := true, recurses := true, apart := false }
def ConfTellsSaid : Prop := confTellsRow.holds Try.pinned (OpenSpec.ofChange confTellsSpec)

/-- ITS FALSE NEIGHBOUR: 'it returns false'. Refute it at one input. -/
def confTellsWrong : ChangeSpec := { name := "confTells", fn := fun _ => fun
  | [d1, d2] => { results := [.lit (.bool false)], args := [d1, d2] }
  | _ => none }
def ConfTellsWrongFalsely : Prop := confTellsRow.holds Try.pinned (OpenSpec.ofChange confTellsWrong)

/-- 'sakialaw14.GuardForward': WHATEVER THE INPUT: true; the input reads as it did. -/
def guardForwardSpec : ChangeSpec := { name := "guardForward", fn := fun _ => fun
  | [d1, d2, d3] => { results := [.lit (.bool true)], args := [d1, d2, d3] }
  | _ => none }
def guardForwardRow : OpenClaim := { program := "ytkakgmpcenfjlaa", sum := "5d8ae113dc2ed3bbcb02c71d5a82bc8801bfc0aad8e4cece06358ca559377253", func := "sakia/sakialaw14.GuardForward", spec := "guardForward", apart := false }
def GuardForwardSaid : Prop := guardForwardRow.holds Try.pinned (OpenSpec.ofChange guardForwardSpec)

/-- ITS FALSE NEIGHBOUR: 'it returns false'. Refute it at one input. -/
def guardForwardWrong : ChangeSpec := { name := "guardForward", fn := fun _ => fun
  | [d1, d2, d3] => { results := [.lit (.bool false)], args := [d1, d2, d3] }
  | _ => none }
def GuardForwardWrongFalsely : Prop := guardForwardRow.holds Try.pinned (OpenSpec.ofChange guardForwardWrong)

/-- 'sakialaw10.ConfAlike': WHATEVER THE INPUT: true; the input reads as it did. -/
def confAlikeSpec : ChangeSpec := { name := "confAlike", fn := fun _ => fun
  | [d1, d2, d3] => { results := [.lit (.bool true)], args := [d1, d2, d3] }
  | _ => none }
def confAlikeRow : OpenClaim := { program := "ytkakgmpcenfjlaa", sum := "5d8ae113dc2ed3bbcb02c71d5a82bc8801bfc0aad8e4cece06358ca559377253", func := "sakia/sakialaw10.ConfAlike", spec := "confAlike", unfollowed := true, recurses := true, apart := false }
def ConfAlikeSaid : Prop := confAlikeRow.holds Try.pinned (OpenSpec.ofChange confAlikeSpec)

/-- ITS FALSE NEIGHBOUR: 'it returns false'. Refute it at one input. -/
def confAlikeWrong : ChangeSpec := { name := "confAlike", fn := fun _ => fun
  | [d1, d2, d3] => { results := [.lit (.bool false)], args := [d1, d2, d3] }
  | _ => none }
def ConfAlikeWrongFalsely : Prop := confAlikeRow.holds Try.pinned (OpenSpec.ofChange confAlikeWrong)

/-- 'sakialaw14.GuardPlays': WHATEVER THE INPUT: true; the input reads as it did. -/
def guardPlaysSpec : ChangeSpec := { name := "guardPlays", fn := fun _ => fun
  | [d1, d2, d3] => { results := [.lit (.bool true)], args := [d1, d2, d3] }
  | _ => none }
def guardPlaysRow : OpenClaim := { program := "ytkakgmpcenfjlaa", sum := "5d8ae113dc2ed3bbcb02c71d5a82bc8801bfc0aad8e4cece06358ca559377253", func := "sakia/sakialaw14.GuardPlays", spec := "guardPlays", apart := false }
def GuardPlaysSaid : Prop := guardPlaysRow.holds Try.pinned (OpenSpec.ofChange guardPlaysSpec)

/-- ITS FALSE NEIGHBOUR: 'it returns false'. Refute it at one input. -/
def guardPlaysWrong : ChangeSpec := { name := "guardPlays", fn := fun _ => fun
  | [d1, d2, d3] => { results := [.lit (.bool false)], args := [d1, d2, d3] }
  | _ => none }
def GuardPlaysWrongFalsely : Prop := guardPlaysRow.holds Try.pinned (OpenSpec.ofChange guardPlaysWrong)

/-- 'sakialaw14.GuardNone': WHATEVER THE INPUT: true; the input reads as it did. -/
def guardNoneSpec : ChangeSpec := { name := "guardNone", fn := fun _ => fun
  | [d1, d2, d3] => { results := [.lit (.bool true)], args := [d1, d2, d3] }
  | _ => none }
def guardNoneRow : OpenClaim := { program := "ytkakgmpcenfjlaa", sum := "5d8ae113dc2ed3bbcb02c71d5a82bc8801bfc0aad8e4cece06358ca559377253", func := "sakia/sakialaw14.GuardNone", spec := "guardNone", apart := false }
def GuardNoneSaid : Prop := guardNoneRow.holds Try.pinned (OpenSpec.ofChange guardNoneSpec)

/-- ITS FALSE NEIGHBOUR: 'it returns false'. Refute it at one input. -/
def guardNoneWrong : ChangeSpec := { name := "guardNone", fn := fun _ => fun
  | [d1, d2, d3] => { results := [.lit (.bool false)], args := [d1, d2, d3] }
  | _ => none }
def GuardNoneWrongFalsely : Prop := guardNoneRow.holds Try.pinned (OpenSpec.ofChange guardNoneWrong)

/-- 'sakialaw10.ConfOthers': WHATEVER THE INPUT: true; the input reads as it did. -/
def confOthersSpec : ChangeSpec := { name := "confOthers", fn := fun _ => fun
  | [d] => { results := [.lit (.bool true)], args := [d] }
  | _ => none }
def confOthersRow : OpenClaim := { program := "ytkakgmpcenfjlaa", sum := "5d8ae113dc2ed3bbcb02c71d5a82bc8801bfc0aad8e4cece06358ca559377253", func := "sakia/sakialaw10.ConfOthers", spec := "confOthers", unfollowed := true, recurses := true, apart := false }
def ConfOthersSaid : Prop := confOthersRow.holds Try.pinned (OpenSpec.ofChange confOthersSpec)

/-- ITS FALSE NEIGHBOUR: 'it returns false'. Refute it at one input. -/
def confOthersWrong : ChangeSpec := { name := "confOthers", fn := fun _ => fun
  | [d] => { results := [.lit (.bool false)], args := [d] }
  | _ => none }
def ConfOthersWrongFalsely : Prop := confOthersRow.holds Try.pinned (OpenSpec.ofChange confOthersWrong)

/-- 'sakialaw10.ConfChecks': WHATEVER THE INPUT: true; the input reads as it did. -/
def confChecksSpec : ChangeSpec := { name := "confChecks", fn := fun _ => fun
  | [d1, d2] => { results := [.lit (.bool true)], args := [d1, d2] }
  | _ => none }
def confChecksRow : OpenClaim := { program := "ytkakgmpcenfjlaa", sum := "5d8ae113dc2ed3bbcb02c71d5a82bc8801bfc0aad8e4cece06358ca559377253", func := "sakia/sakialaw10.ConfChecks", spec := "confChecks", unfollowed := true, recurses := true, apart := false }
def ConfChecksSaid : Prop := confChecksRow.holds Try.pinned (OpenSpec.ofChange confChecksSpec)

/-- ITS FALSE NEIGHBOUR: 'it returns false'. Refute it at one input. -/
def confChecksWrong : ChangeSpec := { name := "confChecks", fn := fun _ => fun
  | [d1, d2] => { results := [.lit (.bool false)], args := [d1, d2] }
  | _ => none }
def ConfChecksWrongFalsely : Prop := confChecksRow.holds Try.pinned (OpenSpec.ofChange confChecksWrong)

/- THE SECOND FORM. 'bulk': how many values and letters a reading holds, each counted each time it is reached (what is shared counts as often as it is met; a slice's spare places count too). A statement '..UptoSaid' is the law's where the arguments, and the package variables that the reading takes, are together of bulk at most 1048576: NARROWER than '..Said'. Prove '..Said' where nothing that the law and all that it calls make is longer than what came in: it says more and counts as full. Else prove '..UptoSaid'. A law counts once. -/
mutual
def uptoBulk {H : Type} : DataW H → Nat
  | .lit (.string bytes) => bytes.length + 1
  | .lit _ => 1
  | .nil => 1
  | .ptr d => uptoBulk d + 1
  | .slice elems spare => uptoBulkAll elems + uptoBulkAll spare + 1
  | .agg parts => uptoBulkAll parts + 1
  | .iface _ d => uptoBulk d + 1
  | .map entries => uptoBulkEntries entries + 1
  | .held _ => 1
def uptoBulkAll {H : Type} : List (DataW H) → Nat
  | [] => 0
  | d :: r => uptoBulk d + uptoBulkAll r
def uptoBulkEntries {H : Type} : List (Lit × DataW H) → Nat
  | [] => 0
  | x :: r => uptoBulkEntry x + uptoBulkEntries r
def uptoBulkEntry {H : Type} : Lit × DataW H → Nat
  | (.string bytes, d) => bytes.length + uptoBulk d + 1
  | (_, d) => uptoBulk d + 1
 end
def uptoSmall : (H : Type) → List (DataW H) → Bool := fun _ ds => decide (uptoBulkAll ds ≤ 1048576)
def OpenSpec.upto (s : _root_.Go.ChangeSpec) : _root_.Go.OpenSpec := { _root_.Go.OpenSpec.ofChange s with cond := some uptoSmall }

/-- 'sakialaw10.ConfTells', WHERE WHAT IT READS IS OF BULK AT MOST 1048576: true; the input reads as it did. -/
def confTellsUptoRow : OpenClaim := { program := "ytkakgmpcenfjlaa", sum := "5d8ae113dc2ed3bbcb02c71d5a82bc8801bfc0aad8e4cece06358ca559377253", func := "sakia/sakialaw10.ConfTells", spec := "confTells", unfollowed := true, recurses := true, apart := false, narrowed := true }
def ConfTellsUptoSaid : Prop := confTellsUptoRow.holds Try.pinned (OpenSpec.upto confTellsSpec)

/-- 'sakialaw14.GuardForward', WHERE WHAT IT READS IS OF BULK AT MOST 1048576: true; the input reads as it did. -/
def guardForwardUptoRow : OpenClaim := { program := "ytkakgmpcenfjlaa", sum := "5d8ae113dc2ed3bbcb02c71d5a82bc8801bfc0aad8e4cece06358ca559377253", func := "sakia/sakialaw14.GuardForward", spec := "guardForward", apart := false, narrowed := true }
def GuardForwardUptoSaid : Prop := guardForwardUptoRow.holds Try.pinned (OpenSpec.upto guardForwardSpec)

/-- 'sakialaw10.ConfAlike', WHERE WHAT IT READS IS OF BULK AT MOST 1048576: true; the input reads as it did. -/
def confAlikeUptoRow : OpenClaim := { program := "ytkakgmpcenfjlaa", sum := "5d8ae113dc2ed3bbcb02c71d5a82bc8801bfc0aad8e4cece06358ca559377253", func := "sakia/sakialaw10.ConfAlike", spec := "confAlike", unfollowed := true, recurses := true, apart := false, narrowed := true }
def ConfAlikeUptoSaid : Prop := confAlikeUptoRow.holds Try.pinned (OpenSpec.upto confAlikeSpec)

/-- 'sakialaw14.GuardPlays', WHERE WHAT IT READS IS OF BULK AT MOST 1048576: true; the input reads as it did. -/
def guardPlaysUptoRow : OpenClaim := { program := "ytkakgmpcenfjlaa", sum := "5d8ae113dc2ed3bbcb02c71d5a82bc8801bfc0aad8e4cece06358ca559377253", func := "sakia/sakialaw14.GuardPlays", spec := "guardPlays", apart := false, narrowed := true }
def GuardPlaysUptoSaid : Prop := guardPlaysUptoRow.holds Try.pinned (OpenSpec.upto guardPlaysSpec)

/-- 'sakialaw14.GuardNone', WHERE WHAT IT READS IS OF BULK AT MOST 1048576: true; the input reads as it did. -/
def guardNoneUptoRow : OpenClaim := { program := "ytkakgmpcenfjlaa", sum := "5d8ae113dc2ed3bbcb02c71d5a82bc8801bfc0aad8e4cece06358ca559377253", func := "sakia/sakialaw14.GuardNone", spec := "guardNone", apart := false, narrowed := true }
def GuardNoneUptoSaid : Prop := guardNoneUptoRow.holds Try.pinned (OpenSpec.upto guardNoneSpec)

/-- 'sakialaw10.ConfOthers', WHERE WHAT IT READS IS OF BULK AT MOST 1048576: true; the input reads as it did. -/
def confOthersUptoRow : OpenClaim := { program := "ytkakgmpcenfjlaa", sum := "5d8ae113dc2ed3bbcb02c71d5a82bc8801bfc0aad8e4cece06358ca559377253", func := "sakia/sakialaw10.ConfOthers", spec := "confOthers", unfollowed := true, recurses := true, apart := false, narrowed := true }
def ConfOthersUptoSaid : Prop := confOthersUptoRow.holds Try.pinned (OpenSpec.upto confOthersSpec)

/-- 'sakialaw10.ConfChecks', WHERE WHAT IT READS IS OF BULK AT MOST 1048576: true; the input reads as it did. -/
def confChecksUptoRow : OpenClaim := { program := "ytkakgmpcenfjlaa", sum := "5d8ae113dc2ed3bbcb02c71d5a82bc8801bfc0aad8e4cece06358ca559377253", func := "sakia/sakialaw10.ConfChecks", spec := "confChecks", unfollowed := true, recurses := true, apart := false, narrowed := true }
def ConfChecksUptoSaid : Prop := confChecksUptoRow.holds Try.pinned (OpenSpec.upto confChecksSpec)

end Rows
end Go.Proofs.Ytkakgmpcenfjlaa

/-
  No cell of these rows narrows 'for every input' (looked for: loops, veiled, ifaces, maps, wideKeys, modest, calm, conditions, laid).
  DERIVED. THE GIVEN ROWS OF THIS SEAT. 6 by the template 'for every input the law returns true; each argument reads behind the call as it read before'; 0 by the template 'total and deterministic' (their statements: YtdgjbaeflbggpaaTotals.lean).
  GIVEN WITH THE SEED: the statements are not yours to turn. If you find one false, say at which input.
  Laid BY PROGRAM, IN A SANDBOX (cutbox-rows.mjs): the forced cells as the released guide's own fill.sh prints them over the translation d98e80a81ae0f86c… (all of the seat's roots in one cut). By AI agents, Wed Nov 11 2026. No macro, syntax, notation, axiom, sorry.
-/
import Derived.Test.YtdgjbaeflbggpaaChecked
import GoSem.Claim
import GoSem.ClaimJoined
import GoSem.ClaimMapViews
import Derived.JoinedTies
import Derived.KernelRfl
namespace Go.Proofs.Ytdgjbaeflbggpaa
/- THE CELL 'sum', in the pinned program and in every row, IS THE sha256 OF THE DUMP (.gsa) THAT YtdgjbaeflbggpaaProg.lean LOADS. Nothing in Lean hashes anything: it is a label: what it is worth is what the hold of that sum in a sandbox is worth. -/
noncomputable def Try.pinned : Pinned := { name := "ytdgjbaeflbggpaa", sum := "d98e80a81ae0f86c8294559b9e9c9387607ce8347ccfdc59b7d5d7271df1bdde", checked := Try.checked }
namespace Rows
def none {H : Type} : Left H := { results := [], args := [] }

/-- 'timesynclaw44.CookieSeals': WHATEVER THE INPUT: true; the input reads as it did. -/
def cookieSealsSpec : ChangeSpec := { name := "cookieSeals", fn := fun _ => fun
  | [d1, d2, d3, d4, d5, d6] => { results := [.lit (.bool true)], args := [d1, d2, d3, d4, d5, d6] }
  | _ => none }
def cookieSealsRow : OpenClaim := { program := "ytdgjbaeflbggpaa", sum := "d98e80a81ae0f86c8294559b9e9c9387607ce8347ccfdc59b7d5d7271df1bdde", func := "timesync/timesynclaw44.CookieSeals", spec := "cookieSeals", unfollowed := true, recurses := true, apart := false }
def CookieSealsSaid : Prop := cookieSealsRow.holds Try.pinned (OpenSpec.ofChange cookieSealsSpec)

/-- ITS FALSE NEIGHBOUR: 'it returns false'. Refute it at one input. -/
def cookieSealsWrong : ChangeSpec := { name := "cookieSeals", fn := fun _ => fun
  | [d1, d2, d3, d4, d5, d6] => { results := [.lit (.bool false)], args := [d1, d2, d3, d4, d5, d6] }
  | _ => none }
def CookieSealsWrongFalsely : Prop := cookieSealsRow.holds Try.pinned (OpenSpec.ofChange cookieSealsWrong)

/-- 'timesynclaw44.CookieOpens': WHATEVER THE INPUT: true; the input reads as it did. -/
def cookieOpensSpec : ChangeSpec := { name := "cookieOpens", fn := fun _ => fun
  | [d1, d2, d3, d4] => { results := [.lit (.bool true)], args := [d1, d2, d3, d4] }
  | _ => none }
def cookieOpensRow : OpenClaim := { program := "ytdgjbaeflbggpaa", sum := "d98e80a81ae0f86c8294559b9e9c9387607ce8347ccfdc59b7d5d7271df1bdde", func := "timesync/timesynclaw44.CookieOpens", spec := "cookieOpens", unfollowed := true, recurses := true, apart := false }
def CookieOpensSaid : Prop := cookieOpensRow.holds Try.pinned (OpenSpec.ofChange cookieOpensSpec)

/-- ITS FALSE NEIGHBOUR: 'it returns false'. Refute it at one input. -/
def cookieOpensWrong : ChangeSpec := { name := "cookieOpens", fn := fun _ => fun
  | [d1, d2, d3, d4] => { results := [.lit (.bool false)], args := [d1, d2, d3, d4] }
  | _ => none }
def CookieOpensWrongFalsely : Prop := cookieOpensRow.holds Try.pinned (OpenSpec.ofChange cookieOpensWrong)

/-- 'timesynclaw44.CookieBack': WHATEVER THE INPUT: true; the input reads as it did. -/
def cookieBackSpec : ChangeSpec := { name := "cookieBack", fn := fun _ => fun
  | [d1, d2, d3, d4, d5, d6] => { results := [.lit (.bool true)], args := [d1, d2, d3, d4, d5, d6] }
  | _ => none }
def cookieBackRow : OpenClaim := { program := "ytdgjbaeflbggpaa", sum := "d98e80a81ae0f86c8294559b9e9c9387607ce8347ccfdc59b7d5d7271df1bdde", func := "timesync/timesynclaw44.CookieBack", spec := "cookieBack", unfollowed := true, recurses := true, apart := false }
def CookieBackSaid : Prop := cookieBackRow.holds Try.pinned (OpenSpec.ofChange cookieBackSpec)

/-- ITS FALSE NEIGHBOUR: 'it returns false'. Refute it at one input. -/
def cookieBackWrong : ChangeSpec := { name := "cookieBack", fn := fun _ => fun
  | [d1, d2, d3, d4, d5, d6] => { results := [.lit (.bool false)], args := [d1, d2, d3, d4, d5, d6] }
  | _ => none }
def CookieBackWrongFalsely : Prop := cookieBackRow.holds Try.pinned (OpenSpec.ofChange cookieBackWrong)

/-- 'timesynclaw44.CookieLengths': WHATEVER THE INPUT: true; the input reads as it did. -/
def cookieLengthsSpec : ChangeSpec := { name := "cookieLengths", fn := fun _ => fun
  | [d1, d2, d3, d4, d5, d6] => { results := [.lit (.bool true)], args := [d1, d2, d3, d4, d5, d6] }
  | _ => none }
def cookieLengthsRow : OpenClaim := { program := "ytdgjbaeflbggpaa", sum := "d98e80a81ae0f86c8294559b9e9c9387607ce8347ccfdc59b7d5d7271df1bdde", func := "timesync/timesynclaw44.CookieLengths", spec := "cookieLengths", unfollowed := true, recurses := true, apart := false }
def CookieLengthsSaid : Prop := cookieLengthsRow.holds Try.pinned (OpenSpec.ofChange cookieLengthsSpec)

/-- ITS FALSE NEIGHBOUR: 'it returns false'. Refute it at one input. -/
def cookieLengthsWrong : ChangeSpec := { name := "cookieLengths", fn := fun _ => fun
  | [d1, d2, d3, d4, d5, d6] => { results := [.lit (.bool false)], args := [d1, d2, d3, d4, d5, d6] }
  | _ => none }
def CookieLengthsWrongFalsely : Prop := cookieLengthsRow.holds Try.pinned (OpenSpec.ofChange cookieLengthsWrong)

/-- 'timesynclaw44.CookieNobody': WHATEVER THE INPUT: true; the input reads as it did. -/
def cookieNobodySpec : ChangeSpec := { name := "cookieNobody", fn := fun _ => fun
  | [d1, d2, d3, d4] => { results := [.lit (.bool true)], args := [d1, d2, d3, d4] }
  | _ => none }
def cookieNobodyRow : OpenClaim := { program := "ytdgjbaeflbggpaa", sum := "d98e80a81ae0f86c8294559b9e9c9387607ce8347ccfdc59b7d5d7271df1bdde", func := "timesync/timesynclaw44.CookieNobody", spec := "cookieNobody", unfollowed := true, recurses := true, apart := false }
def CookieNobodySaid : Prop := cookieNobodyRow.holds Try.pinned (OpenSpec.ofChange cookieNobodySpec)

/-- ITS FALSE NEIGHBOUR: 'it returns false'. Refute it at one input. -/
def cookieNobodyWrong : ChangeSpec := { name := "cookieNobody", fn := fun _ => fun
  | [d1, d2, d3, d4] => { results := [.lit (.bool false)], args := [d1, d2, d3, d4] }
  | _ => none }
def CookieNobodyWrongFalsely : Prop := cookieNobodyRow.holds Try.pinned (OpenSpec.ofChange cookieNobodyWrong)

/-- 'timesynclaw44.CookieTags': WHATEVER THE INPUT: true; the input reads as it did. -/
def cookieTagsSpec : ChangeSpec := { name := "cookieTags", fn := fun _ => fun
  | [d1, d2, d3, d4, d5, d6] => { results := [.lit (.bool true)], args := [d1, d2, d3, d4, d5, d6] }
  | _ => none }
def cookieTagsRow : OpenClaim := { program := "ytdgjbaeflbggpaa", sum := "d98e80a81ae0f86c8294559b9e9c9387607ce8347ccfdc59b7d5d7271df1bdde", func := "timesync/timesynclaw44.CookieTags", spec := "cookieTags", unfollowed := true, recurses := true, apart := false }
def CookieTagsSaid : Prop := cookieTagsRow.holds Try.pinned (OpenSpec.ofChange cookieTagsSpec)

/-- ITS FALSE NEIGHBOUR: 'it returns false'. Refute it at one input. -/
def cookieTagsWrong : ChangeSpec := { name := "cookieTags", fn := fun _ => fun
  | [d1, d2, d3, d4, d5, d6] => { results := [.lit (.bool false)], args := [d1, d2, d3, d4, d5, d6] }
  | _ => none }
def CookieTagsWrongFalsely : Prop := cookieTagsRow.holds Try.pinned (OpenSpec.ofChange cookieTagsWrong)

/- THE SECOND FORM. 'bulk': how many values and letters a reading holds, each counted each time it is reached (what is shared counts as often as it is met; a slice's spare places count too). A statement '..UptoSaid' is the law's where the arguments, and the package variables that the reading takes, are together of bulk at most 1048576: NARROWER than '..Said'. Prove '..Said' where nothing that the law and all that it calls make is longer than what came in: it says more and counts as full. Else prove '..UptoSaid'. A law counts once. -/
mutual
def uptoBulk {H : Type} : DataW H → Nat
  | .lit (.string bytes) => bytes.length + 1
  | .lit _ => 1
  | .nil => 1
  | .ptr d => uptoBulk d + 1
  | .slice elems spare => uptoBulkAll elems + uptoBulkAll spare + 1
  | .agg parts => uptoBulkAll parts + 1
  | .iface _ d => uptoBulk d + 1
  | .map entries => uptoBulkEntries entries + 1
  | .held _ => 1
def uptoBulkAll {H : Type} : List (DataW H) → Nat
  | [] => 0
  | d :: r => uptoBulk d + uptoBulkAll r
def uptoBulkEntries {H : Type} : List (Lit × DataW H) → Nat
  | [] => 0
  | x :: r => uptoBulkEntry x + uptoBulkEntries r
def uptoBulkEntry {H : Type} : Lit × DataW H → Nat
  | (.string bytes, d) => bytes.length + uptoBulk d + 1
  | (_, d) => uptoBulk d + 1
 end
def uptoSmall : (H : Type) → List (DataW H) → Bool := fun _ ds => decide (uptoBulkAll ds ≤ 1048576)
def OpenSpec.upto (s : _root_.Go.ChangeSpec) : _root_.Go.OpenSpec := { _root_.Go.OpenSpec.ofChange s with cond := some uptoSmall }

/-- 'timesynclaw44.CookieSeals', WHERE WHAT IT READS IS OF BULK AT MOST 1048576: true; the input reads as it did. -/
def cookieSealsUptoRow : OpenClaim := { program := "ytdgjbaeflbggpaa", sum := "d98e80a81ae0f86c8294559b9e9c9387607ce8347ccfdc59b7d5d7271df1bdde", func := "timesync/timesynclaw44.CookieSeals", spec := "cookieSeals", unfollowed := true, recurses := true, apart := false, narrowed := true }
def CookieSealsUptoSaid : Prop := cookieSealsUptoRow.holds Try.pinned (OpenSpec.upto cookieSealsSpec)

/-- 'timesynclaw44.CookieOpens', WHERE WHAT IT READS IS OF BULK AT MOST 1048576: true; the input reads as it did. -/
def cookieOpensUptoRow : OpenClaim := { program := "ytdgjbaeflbggpaa", sum := "d98e80a81ae0f86c8294559b9e9c9387607ce8347ccfdc59b7d5d7271df1bdde", func := "timesync/timesynclaw44.CookieOpens", spec := "cookieOpens", unfollowed := true, recurses := true, apart := false, narrowed := true }
def CookieOpensUptoSaid : Prop := cookieOpensUptoRow.holds Try.pinned (OpenSpec.upto cookieOpensSpec)

/-- 'timesynclaw44.CookieBack', WHERE WHAT IT READS IS OF BULK AT MOST 1048576: true; the input reads as it did. -/
def cookieBackUptoRow : OpenClaim := { program := "ytdgjbaeflbggpaa", sum := "d98e80a81ae0f86c8294559b9e9c9387607ce8347ccfdc59b7d5d7271df1bdde", func := "timesync/timesynclaw44.CookieBack", spec := "cookieBack", unfollowed := true, recurses := true, apart := false, narrowed := true }
def CookieBackUptoSaid : Prop := cookieBackUptoRow.holds Try.pinned (OpenSpec.upto cookieBackSpec)

/-- 'timesynclaw44.CookieLengths', WHERE WHAT IT READS IS OF BULK AT MOST 1048576: true; the input reads as it did. -/
def cookieLengthsUptoRow : OpenClaim := { program := "ytdgjbaeflbggpaa", sum := "d98e80a81ae0f86c8294559b9e9c9387607ce8347ccfdc59b7d5d7271df1bdde", func := "timesync/timesynclaw44.CookieLengths", spec := "cookieLengths", unfollowed := true, recurses := true, apart := false, narrowed := true }
def CookieLengthsUptoSaid : Prop := cookieLengthsUptoRow.holds Try.pinned (OpenSpec.upto cookieLengthsSpec)

/-- 'timesynclaw44.CookieNobody', WHERE WHAT IT READS IS OF BULK AT MOST 1048576: true; the input reads as it did. -/
def cookieNobodyUptoRow : OpenClaim := { program := "ytdgjbaeflbggpaa", sum := "d98e80a81ae0f86c8294559b9e9c9387607ce8347ccfdc59b7d5d7271df1bdde", func := "timesync/timesynclaw44.CookieNobody", spec := "cookieNobody", unfollowed := true, recurses := true, apart := false, narrowed := true }
def CookieNobodyUptoSaid : Prop := cookieNobodyUptoRow.holds Try.pinned (OpenSpec.upto cookieNobodySpec)

/-- 'timesynclaw44.CookieTags', WHERE WHAT IT READS IS OF BULK AT MOST 1048576: true; the input reads as it did. -/
def cookieTagsUptoRow : OpenClaim := { program := "ytdgjbaeflbggpaa", sum := "d98e80a81ae0f86c8294559b9e9c9387607ce8347ccfdc59b7d5d7271df1bdde", func := "timesync/timesynclaw44.CookieTags", spec := "cookieTags", unfollowed := true, recurses := true, apart := false, narrowed := true }
def CookieTagsUptoSaid : Prop := cookieTagsUptoRow.holds Try.pinned (OpenSpec.upto cookieTagsSpec)

end Rows
end Go.Proofs.Ytdgjbaeflbggpaa

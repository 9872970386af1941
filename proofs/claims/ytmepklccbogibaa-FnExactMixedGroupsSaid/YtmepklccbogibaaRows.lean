/-
  No cell of these rows narrows 'for every input' (looked for: loops, veiled, ifaces, maps, wideKeys, modest, calm, conditions, laid).
  DERIVED. THE GIVEN ROWS OF THIS SEAT. 12 by the template 'for every input the law returns true; each argument reads behind the call as it read before'; 0 by the template 'total and deterministic' (their statements: YtmepklccbogibaaTotals.lean).
  GIVEN WITH THE SEED: the statements are not yours to turn. If you find one false, say at which input.
  Laid BY PROGRAM, IN A SANDBOX (cutbox-rows.mjs): the forced cells as the released guide's own fill.sh prints them over the translation 226cb4761e4312d6… (all of the seat's roots in one cut). By AI agents, Wed Nov 11 2026. No macro, syntax, notation, axiom, sorry.
-/
import Derived.Test.YtmepklccbogibaaChecked
import GoSem.Claim
import GoSem.ClaimJoined
import GoSem.ClaimMapViews
import Derived.JoinedTies
import Derived.KernelRfl
namespace Go.Proofs.Ytmepklccbogibaa
/- THE CELL 'sum', in the pinned program and in every row, IS THE sha256 OF THE DUMP (.gsa) THAT YtmepklccbogibaaProg.lean LOADS. Nothing in Lean hashes anything: it is a label: what it is worth is what the hold of that sum in a sandbox is worth. -/
noncomputable def Try.pinned : Pinned := { name := "ytmepklccbogibaa", sum := "226cb4761e4312d603cd39bf6711f5750c1c80cdf0063e478a8e4f881beed069", checked := Try.checked }
namespace Rows
def none {H : Type} : Left H := { results := [], args := [] }

/-- 'laws.FnExactIsArticle': WHATEVER THE INPUT: true; the input reads as it did. -/
def fnExactIsArticleSpec : ChangeSpec := { name := "fnExactIsArticle", fn := fun _ => fun
  | [d] => { results := [.lit (.bool true)], args := [d] }
  | _ => none }
def fnExactIsArticleRow : OpenClaim := { program := "ytmepklccbogibaa", sum := "226cb4761e4312d603cd39bf6711f5750c1c80cdf0063e478a8e4f881beed069", func := "loop.example/g01049/laws.FnExactIsArticle", spec := "fnExactIsArticle", apart := false }
def FnExactIsArticleSaid : Prop := fnExactIsArticleRow.holds Try.pinned (OpenSpec.ofChange fnExactIsArticleSpec)

/-- ITS FALSE NEIGHBOUR: 'it returns false'. Refute it at one input. -/
def fnExactIsArticleWrong : ChangeSpec := { name := "fnExactIsArticle", fn := fun _ => fun
  | [d] => { results := [.lit (.bool false)], args := [d] }
  | _ => none }
def FnExactIsArticleWrongFalsely : Prop := fnExactIsArticleRow.holds Try.pinned (OpenSpec.ofChange fnExactIsArticleWrong)

/-- 'laws.FnArticleTexts': WHATEVER THE INPUT: true; the input reads as it did. -/
def fnArticleTextsSpec : ChangeSpec := { name := "fnArticleTexts", fn := fun _ => fun
  | [d] => { results := [.lit (.bool true)], args := [d] }
  | _ => none }
def fnArticleTextsRow : OpenClaim := { program := "ytmepklccbogibaa", sum := "226cb4761e4312d603cd39bf6711f5750c1c80cdf0063e478a8e4f881beed069", func := "loop.example/g01049/laws.FnArticleTexts", spec := "fnArticleTexts", recurses := true, apart := false }
def FnArticleTextsSaid : Prop := fnArticleTextsRow.holds Try.pinned (OpenSpec.ofChange fnArticleTextsSpec)

/-- ITS FALSE NEIGHBOUR: 'it returns false'. Refute it at one input. -/
def fnArticleTextsWrong : ChangeSpec := { name := "fnArticleTexts", fn := fun _ => fun
  | [d] => { results := [.lit (.bool false)], args := [d] }
  | _ => none }
def FnArticleTextsWrongFalsely : Prop := fnArticleTextsRow.holds Try.pinned (OpenSpec.ofChange fnArticleTextsWrong)

/-- 'laws.FnExactLengthOf': WHATEVER THE INPUT: true; the input reads as it did. -/
def fnExactLengthOfSpec : ChangeSpec := { name := "fnExactLengthOf", fn := fun _ => fun
  | [d] => { results := [.lit (.bool true)], args := [d] }
  | _ => none }
def fnExactLengthOfRow : OpenClaim := { program := "ytmepklccbogibaa", sum := "226cb4761e4312d603cd39bf6711f5750c1c80cdf0063e478a8e4f881beed069", func := "loop.example/g01049/laws.FnExactLengthOf", spec := "fnExactLengthOf", apart := false }
def FnExactLengthOfSaid : Prop := fnExactLengthOfRow.holds Try.pinned (OpenSpec.ofChange fnExactLengthOfSpec)

/-- ITS FALSE NEIGHBOUR: 'it returns false'. Refute it at one input. -/
def fnExactLengthOfWrong : ChangeSpec := { name := "fnExactLengthOf", fn := fun _ => fun
  | [d] => { results := [.lit (.bool false)], args := [d] }
  | _ => none }
def FnExactLengthOfWrongFalsely : Prop := fnExactLengthOfRow.holds Try.pinned (OpenSpec.ofChange fnExactLengthOfWrong)

/-- 'laws.FnExactMixedGroups': WHATEVER THE INPUT: true; the input reads as it did. -/
def fnExactMixedGroupsSpec : ChangeSpec := { name := "fnExactMixedGroups", fn := fun _ => fun
  | [d1, d2] => { results := [.lit (.bool true)], args := [d1, d2] }
  | _ => none }
def fnExactMixedGroupsRow : OpenClaim := { program := "ytmepklccbogibaa", sum := "226cb4761e4312d603cd39bf6711f5750c1c80cdf0063e478a8e4f881beed069", func := "loop.example/g01049/laws.FnExactMixedGroups", spec := "fnExactMixedGroups", apart := false }
def FnExactMixedGroupsSaid : Prop := fnExactMixedGroupsRow.holds Try.pinned (OpenSpec.ofChange fnExactMixedGroupsSpec)

/-- ITS FALSE NEIGHBOUR: 'it returns false'. Refute it at one input. -/
def fnExactMixedGroupsWrong : ChangeSpec := { name := "fnExactMixedGroups", fn := fun _ => fun
  | [d1, d2] => { results := [.lit (.bool false)], args := [d1, d2] }
  | _ => none }
def FnExactMixedGroupsWrongFalsely : Prop := fnExactMixedGroupsRow.holds Try.pinned (OpenSpec.ofChange fnExactMixedGroupsWrong)

/-- 'laws.FnExactArticleText': WHATEVER THE INPUT: true; the input reads as it did. -/
def fnExactArticleTextSpec : ChangeSpec := { name := "fnExactArticleText", fn := fun _ => fun
  | [d] => { results := [.lit (.bool true)], args := [d] }
  | _ => none }
def fnExactArticleTextRow : OpenClaim := { program := "ytmepklccbogibaa", sum := "226cb4761e4312d603cd39bf6711f5750c1c80cdf0063e478a8e4f881beed069", func := "loop.example/g01049/laws.FnExactArticleText", spec := "fnExactArticleText", recurses := true, apart := false }
def FnExactArticleTextSaid : Prop := fnExactArticleTextRow.holds Try.pinned (OpenSpec.ofChange fnExactArticleTextSpec)

/-- ITS FALSE NEIGHBOUR: 'it returns false'. Refute it at one input. -/
def fnExactArticleTextWrong : ChangeSpec := { name := "fnExactArticleText", fn := fun _ => fun
  | [d] => { results := [.lit (.bool false)], args := [d] }
  | _ => none }
def FnExactArticleTextWrongFalsely : Prop := fnExactArticleTextRow.holds Try.pinned (OpenSpec.ofChange fnExactArticleTextWrong)

/-- 'laws.FnExactShotWindows': WHATEVER THE INPUT: true; the input reads as it did. -/
def fnExactShotWindowsSpec : ChangeSpec := { name := "fnExactShotWindows", fn := fun _ => fun
  | [d1, d2] => { results := [.lit (.bool true)], args := [d1, d2] }
  | _ => none }
def fnExactShotWindowsRow : OpenClaim := { program := "ytmepklccbogibaa", sum := "226cb4761e4312d603cd39bf6711f5750c1c80cdf0063e478a8e4f881beed069", func := "loop.example/g01049/laws.FnExactShotWindows", spec := "fnExactShotWindows", apart := false }
def FnExactShotWindowsSaid : Prop := fnExactShotWindowsRow.holds Try.pinned (OpenSpec.ofChange fnExactShotWindowsSpec)

/-- ITS FALSE NEIGHBOUR: 'it returns false'. Refute it at one input. -/
def fnExactShotWindowsWrong : ChangeSpec := { name := "fnExactShotWindows", fn := fun _ => fun
  | [d1, d2] => { results := [.lit (.bool false)], args := [d1, d2] }
  | _ => none }
def FnExactShotWindowsWrongFalsely : Prop := fnExactShotWindowsRow.holds Try.pinned (OpenSpec.ofChange fnExactShotWindowsWrong)

/-- 'laws.FnExactAreArticles': WHATEVER THE INPUT: true; the input reads as it did. -/
def fnExactAreArticlesSpec : ChangeSpec := { name := "fnExactAreArticles", fn := fun _ => fun
  | [d] => { results := [.lit (.bool true)], args := [d] }
  | _ => none }
def fnExactAreArticlesRow : OpenClaim := { program := "ytmepklccbogibaa", sum := "226cb4761e4312d603cd39bf6711f5750c1c80cdf0063e478a8e4f881beed069", func := "loop.example/g01049/laws.FnExactAreArticles", spec := "fnExactAreArticles", apart := false }
def FnExactAreArticlesSaid : Prop := fnExactAreArticlesRow.holds Try.pinned (OpenSpec.ofChange fnExactAreArticlesSpec)

/-- ITS FALSE NEIGHBOUR: 'it returns false'. Refute it at one input. -/
def fnExactAreArticlesWrong : ChangeSpec := { name := "fnExactAreArticles", fn := fun _ => fun
  | [d] => { results := [.lit (.bool false)], args := [d] }
  | _ => none }
def FnExactAreArticlesWrongFalsely : Prop := fnExactAreArticlesRow.holds Try.pinned (OpenSpec.ofChange fnExactAreArticlesWrong)

/-- 'laws.FnExactReadArticle': WHATEVER THE INPUT: true; the input reads as it did. -/
def fnExactReadArticleSpec : ChangeSpec := { name := "fnExactReadArticle", fn := fun _ => fun
  | [d] => { results := [.lit (.bool true)], args := [d] }
  | _ => none }
def fnExactReadArticleRow : OpenClaim := { program := "ytmepklccbogibaa", sum := "226cb4761e4312d603cd39bf6711f5750c1c80cdf0063e478a8e4f881beed069", func := "loop.example/g01049/laws.FnExactReadArticle", spec := "fnExactReadArticle", recurses := true, apart := false }
def FnExactReadArticleSaid : Prop := fnExactReadArticleRow.holds Try.pinned (OpenSpec.ofChange fnExactReadArticleSpec)

/-- ITS FALSE NEIGHBOUR: 'it returns false'. Refute it at one input. -/
def fnExactReadArticleWrong : ChangeSpec := { name := "fnExactReadArticle", fn := fun _ => fun
  | [d] => { results := [.lit (.bool false)], args := [d] }
  | _ => none }
def FnExactReadArticleWrongFalsely : Prop := fnExactReadArticleRow.holds Try.pinned (OpenSpec.ofChange fnExactReadArticleWrong)

/-- 'laws.FnExactFindArticle': WHATEVER THE INPUT: true; the input reads as it did. -/
def fnExactFindArticleSpec : ChangeSpec := { name := "fnExactFindArticle", fn := fun _ => fun
  | [d1, d2] => { results := [.lit (.bool true)], args := [d1, d2] }
  | _ => none }
def fnExactFindArticleRow : OpenClaim := { program := "ytmepklccbogibaa", sum := "226cb4761e4312d603cd39bf6711f5750c1c80cdf0063e478a8e4f881beed069", func := "loop.example/g01049/laws.FnExactFindArticle", spec := "fnExactFindArticle", apart := false }
def FnExactFindArticleSaid : Prop := fnExactFindArticleRow.holds Try.pinned (OpenSpec.ofChange fnExactFindArticleSpec)

/-- ITS FALSE NEIGHBOUR: 'it returns false'. Refute it at one input. -/
def fnExactFindArticleWrong : ChangeSpec := { name := "fnExactFindArticle", fn := fun _ => fun
  | [d1, d2] => { results := [.lit (.bool false)], args := [d1, d2] }
  | _ => none }
def FnExactFindArticleWrongFalsely : Prop := fnExactFindArticleRow.holds Try.pinned (OpenSpec.ofChange fnExactFindArticleWrong)

/-- 'laws.FnExactNetOfOrder': WHATEVER THE INPUT: true; the input reads as it did. -/
def fnExactNetOfOrderSpec : ChangeSpec := { name := "fnExactNetOfOrder", fn := fun _ => fun
  | [d1, d2] => { results := [.lit (.bool true)], args := [d1, d2] }
  | _ => none }
def fnExactNetOfOrderRow : OpenClaim := { program := "ytmepklccbogibaa", sum := "226cb4761e4312d603cd39bf6711f5750c1c80cdf0063e478a8e4f881beed069", func := "loop.example/g01049/laws.FnExactNetOfOrder", spec := "fnExactNetOfOrder", apart := false }
def FnExactNetOfOrderSaid : Prop := fnExactNetOfOrderRow.holds Try.pinned (OpenSpec.ofChange fnExactNetOfOrderSpec)

/-- ITS FALSE NEIGHBOUR: 'it returns false'. Refute it at one input. -/
def fnExactNetOfOrderWrong : ChangeSpec := { name := "fnExactNetOfOrder", fn := fun _ => fun
  | [d1, d2] => { results := [.lit (.bool false)], args := [d1, d2] }
  | _ => none }
def FnExactNetOfOrderWrongFalsely : Prop := fnExactNetOfOrderRow.holds Try.pinned (OpenSpec.ofChange fnExactNetOfOrderWrong)

/-- 'laws.FnArticles': WHATEVER THE INPUT: true; the input reads as it did. -/
def fnArticlesSpec : ChangeSpec := { name := "fnArticles", fn := fun _ => fun
  | [d] => { results := [.lit (.bool true)], args := [d] }
  | _ => none }
def fnArticlesRow : OpenClaim := { program := "ytmepklccbogibaa", sum := "226cb4761e4312d603cd39bf6711f5750c1c80cdf0063e478a8e4f881beed069", func := "loop.example/g01049/laws.FnArticles", spec := "fnArticles", apart := false }
def FnArticlesSaid : Prop := fnArticlesRow.holds Try.pinned (OpenSpec.ofChange fnArticlesSpec)

/-- ITS FALSE NEIGHBOUR: 'it returns false'. Refute it at one input. -/
def fnArticlesWrong : ChangeSpec := { name := "fnArticles", fn := fun _ => fun
  | [d] => { results := [.lit (.bool false)], args := [d] }
  | _ => none }
def FnArticlesWrongFalsely : Prop := fnArticlesRow.holds Try.pinned (OpenSpec.ofChange fnArticlesWrong)

/-- 'laws.FnOrders': WHATEVER THE INPUT: true; the input reads as it did. -/
def fnOrdersSpec : ChangeSpec := { name := "fnOrders", fn := fun _ => fun
  | [d] => { results := [.lit (.bool true)], args := [d] }
  | _ => none }
def fnOrdersRow : OpenClaim := { program := "ytmepklccbogibaa", sum := "226cb4761e4312d603cd39bf6711f5750c1c80cdf0063e478a8e4f881beed069", func := "loop.example/g01049/laws.FnOrders", spec := "fnOrders", apart := false }
def FnOrdersSaid : Prop := fnOrdersRow.holds Try.pinned (OpenSpec.ofChange fnOrdersSpec)

/-- ITS FALSE NEIGHBOUR: 'it returns false'. Refute it at one input. -/
def fnOrdersWrong : ChangeSpec := { name := "fnOrders", fn := fun _ => fun
  | [d] => { results := [.lit (.bool false)], args := [d] }
  | _ => none }
def FnOrdersWrongFalsely : Prop := fnOrdersRow.holds Try.pinned (OpenSpec.ofChange fnOrdersWrong)

/- THE SECOND FORM. 'bulk': how many values and letters a reading holds, each counted each time it is reached (what is shared counts as often as it is met; a slice's spare places count too). A statement '..UptoSaid' is the law's where the arguments, and the package variables that the reading takes, are together of bulk at most 1048576: NARROWER than '..Said'. Prove '..Said' where nothing that the law and all that it calls make is longer than what came in: it says more and counts as full. Else prove '..UptoSaid'. A law counts once. -/
mutual
def uptoBulk {H : Type} : DataW H → Nat
  | .lit (.string bytes) => bytes.length + 1
  | .lit _ => 1
  | .nil => 1
  | .ptr d => uptoBulk d + 1
  | .slice elems spare => uptoBulkAll elems + uptoBulkAll spare + 1
  | .agg parts => uptoBulkAll parts + 1
  | .iface _ d => uptoBulk d + 1
  | .map entries => uptoBulkEntries entries + 1
  | .held _ => 1
def uptoBulkAll {H : Type} : List (DataW H) → Nat
  | [] => 0
  | d :: r => uptoBulk d + uptoBulkAll r
def uptoBulkEntries {H : Type} : List (Lit × DataW H) → Nat
  | [] => 0
  | x :: r => uptoBulkEntry x + uptoBulkEntries r
def uptoBulkEntry {H : Type} : Lit × DataW H → Nat
  | (.string bytes, d) => bytes.length + uptoBulk d + 1
  | (_, d) => uptoBulk d + 1
 end
def uptoSmall : (H : Type) → List (DataW H) → Bool := fun _ ds => decide (uptoBulkAll ds ≤ 1048576)
def OpenSpec.upto (s : _root_.Go.ChangeSpec) : _root_.Go.OpenSpec := { _root_.Go.OpenSpec.ofChange s with cond := some uptoSmall }

/-- 'laws.FnExactIsArticle', WHERE WHAT IT READS IS OF BULK AT MOST 1048576: true; the input reads as it did. -/
def fnExactIsArticleUptoRow : OpenClaim := { program := "ytmepklccbogibaa", sum := "226cb4761e4312d603cd39bf6711f5750c1c80cdf0063e478a8e4f881beed069", func := "loop.example/g01049/laws.FnExactIsArticle", spec := "fnExactIsArticle", apart := false, narrowed := true }
def FnExactIsArticleUptoSaid : Prop := fnExactIsArticleUptoRow.holds Try.pinned (OpenSpec.upto fnExactIsArticleSpec)

/-- 'laws.FnArticleTexts', WHERE WHAT IT READS IS OF BULK AT MOST 1048576: true; the input reads as it did. -/
def fnArticleTextsUptoRow : OpenClaim := { program := "ytmepklccbogibaa", sum := "226cb4761e4312d603cd39bf6711f5750c1c80cdf0063e478a8e4f881beed069", func := "loop.example/g01049/laws.FnArticleTexts", spec := "fnArticleTexts", recurses := true, apart := false, narrowed := true }
def FnArticleTextsUptoSaid : Prop := fnArticleTextsUptoRow.holds Try.pinned (OpenSpec.upto fnArticleTextsSpec)

/-- 'laws.FnExactLengthOf', WHERE WHAT IT READS IS OF BULK AT MOST 1048576: true; the input reads as it did. -/
def fnExactLengthOfUptoRow : OpenClaim := { program := "ytmepklccbogibaa", sum := "226cb4761e4312d603cd39bf6711f5750c1c80cdf0063e478a8e4f881beed069", func := "loop.example/g01049/laws.FnExactLengthOf", spec := "fnExactLengthOf", apart := false, narrowed := true }
def FnExactLengthOfUptoSaid : Prop := fnExactLengthOfUptoRow.holds Try.pinned (OpenSpec.upto fnExactLengthOfSpec)

/-- 'laws.FnExactMixedGroups', WHERE WHAT IT READS IS OF BULK AT MOST 1048576: true; the input reads as it did. -/
def fnExactMixedGroupsUptoRow : OpenClaim := { program := "ytmepklccbogibaa", sum := "226cb4761e4312d603cd39bf6711f5750c1c80cdf0063e478a8e4f881beed069", func := "loop.example/g01049/laws.FnExactMixedGroups", spec := "fnExactMixedGroups", apart := false, narrowed := true }
def FnExactMixedGroupsUptoSaid : Prop := fnExactMixedGroupsUptoRow.holds Try.pinned (OpenSpec.upto fnExactMixedGroupsSpec)

/-- 'laws.FnExactArticleText', WHERE WHAT IT READS IS OF BULK AT MOST 1048576: true; the input reads as it did. -/
def fnExactArticleTextUptoRow : OpenClaim := { program := "ytmepklccbogibaa", sum := "226cb4761e4312d603cd39bf6711f5750c1c80cdf0063e478a8e4f881beed069", func := "loop.example/g01049/laws.FnExactArticleText", spec := "fnExactArticleText", recurses := true, apart := false, narrowed := true }
def FnExactArticleTextUptoSaid : Prop := fnExactArticleTextUptoRow.holds Try.pinned (OpenSpec.upto fnExactArticleTextSpec)

/-- 'laws.FnExactShotWindows', WHERE WHAT IT READS IS OF BULK AT MOST 1048576: true; the input reads as it did. -/
def fnExactShotWindowsUptoRow : OpenClaim := { program := "ytmepklccbogibaa", sum := "226cb4761e4312d603cd39bf6711f5750c1c80cdf0063e478a8e4f881beed069", func := "loop.example/g01049/laws.FnExactShotWindows", spec := "fnExactShotWindows", apart := false, narrowed := true }
def FnExactShotWindowsUptoSaid : Prop := fnExactShotWindowsUptoRow.holds Try.pinned (OpenSpec.upto fnExactShotWindowsSpec)

/-- 'laws.FnExactAreArticles', WHERE WHAT IT READS IS OF BULK AT MOST 1048576: true; the input reads as it did. -/
def fnExactAreArticlesUptoRow : OpenClaim := { program := "ytmepklccbogibaa", sum := "226cb4761e4312d603cd39bf6711f5750c1c80cdf0063e478a8e4f881beed069", func := "loop.example/g01049/laws.FnExactAreArticles", spec := "fnExactAreArticles", apart := false, narrowed := true }
def FnExactAreArticlesUptoSaid : Prop := fnExactAreArticlesUptoRow.holds Try.pinned (OpenSpec.upto fnExactAreArticlesSpec)

/-- 'laws.FnExactReadArticle', WHERE WHAT IT READS IS OF BULK AT MOST 1048576: true; the input reads as it did. -/
def fnExactReadArticleUptoRow : OpenClaim := { program := "ytmepklccbogibaa", sum := "226cb4761e4312d603cd39bf6711f5750c1c80cdf0063e478a8e4f881beed069", func := "loop.example/g01049/laws.FnExactReadArticle", spec := "fnExactReadArticle", recurses := true, apart := false, narrowed := true }
def FnExactReadArticleUptoSaid : Prop := fnExactReadArticleUptoRow.holds Try.pinned (OpenSpec.upto fnExactReadArticleSpec)

/-- 'laws.FnExactFindArticle', WHERE WHAT IT READS IS OF BULK AT MOST 1048576: true; the input reads as it did. -/
def fnExactFindArticleUptoRow : OpenClaim := { program := "ytmepklccbogibaa", sum := "226cb4761e4312d603cd39bf6711f5750c1c80cdf0063e478a8e4f881beed069", func := "loop.example/g01049/laws.FnExactFindArticle", spec := "fnExactFindArticle", apart := false, narrowed := true }
def FnExactFindArticleUptoSaid : Prop := fnExactFindArticleUptoRow.holds Try.pinned (OpenSpec.upto fnExactFindArticleSpec)

/-- 'laws.FnExactNetOfOrder', WHERE WHAT IT READS IS OF BULK AT MOST 1048576: true; the input reads as it did. -/
def fnExactNetOfOrderUptoRow : OpenClaim := { program := "ytmepklccbogibaa", sum := "226cb4761e4312d603cd39bf6711f5750c1c80cdf0063e478a8e4f881beed069", func := "loop.example/g01049/laws.FnExactNetOfOrder", spec := "fnExactNetOfOrder", apart := false, narrowed := true }
def FnExactNetOfOrderUptoSaid : Prop := fnExactNetOfOrderUptoRow.holds Try.pinned (OpenSpec.upto fnExactNetOfOrderSpec)

/-- 'laws.FnArticles', WHERE WHAT IT READS IS OF BULK AT MOST 1048576: true; the input reads as it did. -/
def fnArticlesUptoRow : OpenClaim := { program := "ytmepklccbogibaa", sum := "226cb4761e4312d603cd39bf6711f5750c1c80cdf0063e478a8e4f881beed069", func := "loop.example/g01049/laws.FnArticles", spec := "fnArticles", apart := false, narrowed := true }
def FnArticlesUptoSaid : Prop := fnArticlesUptoRow.holds Try.pinned (OpenSpec.upto fnArticlesSpec)

/-- 'laws.FnOrders', WHERE WHAT IT READS IS OF BULK AT MOST 1048576: true; the input reads as it did. -/
def fnOrdersUptoRow : OpenClaim := { program := "ytmepklccbogibaa", sum := "226cb4761e4312d603cd39bf6711f5750c1c80cdf0063e478a8e4f881beed069", func := "loop.example/g01049/laws.FnOrders", spec := "fnOrders", apart := false, narrowed := true }
def FnOrdersUptoSaid : Prop := fnOrdersUptoRow.holds Try.pinned (OpenSpec.upto fnOrdersSpec)

end Rows
end Go.Proofs.Ytmepklccbogibaa

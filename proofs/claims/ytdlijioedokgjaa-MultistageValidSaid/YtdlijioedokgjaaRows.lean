/-
  No cell of these rows narrows 'for every input' (looked for: loops, veiled, ifaces, maps, wideKeys, modest, calm, conditions, laid).
  DERIVED. THE GIVEN ROWS OF THIS SEAT. 25 by the template 'for every input the law returns true; each argument reads behind the call as it read before'; 0 by the template 'total and deterministic' (their statements: YtdlijioedokgjaaTotals.lean).
  GIVEN WITH THE SEED: the statements are not yours to turn. If you find one false, say at which input.
  Laid BY PROGRAM, IN A SANDBOX (cutbox-rows.mjs): the forced cells as the released guide's own fill.sh prints them over the translation 3fd08186ccf1167d… (all of the seat's roots in one cut). By AI agents, Wed Nov 11 2026. No macro, syntax, notation, axiom, sorry.
-/
import Derived.Test.YtdlijioedokgjaaChecked
import GoSem.Claim
import GoSem.ClaimJoined
import GoSem.ClaimMapViews
import Derived.JoinedTies
import Derived.KernelRfl
namespace Go.Proofs.Ytdlijioedokgjaa
/- THE CELL 'sum', in the pinned program and in every row, IS THE sha256 OF THE DUMP (.gsa) THAT YtdlijioedokgjaaProg.lean LOADS. Nothing in Lean hashes anything: it is a label: what it is worth is what the hold of that sum in a sandbox is worth. -/
noncomputable def Try.pinned : Pinned := { name := "ytdlijioedokgjaa", sum := "3fd08186ccf1167d05f037315fe18e665af021a8f8365bc5c90c8da093db107f", checked := Try.checked }
namespace Rows
def none {H : Type} : Left H := { results := [], args := [] }

/-- 'unicodetextlaw15.ImageSums': WHATEVER THE INPUT: true; the input reads as it did. -/
def imageSumsSpec : ChangeSpec := { name := "imageSums", fn := fun _ => fun
  | [d] => { results := [.lit (.bool true)], args := [d] }
  | _ => none }
def imageSumsRow : OpenClaim := { program := "ytdlijioedokgjaa", sum := "3fd08186ccf1167d05f037315fe18e665af021a8f8365bc5c90c8da093db107f", func := "unicodetext/unicodetextlaw15.ImageSums", spec := "imageSums", unfollowed := true, recurses := true, apart := false }
def ImageSumsSaid : Prop := imageSumsRow.holds Try.pinned (OpenSpec.ofChange imageSumsSpec)

/-- ITS FALSE NEIGHBOUR: 'it returns false'. Refute it at one input. -/
def imageSumsWrong : ChangeSpec := { name := "imageSums", fn := fun _ => fun
  | [d] => { results := [.lit (.bool false)], args := [d] }
  | _ => none }
def ImageSumsWrongFalsely : Prop := imageSumsRow.holds Try.pinned (OpenSpec.ofChange imageSumsWrong)

/-- 'unicodetextlaw15.ImageInts': WHATEVER THE INPUT: true; the input reads as it did. -/
def imageIntsSpec : ChangeSpec := { name := "imageInts", fn := fun _ => fun
  | [d] => { results := [.lit (.bool true)], args := [d] }
  | _ => none }
def imageIntsRow : OpenClaim := { program := "ytdlijioedokgjaa", sum := "3fd08186ccf1167d05f037315fe18e665af021a8f8365bc5c90c8da093db107f", func := "unicodetext/unicodetextlaw15.ImageInts", spec := "imageInts", unfollowed := true, recurses := true, apart := false }
def ImageIntsSaid : Prop := imageIntsRow.holds Try.pinned (OpenSpec.ofChange imageIntsSpec)

/-- ITS FALSE NEIGHBOUR: 'it returns false'. Refute it at one input. -/
def imageIntsWrong : ChangeSpec := { name := "imageInts", fn := fun _ => fun
  | [d] => { results := [.lit (.bool false)], args := [d] }
  | _ => none }
def ImageIntsWrongFalsely : Prop := imageIntsRow.holds Try.pinned (OpenSpec.ofChange imageIntsWrong)

/-- 'unicodetextlaw15.ImageRounds': WHATEVER THE INPUT: true; the input reads as it did. -/
def imageRoundsSpec : ChangeSpec := { name := "imageRounds", fn := fun _ => fun
  | [d1, d2, d3] => { results := [.lit (.bool true)], args := [d1, d2, d3] }
  | _ => none }
def imageRoundsRow : OpenClaim := { program := "ytdlijioedokgjaa", sum := "3fd08186ccf1167d05f037315fe18e665af021a8f8365bc5c90c8da093db107f", func := "unicodetext/unicodetextlaw15.ImageRounds", spec := "imageRounds", unfollowed := true, recurses := true, apart := false }
def ImageRoundsSaid : Prop := imageRoundsRow.holds Try.pinned (OpenSpec.ofChange imageRoundsSpec)

/-- ITS FALSE NEIGHBOUR: 'it returns false'. Refute it at one input. -/
def imageRoundsWrong : ChangeSpec := { name := "imageRounds", fn := fun _ => fun
  | [d1, d2, d3] => { results := [.lit (.bool false)], args := [d1, d2, d3] }
  | _ => none }
def ImageRoundsWrongFalsely : Prop := imageRoundsRow.holds Try.pinned (OpenSpec.ofChange imageRoundsWrong)

/-- 'unicodetextlaw15.ImageMinimal': WHATEVER THE INPUT: true; the input reads as it did. -/
def imageMinimalSpec : ChangeSpec := { name := "imageMinimal", fn := fun _ => fun
  | [d] => { results := [.lit (.bool true)], args := [d] }
  | _ => none }
def imageMinimalRow : OpenClaim := { program := "ytdlijioedokgjaa", sum := "3fd08186ccf1167d05f037315fe18e665af021a8f8365bc5c90c8da093db107f", func := "unicodetext/unicodetextlaw15.ImageMinimal", spec := "imageMinimal", unfollowed := true, recurses := true, apart := false }
def ImageMinimalSaid : Prop := imageMinimalRow.holds Try.pinned (OpenSpec.ofChange imageMinimalSpec)

/-- ITS FALSE NEIGHBOUR: 'it returns false'. Refute it at one input. -/
def imageMinimalWrong : ChangeSpec := { name := "imageMinimal", fn := fun _ => fun
  | [d] => { results := [.lit (.bool false)], args := [d] }
  | _ => none }
def ImageMinimalWrongFalsely : Prop := imageMinimalRow.holds Try.pinned (OpenSpec.ofChange imageMinimalWrong)

/-- 'unicodetextlaw14.SeqpoolPacks': WHATEVER THE INPUT: true; the input reads as it did. -/
def seqpoolPacksSpec : ChangeSpec := { name := "seqpoolPacks", fn := fun _ => fun
  | [d] => { results := [.lit (.bool true)], args := [d] }
  | _ => none }
def seqpoolPacksRow : OpenClaim := { program := "ytdlijioedokgjaa", sum := "3fd08186ccf1167d05f037315fe18e665af021a8f8365bc5c90c8da093db107f", func := "unicodetext/unicodetextlaw14.SeqpoolPacks", spec := "seqpoolPacks", apart := false }
def SeqpoolPacksSaid : Prop := seqpoolPacksRow.holds Try.pinned (OpenSpec.ofChange seqpoolPacksSpec)

/-- ITS FALSE NEIGHBOUR: 'it returns false'. Refute it at one input. -/
def seqpoolPacksWrong : ChangeSpec := { name := "seqpoolPacks", fn := fun _ => fun
  | [d] => { results := [.lit (.bool false)], args := [d] }
  | _ => none }
def SeqpoolPacksWrongFalsely : Prop := seqpoolPacksRow.holds Try.pinned (OpenSpec.ofChange seqpoolPacksWrong)

/-- 'unicodetextlaw14.SeqpoolAdds': WHATEVER THE INPUT: true; the input reads as it did. -/
def seqpoolAddsSpec : ChangeSpec := { name := "seqpoolAdds", fn := fun _ => fun
  | [d1, d2] => { results := [.lit (.bool true)], args := [d1, d2] }
  | _ => none }
def seqpoolAddsRow : OpenClaim := { program := "ytdlijioedokgjaa", sum := "3fd08186ccf1167d05f037315fe18e665af021a8f8365bc5c90c8da093db107f", func := "unicodetext/unicodetextlaw14.SeqpoolAdds", spec := "seqpoolAdds", apart := false }
def SeqpoolAddsSaid : Prop := seqpoolAddsRow.holds Try.pinned (OpenSpec.ofChange seqpoolAddsSpec)

/-- ITS FALSE NEIGHBOUR: 'it returns false'. Refute it at one input. -/
def seqpoolAddsWrong : ChangeSpec := { name := "seqpoolAdds", fn := fun _ => fun
  | [d1, d2] => { results := [.lit (.bool false)], args := [d1, d2] }
  | _ => none }
def SeqpoolAddsWrongFalsely : Prop := seqpoolAddsRow.holds Try.pinned (OpenSpec.ofChange seqpoolAddsWrong)

/-- 'unicodetextlaw13.MultistageSpans': WHATEVER THE INPUT: true; the input reads as it did. -/
def multistageSpansSpec : ChangeSpec := { name := "multistageSpans", fn := fun _ => fun
  | [d] => { results := [.lit (.bool true)], args := [d] }
  | _ => none }
def multistageSpansRow : OpenClaim := { program := "ytdlijioedokgjaa", sum := "3fd08186ccf1167d05f037315fe18e665af021a8f8365bc5c90c8da093db107f", func := "unicodetext/unicodetextlaw13.MultistageSpans", spec := "multistageSpans", unfollowed := true, recurses := true, apart := false }
def MultistageSpansSaid : Prop := multistageSpansRow.holds Try.pinned (OpenSpec.ofChange multistageSpansSpec)

/-- ITS FALSE NEIGHBOUR: 'it returns false'. Refute it at one input. -/
def multistageSpansWrong : ChangeSpec := { name := "multistageSpans", fn := fun _ => fun
  | [d] => { results := [.lit (.bool false)], args := [d] }
  | _ => none }
def MultistageSpansWrongFalsely : Prop := multistageSpansRow.holds Try.pinned (OpenSpec.ofChange multistageSpansWrong)

/-- 'unicodetextlaw14.SeqpoolFinds': WHATEVER THE INPUT: true; the input reads as it did. -/
def seqpoolFindsSpec : ChangeSpec := { name := "seqpoolFinds", fn := fun _ => fun
  | [d1, d2] => { results := [.lit (.bool true)], args := [d1, d2] }
  | _ => none }
def seqpoolFindsRow : OpenClaim := { program := "ytdlijioedokgjaa", sum := "3fd08186ccf1167d05f037315fe18e665af021a8f8365bc5c90c8da093db107f", func := "unicodetext/unicodetextlaw14.SeqpoolFinds", spec := "seqpoolFinds", apart := false }
def SeqpoolFindsSaid : Prop := seqpoolFindsRow.holds Try.pinned (OpenSpec.ofChange seqpoolFindsSpec)

/-- ITS FALSE NEIGHBOUR: 'it returns false'. Refute it at one input. -/
def seqpoolFindsWrong : ChangeSpec := { name := "seqpoolFinds", fn := fun _ => fun
  | [d1, d2] => { results := [.lit (.bool false)], args := [d1, d2] }
  | _ => none }
def SeqpoolFindsWrongFalsely : Prop := seqpoolFindsRow.holds Try.pinned (OpenSpec.ofChange seqpoolFindsWrong)

/-- 'unicodetextlaw14.SeqpoolSaves': WHATEVER THE INPUT: true; the input reads as it did. -/
def seqpoolSavesSpec : ChangeSpec := { name := "seqpoolSaves", fn := fun _ => fun
  | [d1, d2, d3, d4] => { results := [.lit (.bool true)], args := [d1, d2, d3, d4] }
  | _ => none }
def seqpoolSavesRow : OpenClaim := { program := "ytdlijioedokgjaa", sum := "3fd08186ccf1167d05f037315fe18e665af021a8f8365bc5c90c8da093db107f", func := "unicodetext/unicodetextlaw14.SeqpoolSaves", spec := "seqpoolSaves", apart := false }
def SeqpoolSavesSaid : Prop := seqpoolSavesRow.holds Try.pinned (OpenSpec.ofChange seqpoolSavesSpec)

/-- ITS FALSE NEIGHBOUR: 'it returns false'. Refute it at one input. -/
def seqpoolSavesWrong : ChangeSpec := { name := "seqpoolSaves", fn := fun _ => fun
  | [d1, d2, d3, d4] => { results := [.lit (.bool false)], args := [d1, d2, d3, d4] }
  | _ => none }
def SeqpoolSavesWrongFalsely : Prop := seqpoolSavesRow.holds Try.pinned (OpenSpec.ofChange seqpoolSavesWrong)

/-- 'unicodetextlaw13.MultistageEqual': WHATEVER THE INPUT: true; the input reads as it did. -/
def multistageEqualSpec : ChangeSpec := { name := "multistageEqual", fn := fun _ => fun
  | [d1, d2, d3] => { results := [.lit (.bool true)], args := [d1, d2, d3] }
  | _ => none }
def multistageEqualRow : OpenClaim := { program := "ytdlijioedokgjaa", sum := "3fd08186ccf1167d05f037315fe18e665af021a8f8365bc5c90c8da093db107f", func := "unicodetext/unicodetextlaw13.MultistageEqual", spec := "multistageEqual", unfollowed := true, recurses := true, apart := false }
def MultistageEqualSaid : Prop := multistageEqualRow.holds Try.pinned (OpenSpec.ofChange multistageEqualSpec)

/-- ITS FALSE NEIGHBOUR: 'it returns false'. Refute it at one input. -/
def multistageEqualWrong : ChangeSpec := { name := "multistageEqual", fn := fun _ => fun
  | [d1, d2, d3] => { results := [.lit (.bool false)], args := [d1, d2, d3] }
  | _ => none }
def MultistageEqualWrongFalsely : Prop := multistageEqualRow.holds Try.pinned (OpenSpec.ofChange multistageEqualWrong)

/-- 'unicodetextlaw14.SeqpoolSteps': WHATEVER THE INPUT: true; the input reads as it did. -/
def seqpoolStepsSpec : ChangeSpec := { name := "seqpoolSteps", fn := fun _ => fun
  | [d1, d2] => { results := [.lit (.bool true)], args := [d1, d2] }
  | _ => none }
def seqpoolStepsRow : OpenClaim := { program := "ytdlijioedokgjaa", sum := "3fd08186ccf1167d05f037315fe18e665af021a8f8365bc5c90c8da093db107f", func := "unicodetext/unicodetextlaw14.SeqpoolSteps", spec := "seqpoolSteps", apart := false }
def SeqpoolStepsSaid : Prop := seqpoolStepsRow.holds Try.pinned (OpenSpec.ofChange seqpoolStepsSpec)

/-- ITS FALSE NEIGHBOUR: 'it returns false'. Refute it at one input. -/
def seqpoolStepsWrong : ChangeSpec := { name := "seqpoolSteps", fn := fun _ => fun
  | [d1, d2] => { results := [.lit (.bool false)], args := [d1, d2] }
  | _ => none }
def SeqpoolStepsWrongFalsely : Prop := seqpoolStepsRow.holds Try.pinned (OpenSpec.ofChange seqpoolStepsWrong)

/-- 'unicodetextlaw14.SeqpoolGets': WHATEVER THE INPUT: true; the input reads as it did. -/
def seqpoolGetsSpec : ChangeSpec := { name := "seqpoolGets", fn := fun _ => fun
  | [d1, d2] => { results := [.lit (.bool true)], args := [d1, d2] }
  | _ => none }
def seqpoolGetsRow : OpenClaim := { program := "ytdlijioedokgjaa", sum := "3fd08186ccf1167d05f037315fe18e665af021a8f8365bc5c90c8da093db107f", func := "unicodetext/unicodetextlaw14.SeqpoolGets", spec := "seqpoolGets", apart := false }
def SeqpoolGetsSaid : Prop := seqpoolGetsRow.holds Try.pinned (OpenSpec.ofChange seqpoolGetsSpec)

/-- ITS FALSE NEIGHBOUR: 'it returns false'. Refute it at one input. -/
def seqpoolGetsWrong : ChangeSpec := { name := "seqpoolGets", fn := fun _ => fun
  | [d1, d2] => { results := [.lit (.bool false)], args := [d1, d2] }
  | _ => none }
def SeqpoolGetsWrongFalsely : Prop := seqpoolGetsRow.holds Try.pinned (OpenSpec.ofChange seqpoolGetsWrong)

/-- 'unicodetextlaw14.SeqpoolBack': WHATEVER THE INPUT: true; the input reads as it did. -/
def seqpoolBackSpec : ChangeSpec := { name := "seqpoolBack", fn := fun _ => fun
  | [d] => { results := [.lit (.bool true)], args := [d] }
  | _ => none }
def seqpoolBackRow : OpenClaim := { program := "ytdlijioedokgjaa", sum := "3fd08186ccf1167d05f037315fe18e665af021a8f8365bc5c90c8da093db107f", func := "unicodetext/unicodetextlaw14.SeqpoolBack", spec := "seqpoolBack", apart := false }
def SeqpoolBackSaid : Prop := seqpoolBackRow.holds Try.pinned (OpenSpec.ofChange seqpoolBackSpec)

/-- ITS FALSE NEIGHBOUR: 'it returns false'. Refute it at one input. -/
def seqpoolBackWrong : ChangeSpec := { name := "seqpoolBack", fn := fun _ => fun
  | [d] => { results := [.lit (.bool false)], args := [d] }
  | _ => none }
def SeqpoolBackWrongFalsely : Prop := seqpoolBackRow.holds Try.pinned (OpenSpec.ofChange seqpoolBackWrong)

/-- 'unicodetextlaw14.SeqpoolKeeps': WHATEVER THE INPUT: true; the input reads as it did. -/
def seqpoolKeepsSpec : ChangeSpec := { name := "seqpoolKeeps", fn := fun _ => fun
  | [d1, d2] => { results := [.lit (.bool true)], args := [d1, d2] }
  | _ => none }
def seqpoolKeepsRow : OpenClaim := { program := "ytdlijioedokgjaa", sum := "3fd08186ccf1167d05f037315fe18e665af021a8f8365bc5c90c8da093db107f", func := "unicodetext/unicodetextlaw14.SeqpoolKeeps", spec := "seqpoolKeeps", apart := false }
def SeqpoolKeepsSaid : Prop := seqpoolKeepsRow.holds Try.pinned (OpenSpec.ofChange seqpoolKeepsSpec)

/-- ITS FALSE NEIGHBOUR: 'it returns false'. Refute it at one input. -/
def seqpoolKeepsWrong : ChangeSpec := { name := "seqpoolKeeps", fn := fun _ => fun
  | [d1, d2] => { results := [.lit (.bool false)], args := [d1, d2] }
  | _ => none }
def SeqpoolKeepsWrongFalsely : Prop := seqpoolKeepsRow.holds Try.pinned (OpenSpec.ofChange seqpoolKeepsWrong)

/-- 'unicodetextlaw15.ImageSeals': WHATEVER THE INPUT: true; the input reads as it did. -/
def imageSealsSpec : ChangeSpec := { name := "imageSeals", fn := fun _ => fun
  | [d1, d2] => { results := [.lit (.bool true)], args := [d1, d2] }
  | _ => none }
def imageSealsRow : OpenClaim := { program := "ytdlijioedokgjaa", sum := "3fd08186ccf1167d05f037315fe18e665af021a8f8365bc5c90c8da093db107f", func := "unicodetext/unicodetextlaw15.ImageSeals", spec := "imageSeals", unfollowed := true, recurses := true, apart := false }
def ImageSealsSaid : Prop := imageSealsRow.holds Try.pinned (OpenSpec.ofChange imageSealsSpec)

/-- ITS FALSE NEIGHBOUR: 'it returns false'. Refute it at one input. -/
def imageSealsWrong : ChangeSpec := { name := "imageSeals", fn := fun _ => fun
  | [d1, d2] => { results := [.lit (.bool false)], args := [d1, d2] }
  | _ => none }
def ImageSealsWrongFalsely : Prop := imageSealsRow.holds Try.pinned (OpenSpec.ofChange imageSealsWrong)

/-- 'unicodetextlaw15.ImageChanges': WHATEVER THE INPUT: true; the input reads as it did. -/
def imageChangesSpec : ChangeSpec := { name := "imageChanges", fn := fun _ => fun
  | [d1, d2, d3] => { results := [.lit (.bool true)], args := [d1, d2, d3] }
  | _ => none }
def imageChangesRow : OpenClaim := { program := "ytdlijioedokgjaa", sum := "3fd08186ccf1167d05f037315fe18e665af021a8f8365bc5c90c8da093db107f", func := "unicodetext/unicodetextlaw15.ImageChanges", spec := "imageChanges", unfollowed := true, recurses := true, apart := false }
def ImageChangesSaid : Prop := imageChangesRow.holds Try.pinned (OpenSpec.ofChange imageChangesSpec)

/-- ITS FALSE NEIGHBOUR: 'it returns false'. Refute it at one input. -/
def imageChangesWrong : ChangeSpec := { name := "imageChanges", fn := fun _ => fun
  | [d1, d2, d3] => { results := [.lit (.bool false)], args := [d1, d2, d3] }
  | _ => none }
def ImageChangesWrongFalsely : Prop := imageChangesRow.holds Try.pinned (OpenSpec.ofChange imageChangesWrong)

/-- 'unicodetextlaw15.ImageReadPools': WHATEVER THE INPUT: true; the input reads as it did. -/
def imageReadPoolsSpec : ChangeSpec := { name := "imageReadPools", fn := fun _ => fun
  | [d1, d2] => { results := [.lit (.bool true)], args := [d1, d2] }
  | _ => none }
def imageReadPoolsRow : OpenClaim := { program := "ytdlijioedokgjaa", sum := "3fd08186ccf1167d05f037315fe18e665af021a8f8365bc5c90c8da093db107f", func := "unicodetext/unicodetextlaw15.ImageReadPools", spec := "imageReadPools", unfollowed := true, recurses := true, apart := false }
def ImageReadPoolsSaid : Prop := imageReadPoolsRow.holds Try.pinned (OpenSpec.ofChange imageReadPoolsSpec)

/-- ITS FALSE NEIGHBOUR: 'it returns false'. Refute it at one input. -/
def imageReadPoolsWrong : ChangeSpec := { name := "imageReadPools", fn := fun _ => fun
  | [d1, d2] => { results := [.lit (.bool false)], args := [d1, d2] }
  | _ => none }
def ImageReadPoolsWrongFalsely : Prop := imageReadPoolsRow.holds Try.pinned (OpenSpec.ofChange imageReadPoolsWrong)

/-- 'unicodetextlaw15.ImagePools': WHATEVER THE INPUT: true; the input reads as it did. -/
def imagePoolsSpec : ChangeSpec := { name := "imagePools", fn := fun _ => fun
  | [d] => { results := [.lit (.bool true)], args := [d] }
  | _ => none }
def imagePoolsRow : OpenClaim := { program := "ytdlijioedokgjaa", sum := "3fd08186ccf1167d05f037315fe18e665af021a8f8365bc5c90c8da093db107f", func := "unicodetext/unicodetextlaw15.ImagePools", spec := "imagePools", unfollowed := true, recurses := true, apart := false }
def ImagePoolsSaid : Prop := imagePoolsRow.holds Try.pinned (OpenSpec.ofChange imagePoolsSpec)

/-- ITS FALSE NEIGHBOUR: 'it returns false'. Refute it at one input. -/
def imagePoolsWrong : ChangeSpec := { name := "imagePools", fn := fun _ => fun
  | [d] => { results := [.lit (.bool false)], args := [d] }
  | _ => none }
def ImagePoolsWrongFalsely : Prop := imagePoolsRow.holds Try.pinned (OpenSpec.ofChange imagePoolsWrong)

/-- 'unicodetextlaw13.MultistageBuilds': WHATEVER THE INPUT: true; the input reads as it did. -/
def multistageBuildsSpec : ChangeSpec := { name := "multistageBuilds", fn := fun _ => fun
  | [d1, d2] => { results := [.lit (.bool true)], args := [d1, d2] }
  | _ => none }
def multistageBuildsRow : OpenClaim := { program := "ytdlijioedokgjaa", sum := "3fd08186ccf1167d05f037315fe18e665af021a8f8365bc5c90c8da093db107f", func := "unicodetext/unicodetextlaw13.MultistageBuilds", spec := "multistageBuilds", unfollowed := true, recurses := true, apart := false }
def MultistageBuildsSaid : Prop := multistageBuildsRow.holds Try.pinned (OpenSpec.ofChange multistageBuildsSpec)

/-- ITS FALSE NEIGHBOUR: 'it returns false'. Refute it at one input. -/
def multistageBuildsWrong : ChangeSpec := { name := "multistageBuilds", fn := fun _ => fun
  | [d1, d2] => { results := [.lit (.bool false)], args := [d1, d2] }
  | _ => none }
def MultistageBuildsWrongFalsely : Prop := multistageBuildsRow.holds Try.pinned (OpenSpec.ofChange multistageBuildsWrong)

/-- 'unicodetextlaw15.ImageReadTables': WHATEVER THE INPUT: true; the input reads as it did. -/
def imageReadTablesSpec : ChangeSpec := { name := "imageReadTables", fn := fun _ => fun
  | [d1, d2] => { results := [.lit (.bool true)], args := [d1, d2] }
  | _ => none }
def imageReadTablesRow : OpenClaim := { program := "ytdlijioedokgjaa", sum := "3fd08186ccf1167d05f037315fe18e665af021a8f8365bc5c90c8da093db107f", func := "unicodetext/unicodetextlaw15.ImageReadTables", spec := "imageReadTables", unfollowed := true, recurses := true, apart := false }
def ImageReadTablesSaid : Prop := imageReadTablesRow.holds Try.pinned (OpenSpec.ofChange imageReadTablesSpec)

/-- ITS FALSE NEIGHBOUR: 'it returns false'. Refute it at one input. -/
def imageReadTablesWrong : ChangeSpec := { name := "imageReadTables", fn := fun _ => fun
  | [d1, d2] => { results := [.lit (.bool false)], args := [d1, d2] }
  | _ => none }
def ImageReadTablesWrongFalsely : Prop := imageReadTablesRow.holds Try.pinned (OpenSpec.ofChange imageReadTablesWrong)

/-- 'unicodetextlaw13.MultistageValid': WHATEVER THE INPUT: true; the input reads as it did. -/
def multistageValidSpec : ChangeSpec := { name := "multistageValid", fn := fun _ => fun
  | [d1, d2] => { results := [.lit (.bool true)], args := [d1, d2] }
  | _ => none }
def multistageValidRow : OpenClaim := { program := "ytdlijioedokgjaa", sum := "3fd08186ccf1167d05f037315fe18e665af021a8f8365bc5c90c8da093db107f", func := "unicodetext/unicodetextlaw13.MultistageValid", spec := "multistageValid", unfollowed := true, recurses := true, apart := false }
def MultistageValidSaid : Prop := multistageValidRow.holds Try.pinned (OpenSpec.ofChange multistageValidSpec)

/-- ITS FALSE NEIGHBOUR: 'it returns false'. Refute it at one input. -/
def multistageValidWrong : ChangeSpec := { name := "multistageValid", fn := fun _ => fun
  | [d1, d2] => { results := [.lit (.bool false)], args := [d1, d2] }
  | _ => none }
def MultistageValidWrongFalsely : Prop := multistageValidRow.holds Try.pinned (OpenSpec.ofChange multistageValidWrong)

/-- 'unicodetextlaw13.MultistageLeast': WHATEVER THE INPUT: true; the input reads as it did. -/
def multistageLeastSpec : ChangeSpec := { name := "multistageLeast", fn := fun _ => fun
  | [d] => { results := [.lit (.bool true)], args := [d] }
  | _ => none }
def multistageLeastRow : OpenClaim := { program := "ytdlijioedokgjaa", sum := "3fd08186ccf1167d05f037315fe18e665af021a8f8365bc5c90c8da093db107f", func := "unicodetext/unicodetextlaw13.MultistageLeast", spec := "multistageLeast", unfollowed := true, recurses := true, apart := false }
def MultistageLeastSaid : Prop := multistageLeastRow.holds Try.pinned (OpenSpec.ofChange multistageLeastSpec)

/-- ITS FALSE NEIGHBOUR: 'it returns false'. Refute it at one input. -/
def multistageLeastWrong : ChangeSpec := { name := "multistageLeast", fn := fun _ => fun
  | [d] => { results := [.lit (.bool false)], args := [d] }
  | _ => none }
def MultistageLeastWrongFalsely : Prop := multistageLeastRow.holds Try.pinned (OpenSpec.ofChange multistageLeastWrong)

/-- 'unicodetextlaw15.ImageTables': WHATEVER THE INPUT: true; the input reads as it did. -/
def imageTablesSpec : ChangeSpec := { name := "imageTables", fn := fun _ => fun
  | [d] => { results := [.lit (.bool true)], args := [d] }
  | _ => none }
def imageTablesRow : OpenClaim := { program := "ytdlijioedokgjaa", sum := "3fd08186ccf1167d05f037315fe18e665af021a8f8365bc5c90c8da093db107f", func := "unicodetext/unicodetextlaw15.ImageTables", spec := "imageTables", unfollowed := true, recurses := true, apart := false }
def ImageTablesSaid : Prop := imageTablesRow.holds Try.pinned (OpenSpec.ofChange imageTablesSpec)

/-- ITS FALSE NEIGHBOUR: 'it returns false'. Refute it at one input. -/
def imageTablesWrong : ChangeSpec := { name := "imageTables", fn := fun _ => fun
  | [d] => { results := [.lit (.bool false)], args := [d] }
  | _ => none }
def ImageTablesWrongFalsely : Prop := imageTablesRow.holds Try.pinned (OpenSpec.ofChange imageTablesWrong)

/-- 'unicodetextlaw13.MultistageBest': WHATEVER THE INPUT: true; the input reads as it did. -/
def multistageBestSpec : ChangeSpec := { name := "multistageBest", fn := fun _ => fun
  | [d1, d2] => { results := [.lit (.bool true)], args := [d1, d2] }
  | _ => none }
def multistageBestRow : OpenClaim := { program := "ytdlijioedokgjaa", sum := "3fd08186ccf1167d05f037315fe18e665af021a8f8365bc5c90c8da093db107f", func := "unicodetext/unicodetextlaw13.MultistageBest", spec := "multistageBest", unfollowed := true, recurses := true, apart := false }
def MultistageBestSaid : Prop := multistageBestRow.holds Try.pinned (OpenSpec.ofChange multistageBestSpec)

/-- ITS FALSE NEIGHBOUR: 'it returns false'. Refute it at one input. -/
def multistageBestWrong : ChangeSpec := { name := "multistageBest", fn := fun _ => fun
  | [d1, d2] => { results := [.lit (.bool false)], args := [d1, d2] }
  | _ => none }
def MultistageBestWrongFalsely : Prop := multistageBestRow.holds Try.pinned (OpenSpec.ofChange multistageBestWrong)

/-- 'unicodetextlaw13.MultistageGets': WHATEVER THE INPUT: true; the input reads as it did. -/
def multistageGetsSpec : ChangeSpec := { name := "multistageGets", fn := fun _ => fun
  | [d1, d2, d3] => { results := [.lit (.bool true)], args := [d1, d2, d3] }
  | _ => none }
def multistageGetsRow : OpenClaim := { program := "ytdlijioedokgjaa", sum := "3fd08186ccf1167d05f037315fe18e665af021a8f8365bc5c90c8da093db107f", func := "unicodetext/unicodetextlaw13.MultistageGets", spec := "multistageGets", unfollowed := true, recurses := true, apart := false }
def MultistageGetsSaid : Prop := multistageGetsRow.holds Try.pinned (OpenSpec.ofChange multistageGetsSpec)

/-- ITS FALSE NEIGHBOUR: 'it returns false'. Refute it at one input. -/
def multistageGetsWrong : ChangeSpec := { name := "multistageGets", fn := fun _ => fun
  | [d1, d2, d3] => { results := [.lit (.bool false)], args := [d1, d2, d3] }
  | _ => none }
def MultistageGetsWrongFalsely : Prop := multistageGetsRow.holds Try.pinned (OpenSpec.ofChange multistageGetsWrong)

/- THE SECOND FORM. 'bulk': how many values and letters a reading holds, each counted each time it is reached (what is shared counts as often as it is met; a slice's spare places count too). A statement '..UptoSaid' is the law's where the arguments, and the package variables that the reading takes, are together of bulk at most 1048576: NARROWER than '..Said'. Prove '..Said' where nothing that the law and all that it calls make is longer than what came in: it says more and counts as full. Else prove '..UptoSaid'. A law counts once. -/
mutual
def uptoBulk {H : Type} : DataW H → Nat
  | .lit (.string bytes) => bytes.length + 1
  | .lit _ => 1
  | .nil => 1
  | .ptr d => uptoBulk d + 1
  | .slice elems spare => uptoBulkAll elems + uptoBulkAll spare + 1
  | .agg parts => uptoBulkAll parts + 1
  | .iface _ d => uptoBulk d + 1
  | .map entries => uptoBulkEntries entries + 1
  | .held _ => 1
def uptoBulkAll {H : Type} : List (DataW H) → Nat
  | [] => 0
  | d :: r => uptoBulk d + uptoBulkAll r
def uptoBulkEntries {H : Type} : List (Lit × DataW H) → Nat
  | [] => 0
  | x :: r => uptoBulkEntry x + uptoBulkEntries r
def uptoBulkEntry {H : Type} : Lit × DataW H → Nat
  | (.string bytes, d) => bytes.length + uptoBulk d + 1
  | (_, d) => uptoBulk d + 1
 end
def uptoSmall : (H : Type) → List (DataW H) → Bool := fun _ ds => decide (uptoBulkAll ds ≤ 1048576)
def OpenSpec.upto (s : _root_.Go.ChangeSpec) : _root_.Go.OpenSpec := { _root_.Go.OpenSpec.ofChange s with cond := some uptoSmall }

/-- 'unicodetextlaw15.ImageSums', WHERE WHAT IT READS IS OF BULK AT MOST 1048576: true; the input reads as it did. -/
def imageSumsUptoRow : OpenClaim := { program := "ytdlijioedokgjaa", sum := "3fd08186ccf1167d05f037315fe18e665af021a8f8365bc5c90c8da093db107f", func := "unicodetext/unicodetextlaw15.ImageSums", spec := "imageSums", unfollowed := true, recurses := true, apart := false, narrowed := true }
def ImageSumsUptoSaid : Prop := imageSumsUptoRow.holds Try.pinned (OpenSpec.upto imageSumsSpec)

/-- 'unicodetextlaw15.ImageInts', WHERE WHAT IT READS IS OF BULK AT MOST 1048576: true; the input reads as it did. -/
def imageIntsUptoRow : OpenClaim := { program := "ytdlijioedokgjaa", sum := "3fd08186ccf1167d05f037315fe18e665af021a8f8365bc5c90c8da093db107f", func := "unicodetext/unicodetextlaw15.ImageInts", spec := "imageInts", unfollowed := true, recurses := true, apart := false, narrowed := true }
def ImageIntsUptoSaid : Prop := imageIntsUptoRow.holds Try.pinned (OpenSpec.upto imageIntsSpec)

/-- 'unicodetextlaw15.ImageRounds', WHERE WHAT IT READS IS OF BULK AT MOST 1048576: true; the input reads as it did. -/
def imageRoundsUptoRow : OpenClaim := { program := "ytdlijioedokgjaa", sum := "3fd08186ccf1167d05f037315fe18e665af021a8f8365bc5c90c8da093db107f", func := "unicodetext/unicodetextlaw15.ImageRounds", spec := "imageRounds", unfollowed := true, recurses := true, apart := false, narrowed := true }
def ImageRoundsUptoSaid : Prop := imageRoundsUptoRow.holds Try.pinned (OpenSpec.upto imageRoundsSpec)

/-- 'unicodetextlaw15.ImageMinimal', WHERE WHAT IT READS IS OF BULK AT MOST 1048576: true; the input reads as it did. -/
def imageMinimalUptoRow : OpenClaim := { program := "ytdlijioedokgjaa", sum := "3fd08186ccf1167d05f037315fe18e665af021a8f8365bc5c90c8da093db107f", func := "unicodetext/unicodetextlaw15.ImageMinimal", spec := "imageMinimal", unfollowed := true, recurses := true, apart := false, narrowed := true }
def ImageMinimalUptoSaid : Prop := imageMinimalUptoRow.holds Try.pinned (OpenSpec.upto imageMinimalSpec)

/-- 'unicodetextlaw14.SeqpoolPacks', WHERE WHAT IT READS IS OF BULK AT MOST 1048576: true; the input reads as it did. -/
def seqpoolPacksUptoRow : OpenClaim := { program := "ytdlijioedokgjaa", sum := "3fd08186ccf1167d05f037315fe18e665af021a8f8365bc5c90c8da093db107f", func := "unicodetext/unicodetextlaw14.SeqpoolPacks", spec := "seqpoolPacks", apart := false, narrowed := true }
def SeqpoolPacksUptoSaid : Prop := seqpoolPacksUptoRow.holds Try.pinned (OpenSpec.upto seqpoolPacksSpec)

/-- 'unicodetextlaw14.SeqpoolAdds', WHERE WHAT IT READS IS OF BULK AT MOST 1048576: true; the input reads as it did. -/
def seqpoolAddsUptoRow : OpenClaim := { program := "ytdlijioedokgjaa", sum := "3fd08186ccf1167d05f037315fe18e665af021a8f8365bc5c90c8da093db107f", func := "unicodetext/unicodetextlaw14.SeqpoolAdds", spec := "seqpoolAdds", apart := false, narrowed := true }
def SeqpoolAddsUptoSaid : Prop := seqpoolAddsUptoRow.holds Try.pinned (OpenSpec.upto seqpoolAddsSpec)

/-- 'unicodetextlaw13.MultistageSpans', WHERE WHAT IT READS IS OF BULK AT MOST 1048576: true; the input reads as it did. -/
def multistageSpansUptoRow : OpenClaim := { program := "ytdlijioedokgjaa", sum := "3fd08186ccf1167d05f037315fe18e665af021a8f8365bc5c90c8da093db107f", func := "unicodetext/unicodetextlaw13.MultistageSpans", spec := "multistageSpans", unfollowed := true, recurses := true, apart := false, narrowed := true }
def MultistageSpansUptoSaid : Prop := multistageSpansUptoRow.holds Try.pinned (OpenSpec.upto multistageSpansSpec)

/-- 'unicodetextlaw14.SeqpoolFinds', WHERE WHAT IT READS IS OF BULK AT MOST 1048576: true; the input reads as it did. -/
def seqpoolFindsUptoRow : OpenClaim := { program := "ytdlijioedokgjaa", sum := "3fd08186ccf1167d05f037315fe18e665af021a8f8365bc5c90c8da093db107f", func := "unicodetext/unicodetextlaw14.SeqpoolFinds", spec := "seqpoolFinds", apart := false, narrowed := true }
def SeqpoolFindsUptoSaid : Prop := seqpoolFindsUptoRow.holds Try.pinned (OpenSpec.upto seqpoolFindsSpec)

/-- 'unicodetextlaw14.SeqpoolSaves', WHERE WHAT IT READS IS OF BULK AT MOST 1048576: true; the input reads as it did. -/
def seqpoolSavesUptoRow : OpenClaim := { program := "ytdlijioedokgjaa", sum := "3fd08186ccf1167d05f037315fe18e665af021a8f8365bc5c90c8da093db107f", func := "unicodetext/unicodetextlaw14.SeqpoolSaves", spec := "seqpoolSaves", apart := false, narrowed := true }
def SeqpoolSavesUptoSaid : Prop := seqpoolSavesUptoRow.holds Try.pinned (OpenSpec.upto seqpoolSavesSpec)

/-- 'unicodetextlaw13.MultistageEqual', WHERE WHAT IT READS IS OF BULK AT MOST 1048576: true; the input reads as it did. -/
def multistageEqualUptoRow : OpenClaim := { program := "ytdlijioedokgjaa", sum := "3fd08186ccf1167d05f037315fe18e665af021a8f8365bc5c90c8da093db107f", func := "unicodetext/unicodetextlaw13.MultistageEqual", spec := "multistageEqual", unfollowed := true, recurses := true, apart := false, narrowed := true }
def MultistageEqualUptoSaid : Prop := multistageEqualUptoRow.holds Try.pinned (OpenSpec.upto multistageEqualSpec)

/-- 'unicodetextlaw14.SeqpoolSteps', WHERE WHAT IT READS IS OF BULK AT MOST 1048576: true; the input reads as it did. -/
def seqpoolStepsUptoRow : OpenClaim := { program := "ytdlijioedokgjaa", sum := "3fd08186ccf1167d05f037315fe18e665af021a8f8365bc5c90c8da093db107f", func := "unicodetext/unicodetextlaw14.SeqpoolSteps", spec := "seqpoolSteps", apart := false, narrowed := true }
def SeqpoolStepsUptoSaid : Prop := seqpoolStepsUptoRow.holds Try.pinned (OpenSpec.upto seqpoolStepsSpec)

/-- 'unicodetextlaw14.SeqpoolGets', WHERE WHAT IT READS IS OF BULK AT MOST 1048576: true; the input reads as it did. -/
def seqpoolGetsUptoRow : OpenClaim := { program := "ytdlijioedokgjaa", sum := "3fd08186ccf1167d05f037315fe18e665af021a8f8365bc5c90c8da093db107f", func := "unicodetext/unicodetextlaw14.SeqpoolGets", spec := "seqpoolGets", apart := false, narrowed := true }
def SeqpoolGetsUptoSaid : Prop := seqpoolGetsUptoRow.holds Try.pinned (OpenSpec.upto seqpoolGetsSpec)

/-- 'unicodetextlaw14.SeqpoolBack', WHERE WHAT IT READS IS OF BULK AT MOST 1048576: true; the input reads as it did. -/
def seqpoolBackUptoRow : OpenClaim := { program := "ytdlijioedokgjaa", sum := "3fd08186ccf1167d05f037315fe18e665af021a8f8365bc5c90c8da093db107f", func := "unicodetext/unicodetextlaw14.SeqpoolBack", spec := "seqpoolBack", apart := false, narrowed := true }
def SeqpoolBackUptoSaid : Prop := seqpoolBackUptoRow.holds Try.pinned (OpenSpec.upto seqpoolBackSpec)

/-- 'unicodetextlaw14.SeqpoolKeeps', WHERE WHAT IT READS IS OF BULK AT MOST 1048576: true; the input reads as it did. -/
def seqpoolKeepsUptoRow : OpenClaim := { program := "ytdlijioedokgjaa", sum := "3fd08186ccf1167d05f037315fe18e665af021a8f8365bc5c90c8da093db107f", func := "unicodetext/unicodetextlaw14.SeqpoolKeeps", spec := "seqpoolKeeps", apart := false, narrowed := true }
def SeqpoolKeepsUptoSaid : Prop := seqpoolKeepsUptoRow.holds Try.pinned (OpenSpec.upto seqpoolKeepsSpec)

/-- 'unicodetextlaw15.ImageSeals', WHERE WHAT IT READS IS OF BULK AT MOST 1048576: true; the input reads as it did. -/
def imageSealsUptoRow : OpenClaim := { program := "ytdlijioedokgjaa", sum := "3fd08186ccf1167d05f037315fe18e665af021a8f8365bc5c90c8da093db107f", func := "unicodetext/unicodetextlaw15.ImageSeals", spec := "imageSeals", unfollowed := true, recurses := true, apart := false, narrowed := true }
def ImageSealsUptoSaid : Prop := imageSealsUptoRow.holds Try.pinned (OpenSpec.upto imageSealsSpec)

/-- 'unicodetextlaw15.ImageChanges', WHERE WHAT IT READS IS OF BULK AT MOST 1048576: true; the input reads as it did. -/
def imageChangesUptoRow : OpenClaim := { program := "ytdlijioedokgjaa", sum := "3fd08186ccf1167d05f037315fe18e665af021a8f8365bc5c90c8da093db107f", func := "unicodetext/unicodetextlaw15.ImageChanges", spec := "imageChanges", unfollowed := true, recurses := true, apart := false, narrowed := true }
def ImageChangesUptoSaid : Prop := imageChangesUptoRow.holds Try.pinned (OpenSpec.upto imageChangesSpec)

/-- 'unicodetextlaw15.ImageReadPools', WHERE WHAT IT READS IS OF BULK AT MOST 1048576: true; the input reads as it did. -/
def imageReadPoolsUptoRow : OpenClaim := { program := "ytdlijioedokgjaa", sum := "3fd08186ccf1167d05f037315fe18e665af021a8f8365bc5c90c8da093db107f", func := "unicodetext/unicodetextlaw15.ImageReadPools", spec := "imageReadPools", unfollowed := true, recurses := true, apart := false, narrowed := true }
def ImageReadPoolsUptoSaid : Prop := imageReadPoolsUptoRow.holds Try.pinned (OpenSpec.upto imageReadPoolsSpec)

/-- 'unicodetextlaw15.ImagePools', WHERE WHAT IT READS IS OF BULK AT MOST 1048576: true; the input reads as it did. -/
def imagePoolsUptoRow : OpenClaim := { program := "ytdlijioedokgjaa", sum := "3fd08186ccf1167d05f037315fe18e665af021a8f8365bc5c90c8da093db107f", func := "unicodetext/unicodetextlaw15.ImagePools", spec := "imagePools", unfollowed := true, recurses := true, apart := false, narrowed := true }
def ImagePoolsUptoSaid : Prop := imagePoolsUptoRow.holds Try.pinned (OpenSpec.upto imagePoolsSpec)

/-- 'unicodetextlaw13.MultistageBuilds', WHERE WHAT IT READS IS OF BULK AT MOST 1048576: true; the input reads as it did. -/
def multistageBuildsUptoRow : OpenClaim := { program := "ytdlijioedokgjaa", sum := "3fd08186ccf1167d05f037315fe18e665af021a8f8365bc5c90c8da093db107f", func := "unicodetext/unicodetextlaw13.MultistageBuilds", spec := "multistageBuilds", unfollowed := true, recurses := true, apart := false, narrowed := true }
def MultistageBuildsUptoSaid : Prop := multistageBuildsUptoRow.holds Try.pinned (OpenSpec.upto multistageBuildsSpec)

/-- 'unicodetextlaw15.ImageReadTables', WHERE WHAT IT READS IS OF BULK AT MOST 1048576: true; the input reads as it did. -/
def imageReadTablesUptoRow : OpenClaim := { program := "ytdlijioedokgjaa", sum := "3fd08186ccf1167d05f037315fe18e665af021a8f8365bc5c90c8da093db107f", func := "unicodetext/unicodetextlaw15.ImageReadTables", spec := "imageReadTables", unfollowed := true, recurses := true, apart := false, narrowed := true }
def ImageReadTablesUptoSaid : Prop := imageReadTablesUptoRow.holds Try.pinned (OpenSpec.upto imageReadTablesSpec)

/-- 'unicodetextlaw13.MultistageValid', WHERE WHAT IT READS IS OF BULK AT MOST 1048576: true; the input reads as it did. -/
def multistageValidUptoRow : OpenClaim := { program := "ytdlijioedokgjaa", sum := "3fd08186ccf1167d05f037315fe18e665af021a8f8365bc5c90c8da093db107f", func := "unicodetext/unicodetextlaw13.MultistageValid", spec := "multistageValid", unfollowed := true, recurses := true, apart := false, narrowed := true }
def MultistageValidUptoSaid : Prop := multistageValidUptoRow.holds Try.pinned (OpenSpec.upto multistageValidSpec)

/-- 'unicodetextlaw13.MultistageLeast', WHERE WHAT IT READS IS OF BULK AT MOST 1048576: true; the input reads as it did. -/
def multistageLeastUptoRow : OpenClaim := { program := "ytdlijioedokgjaa", sum := "3fd08186ccf1167d05f037315fe18e665af021a8f8365bc5c90c8da093db107f", func := "unicodetext/unicodetextlaw13.MultistageLeast", spec := "multistageLeast", unfollowed := true, recurses := true, apart := false, narrowed := true }
def MultistageLeastUptoSaid : Prop := multistageLeastUptoRow.holds Try.pinned (OpenSpec.upto multistageLeastSpec)

/-- 'unicodetextlaw15.ImageTables', WHERE WHAT IT READS IS OF BULK AT MOST 1048576: true; the input reads as it did. -/
def imageTablesUptoRow : OpenClaim := { program := "ytdlijioedokgjaa", sum := "3fd08186ccf1167d05f037315fe18e665af021a8f8365bc5c90c8da093db107f", func := "unicodetext/unicodetextlaw15.ImageTables", spec := "imageTables", unfollowed := true, recurses := true, apart := false, narrowed := true }
def ImageTablesUptoSaid : Prop := imageTablesUptoRow.holds Try.pinned (OpenSpec.upto imageTablesSpec)

/-- 'unicodetextlaw13.MultistageBest', WHERE WHAT IT READS IS OF BULK AT MOST 1048576: true; the input reads as it did. -/
def multistageBestUptoRow : OpenClaim := { program := "ytdlijioedokgjaa", sum := "3fd08186ccf1167d05f037315fe18e665af021a8f8365bc5c90c8da093db107f", func := "unicodetext/unicodetextlaw13.MultistageBest", spec := "multistageBest", unfollowed := true, recurses := true, apart := false, narrowed := true }
def MultistageBestUptoSaid : Prop := multistageBestUptoRow.holds Try.pinned (OpenSpec.upto multistageBestSpec)

/-- 'unicodetextlaw13.MultistageGets', WHERE WHAT IT READS IS OF BULK AT MOST 1048576: true; the input reads as it did. -/
def multistageGetsUptoRow : OpenClaim := { program := "ytdlijioedokgjaa", sum := "3fd08186ccf1167d05f037315fe18e665af021a8f8365bc5c90c8da093db107f", func := "unicodetext/unicodetextlaw13.MultistageGets", spec := "multistageGets", unfollowed := true, recurses := true, apart := false, narrowed := true }
def MultistageGetsUptoSaid : Prop := multistageGetsUptoRow.holds Try.pinned (OpenSpec.upto multistageGetsSpec)

end Rows
end Go.Proofs.Ytdlijioedokgjaa

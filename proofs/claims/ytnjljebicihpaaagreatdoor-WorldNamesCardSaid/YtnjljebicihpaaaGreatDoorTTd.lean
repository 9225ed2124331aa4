/- The listed tables are the program's own: what is pinned. No condition. -/
import Derived.Test.YtnjljebicihpaaaGreatDoorTTa
import Derived.LaidByTextLater
import Derived.LaidOnce
import Derived.SevenTiedAt
import Derived.KernelRfl
namespace Go.Proofs.YtnjljebicihpaaaGreatDoor
open Go
set_option maxRecDepth 100000
theorem pin_laid_unicode_utf8_first : Tryz.pinned.checked.prog.pinnedFits "unicode/utf8.first" = true := by kernel_rfl
theorem noOwnUnsafe : Tryz.pinned.checked.prog.headLifts.contains "ownunsafe" = false := by kernel_rfl
theorem fits1 : Tryz.pinned.checked.prog.listedFits (("unicode/utf8.first", Rows.laid_unicode_utf8_first) :: LL) = true := by
  unfold Program.listedFits
  rw [noOwnUnsafe]
  kernel_rfl
theorem pin_datum : Pinned.datum "unicode/utf8.first" = some Rows.laid_unicode_utf8_first := by kernel_rfl
end Go.Proofs.YtnjljebicihpaaaGreatDoor

/- The listed tables are the program's own. No condition. -/
import Derived.Test.YtnjljebicihpaaaGreatDoorTTb
import Derived.Test.YtnjljebicihpaaaGreatDoorTTc
import Derived.Test.YtnjljebicihpaaaGreatDoorTTd
import Derived.LaidByTextLater
import Derived.LaidOnce
import Derived.SevenTiedAt
import Derived.KernelRfl
namespace Go.Proofs.YtnjljebicihpaaaGreatDoor
open Go
set_option maxRecDepth 100000
theorem tie : Tryz.prog.laidByTextLater LL [.data, .data, .data, .data] true :=
  Program.laidByTextLater_by_one 400 8 65 tw1 tw2 tw3 tw4 tw5 tw6 tw7
theorem worldNames_row_tie : Rows.worldNamesRow.laidByTextAt .later Tryz.pinned [.pinned, .data, .data, .data, .data] true :=
  OpenClaim.laidByTextAt_pinned rfl rfl tie rfl rfl rfl rfl (fun y hy _e => by
    simp only [Rows.worldNamesRow, List.zip_cons_cons, List.zip_nil_right, List.mem_cons, List.mem_nil_iff, or_false] at hy
    rcases hy with rfl | rfl | rfl | rfl | rfl
    · exact ⟨pin_laid_unicode_utf8_first, pin_datum⟩
    · cases _e
    · cases _e
    · cases _e
    · cases _e) fits1
end Go.Proofs.YtnjljebicihpaaaGreatDoor

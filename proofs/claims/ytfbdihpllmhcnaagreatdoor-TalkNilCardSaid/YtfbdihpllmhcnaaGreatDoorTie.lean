/-
  DERIVED. GIVEN WITH THE SEED: THE PROGRAM's TIES (one call each: nine closed facts by the kernel) AND EACH ROW's TIE, after the 31st guide's Derived/Test/Toyas{Tie, Card}.lean. No idea stands in it: it is a product of the set-up. Laid BY PROGRAM, IN A SANDBOX (cutbox-door.mjs). By AI agents, Wed Nov 11 2026. No macro, syntax, notation, axiom, sorry.
-/
import Derived.Test.YtfbdihpllmhcnaaGreatDoorRows
import Derived.LaidByTextLater
import Derived.SevenTiedAt
import Derived.LaidSub
import Derived.LaidOnce
namespace Go.Proofs.YtfbdihpllmhcnaaGreatDoor
open Go
set_option maxRecDepth 100000
theorem seatTie1 : Tryz.prog.laidByTextLater [("earshot/api.Cosines", Rows.laid_earshot_api_Cosines), ("unicode/utf8.acceptRanges", Rows.laid_unicode_utf8_acceptRanges), ("earshot/written.powers", Rows.laid_earshot_written_powers), ("earshot/written.months", Rows.laid_earshot_written_months)] [.data, .data, .widerDeep, .widerDeep] true :=
  Program.laidByTextLater_by_one 92 8 66 (by kernel_rfl) (by kernel_rfl) (by kernel_rfl) (by kernel_rfl) (by kernel_rfl) (by kernel_rfl) (fun _ _ => by kernel_rfl)
theorem pin_laid_unicode_utf8_first : Tryz.pinned.checked.prog.pinnedFits "unicode/utf8.first" = true := by kernel_rfl
theorem noOwnUnsafe : Tryz.pinned.checked.prog.headLifts.contains "ownunsafe" = false := by kernel_rfl
theorem fits1 : Tryz.pinned.checked.prog.listedFits [("earshot/api.Cosines", Rows.laid_earshot_api_Cosines), ("unicode/utf8.acceptRanges", Rows.laid_unicode_utf8_acceptRanges), ("earshot/written.powers", Rows.laid_earshot_written_powers), ("earshot/written.months", Rows.laid_earshot_written_months), ("unicode/utf8.first", Rows.laid_unicode_utf8_first)] = true := by
  unfold Program.listedFits
  rw [noOwnUnsafe]
  kernel_rfl
theorem tie : Tryz.prog.laidByTextLater [("earshot/api.Cosines", Rows.laid_earshot_api_Cosines), ("unicode/utf8.acceptRanges", Rows.laid_unicode_utf8_acceptRanges), ("earshot/written.powers", Rows.laid_earshot_written_powers), ("earshot/written.months", Rows.laid_earshot_written_months)] [.data, .data, .widerDeep, .widerDeep] true :=
  Program.laidByTextLater.sub seatTie1 ["earshot/api.Cosines", "unicode/utf8.acceptRanges", "earshot/written.powers", "earshot/written.months"] (by kernel_rfl) (by kernel_rfl)
theorem talkNil_row_tie : Rows.talkNilRow.laidByTextAt .later Tryz.pinned [.data, .data, .widerDeep, .widerDeep, .pinned] true :=
  OpenClaim.laidByTextAt_pinned rfl rfl tie rfl rfl rfl rfl (fun y hy _e => by
    simp only [Rows.talkNilRow, List.zip_cons_cons, List.zip_nil_right, List.mem_cons, List.mem_nil_iff, or_false] at hy
    rcases hy with rfl | rfl | rfl | rfl | rfl
    · cases _e
    · cases _e
    · cases _e
    · cases _e
    · exact ⟨pin_laid_unicode_utf8_first, by kernel_rfl⟩) fits1
theorem talkNilUpto_row_tie : Rows.talkNilUptoRow.laidByTextAt .later Tryz.pinned [.data, .data, .widerDeep, .widerDeep, .pinned] true :=
  OpenClaim.laidByTextAt_pinned rfl rfl tie rfl rfl rfl rfl (fun y hy _e => by
    simp only [Rows.talkNilUptoRow, List.zip_cons_cons, List.zip_nil_right, List.mem_cons, List.mem_nil_iff, or_false] at hy
    rcases hy with rfl | rfl | rfl | rfl | rfl
    · cases _e
    · cases _e
    · cases _e
    · cases _e
    · exact ⟨pin_laid_unicode_utf8_first, by kernel_rfl⟩) fits1
end Go.Proofs.YtfbdihpllmhcnaaGreatDoor

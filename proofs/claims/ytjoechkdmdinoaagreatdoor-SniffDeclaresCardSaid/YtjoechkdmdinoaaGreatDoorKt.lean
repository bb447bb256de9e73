/- The rows' ties, each closed fact a theorem of its own. -/
import Derived.Test.YtjoechkdmdinoaaGreatDoorRows
import Derived.LaidByTextLater
import Derived.LaidOnce
import Derived.SevenTiedAt
namespace Go.Proofs.YtjoechkdmdinoaaGreatDoor
open Go
set_option maxRecDepth 100000
theorem tA_w : Tryz.prog.worded (varsWordLater true) = true := by kernel_rfl
theorem tA_w' : Tryz.prog.worded (varsWordLater !true) = false := by kernel_rfl
theorem tA_root : Tryz.prog.worded rootWordLater = true := by kernel_rfl
theorem tA_g : (Tryz.prog.funcNamed "gosem.cut.vars").isSome = true := by kernel_rfl
theorem pin_laid_unicode_utf8_first : Tryz.pinned.checked.prog.pinnedFits "unicode/utf8.first" = true := by kernel_rfl
theorem noOwnUnsafe : Tryz.pinned.checked.prog.headLifts.contains "ownunsafe" = false := by kernel_rfl
theorem fits1 : Tryz.pinned.checked.prog.listedFits [("diacritic/sniff.starts", Rows.laid_diacritic_sniff_starts), ("unicode/utf8.first", Rows.laid_unicode_utf8_first), ("unicode/utf8.acceptRanges", Rows.laid_unicode_utf8_acceptRanges), ("math/bits.deBruijn32tab", Rows.laid_math_bits_deBruijn32tab)] = true := by
  unfold Program.listedFits
  rw [noOwnUnsafe]
  kernel_rfl
abbrev tie_l : List (String × DataW Unit) := [("diacritic/sniff.starts", Rows.laid_diacritic_sniff_starts), ("unicode/utf8.acceptRanges", Rows.laid_unicode_utf8_acceptRanges), ("math/bits.deBruijn32tab", Rows.laid_math_bits_deBruijn32tab)]
theorem tie_k : tie_l.map (fun x => Tryz.prog.kindOfLater x.1) = ([.data, .data, .data] : List LaidKind).map some := by kernel_rfl
theorem tie_n : varsNamedLaterB Tryz.prog (varsId Tryz.prog) tie_l = true := by kernel_rfl
theorem tie_r : ∀ os tape, doorLeaves Tryz.prog 85 8 65 tie_l os tape = some (tie_l.filter fun x => x.2.handleName?.isNone, (funcsListed tie_l).map (·.2.funcsOut)) := fun _ _ => by kernel_rfl
theorem tie : Tryz.prog.laidByTextLater [("diacritic/sniff.starts", Rows.laid_diacritic_sniff_starts), ("unicode/utf8.acceptRanges", Rows.laid_unicode_utf8_acceptRanges), ("math/bits.deBruijn32tab", Rows.laid_math_bits_deBruijn32tab)] [.data, .data, .data] true := Program.laidByTextLater_by_one 85 8 65 tA_w tA_w' tA_root tie_k tA_g tie_n tie_r
theorem sniffKinds_row_tie : Rows.sniffKindsRow.laidByTextAt .later Tryz.pinned [.data, .pinned, .data, .data] true :=
  OpenClaim.laidByTextAt_pinned rfl rfl tie rfl rfl rfl rfl (fun y hy _e => by
    simp only [Rows.sniffKindsRow, List.zip_cons_cons, List.zip_nil_right, List.mem_cons, List.mem_nil_iff, or_false] at hy
    rcases hy with rfl | rfl | rfl | rfl
    · cases _e
    · exact ⟨pin_laid_unicode_utf8_first, by kernel_rfl⟩
    · cases _e
    · cases _e) fits1
theorem sniffMarks_row_tie : Rows.sniffMarksRow.laidByTextAt .later Tryz.pinned [.data, .pinned, .data, .data] true :=
  OpenClaim.laidByTextAt_pinned rfl rfl tie rfl rfl rfl rfl (fun y hy _e => by
    simp only [Rows.sniffMarksRow, List.zip_cons_cons, List.zip_nil_right, List.mem_cons, List.mem_nil_iff, or_false] at hy
    rcases hy with rfl | rfl | rfl | rfl
    · cases _e
    · exact ⟨pin_laid_unicode_utf8_first, by kernel_rfl⟩
    · cases _e
    · cases _e) fits1
theorem sniffDeclares_row_tie : Rows.sniffDeclaresRow.laidByTextAt .later Tryz.pinned [.data, .pinned, .data, .data] true :=
  OpenClaim.laidByTextAt_pinned rfl rfl tie rfl rfl rfl rfl (fun y hy _e => by
    simp only [Rows.sniffDeclaresRow, List.zip_cons_cons, List.zip_nil_right, List.mem_cons, List.mem_nil_iff, or_false] at hy
    rcases hy with rfl | rfl | rfl | rfl
    · cases _e
    · exact ⟨pin_laid_unicode_utf8_first, by kernel_rfl⟩
    · cases _e
    · cases _e) fits1
theorem fits2 : Tryz.pinned.checked.prog.listedFits [("diacritic/sniff.starts", Rows.laid_diacritic_sniff_starts), ("unicode/utf8.first", Rows.laid_unicode_utf8_first), ("unicode/utf8.acceptRanges", Rows.laid_unicode_utf8_acceptRanges), ("math/bits.deBruijn32tab", Rows.laid_math_bits_deBruijn32tab), ("internal/strconv.uint64pow10", Rows.laid_internal_strconv_uint64pow10), ("math/bits.deBruijn64tab", Rows.laid_math_bits_deBruijn64tab)] = true := by
  unfold Program.listedFits
  rw [noOwnUnsafe]
  kernel_rfl
abbrev tie2_l : List (String × DataW Unit) := [("diacritic/sniff.starts", Rows.laid_diacritic_sniff_starts), ("unicode/utf8.acceptRanges", Rows.laid_unicode_utf8_acceptRanges), ("math/bits.deBruijn32tab", Rows.laid_math_bits_deBruijn32tab), ("internal/strconv.uint64pow10", Rows.laid_internal_strconv_uint64pow10), ("math/bits.deBruijn64tab", Rows.laid_math_bits_deBruijn64tab)]
theorem tie2_k : tie2_l.map (fun x => Tryz.prog.kindOfLater x.1) = ([.data, .data, .data, .data, .data] : List LaidKind).map some := by kernel_rfl
theorem tie2_n : varsNamedLaterB Tryz.prog (varsId Tryz.prog) tie2_l = true := by kernel_rfl
theorem tie2_r : ∀ os tape, doorLeaves Tryz.prog 85 8 65 tie2_l os tape = some (tie2_l.filter fun x => x.2.handleName?.isNone, (funcsListed tie2_l).map (·.2.funcsOut)) := fun _ _ => by kernel_rfl
theorem tie2 : Tryz.prog.laidByTextLater [("diacritic/sniff.starts", Rows.laid_diacritic_sniff_starts), ("unicode/utf8.acceptRanges", Rows.laid_unicode_utf8_acceptRanges), ("math/bits.deBruijn32tab", Rows.laid_math_bits_deBruijn32tab), ("internal/strconv.uint64pow10", Rows.laid_internal_strconv_uint64pow10), ("math/bits.deBruijn64tab", Rows.laid_math_bits_deBruijn64tab)] [.data, .data, .data, .data, .data] true := Program.laidByTextLater_by_one 85 8 65 tA_w tA_w' tA_root tie2_k tA_g tie2_n tie2_r
theorem reportLeaves_row_tie : Rows.reportLeavesRow.laidByTextAt .later Tryz.pinned [.data, .pinned, .data, .data, .data, .data] true :=
  OpenClaim.laidByTextAt_pinned rfl rfl tie2 rfl rfl rfl rfl (fun y hy _e => by
    simp only [Rows.reportLeavesRow, List.zip_cons_cons, List.zip_nil_right, List.mem_cons, List.mem_nil_iff, or_false] at hy
    rcases hy with rfl | rfl | rfl | rfl | rfl | rfl
    · cases _e
    · exact ⟨pin_laid_unicode_utf8_first, by kernel_rfl⟩
    · cases _e
    · cases _e
    · cases _e
    · cases _e) fits2
theorem reportBytes_row_tie : Rows.reportBytesRow.laidByTextAt .later Tryz.pinned [.data, .pinned, .data, .data, .data, .data] true :=
  OpenClaim.laidByTextAt_pinned rfl rfl tie2 rfl rfl rfl rfl (fun y hy _e => by
    simp only [Rows.reportBytesRow, List.zip_cons_cons, List.zip_nil_right, List.mem_cons, List.mem_nil_iff, or_false] at hy
    rcases hy with rfl | rfl | rfl | rfl | rfl | rfl
    · cases _e
    · exact ⟨pin_laid_unicode_utf8_first, by kernel_rfl⟩
    · cases _e
    · cases _e
    · cases _e
    · cases _e) fits2
theorem fits3 : Tryz.pinned.checked.prog.listedFits [("diacritic/sniff.starts", Rows.laid_diacritic_sniff_starts), ("unicode/utf8.first", Rows.laid_unicode_utf8_first), ("unicode/utf8.acceptRanges", Rows.laid_unicode_utf8_acceptRanges), ("math/bits.deBruijn32tab", Rows.laid_math_bits_deBruijn32tab), ("internal/strconv.uint64pow10", Rows.laid_internal_strconv_uint64pow10), ("math/bits.deBruijn64tab", Rows.laid_math_bits_deBruijn64tab), ("diacritic/report.kinds", Rows.laid_diacritic_report_kinds)] = true := by
  unfold Program.listedFits
  rw [noOwnUnsafe]
  kernel_rfl
abbrev tie3_l : List (String × DataW Unit) := [("diacritic/sniff.starts", Rows.laid_diacritic_sniff_starts), ("unicode/utf8.acceptRanges", Rows.laid_unicode_utf8_acceptRanges), ("math/bits.deBruijn32tab", Rows.laid_math_bits_deBruijn32tab), ("internal/strconv.uint64pow10", Rows.laid_internal_strconv_uint64pow10), ("math/bits.deBruijn64tab", Rows.laid_math_bits_deBruijn64tab), ("diacritic/report.kinds", Rows.laid_diacritic_report_kinds)]
theorem tie3_k : tie3_l.map (fun x => Tryz.prog.kindOfLater x.1) = ([.data, .data, .data, .data, .data, .data] : List LaidKind).map some := by kernel_rfl
theorem tie3_n : varsNamedLaterB Tryz.prog (varsId Tryz.prog) tie3_l = true := by kernel_rfl
theorem tie3_r : ∀ os tape, doorLeaves Tryz.prog 85 8 65 tie3_l os tape = some (tie3_l.filter fun x => x.2.handleName?.isNone, (funcsListed tie3_l).map (·.2.funcsOut)) := fun _ _ => by kernel_rfl
theorem tie3 : Tryz.prog.laidByTextLater [("diacritic/sniff.starts", Rows.laid_diacritic_sniff_starts), ("unicode/utf8.acceptRanges", Rows.laid_unicode_utf8_acceptRanges), ("math/bits.deBruijn32tab", Rows.laid_math_bits_deBruijn32tab), ("internal/strconv.uint64pow10", Rows.laid_internal_strconv_uint64pow10), ("math/bits.deBruijn64tab", Rows.laid_math_bits_deBruijn64tab), ("diacritic/report.kinds", Rows.laid_diacritic_report_kinds)] [.data, .data, .data, .data, .data, .data] true := Program.laidByTextLater_by_one 85 8 65 tA_w tA_w' tA_root tie3_k tA_g tie3_n tie3_r
theorem reportOptions_row_tie : Rows.reportOptionsRow.laidByTextAt .later Tryz.pinned [.data, .pinned, .data, .data, .data, .data, .data] true :=
  OpenClaim.laidByTextAt_pinned rfl rfl tie3 rfl rfl rfl rfl (fun y hy _e => by
    simp only [Rows.reportOptionsRow, List.zip_cons_cons, List.zip_nil_right, List.mem_cons, List.mem_nil_iff, or_false] at hy
    rcases hy with rfl | rfl | rfl | rfl | rfl | rfl | rfl
    · cases _e
    · exact ⟨pin_laid_unicode_utf8_first, by kernel_rfl⟩
    · cases _e
    · cases _e
    · cases _e
    · cases _e
    · cases _e) fits3
theorem fits4 : Tryz.pinned.checked.prog.listedFits [("diacritic/report.kinds", Rows.laid_diacritic_report_kinds), ("strconv.ErrSyntax", Rows.laid_strconv_ErrSyntax), ("strconv.ErrRange", Rows.laid_strconv_ErrRange), ("internal/strconv.uint64pow10", Rows.laid_internal_strconv_uint64pow10), ("math/bits.deBruijn32tab", Rows.laid_math_bits_deBruijn32tab), ("math/bits.deBruijn64tab", Rows.laid_math_bits_deBruijn64tab), ("unicode/utf8.first", Rows.laid_unicode_utf8_first), ("unicode/utf8.acceptRanges", Rows.laid_unicode_utf8_acceptRanges), ("diacritic/sniff.starts", Rows.laid_diacritic_sniff_starts)] = true := by
  unfold Program.listedFits
  rw [noOwnUnsafe]
  kernel_rfl
abbrev tie4_l : List (String × DataW Unit) := [("diacritic/report.kinds", Rows.laid_diacritic_report_kinds), ("strconv.ErrSyntax", Rows.laid_strconv_ErrSyntax), ("strconv.ErrRange", Rows.laid_strconv_ErrRange), ("internal/strconv.uint64pow10", Rows.laid_internal_strconv_uint64pow10), ("math/bits.deBruijn32tab", Rows.laid_math_bits_deBruijn32tab), ("math/bits.deBruijn64tab", Rows.laid_math_bits_deBruijn64tab), ("unicode/utf8.acceptRanges", Rows.laid_unicode_utf8_acceptRanges), ("diacritic/sniff.starts", Rows.laid_diacritic_sniff_starts)]
theorem tie4_k : tie4_l.map (fun x => Tryz.prog.kindOfLater x.1) = ([.data, .sentinel, .sentinel, .data, .data, .data, .data, .data] : List LaidKind).map some := by kernel_rfl
theorem tie4_n : varsNamedLaterB Tryz.prog (varsId Tryz.prog) tie4_l = true := by kernel_rfl
theorem tie4_r : ∀ os tape, doorLeaves Tryz.prog 85 8 65 tie4_l os tape = some (tie4_l.filter fun x => x.2.handleName?.isNone, (funcsListed tie4_l).map (·.2.funcsOut)) := fun _ _ => by kernel_rfl
theorem tie4 : Tryz.prog.laidByTextLater [("diacritic/report.kinds", Rows.laid_diacritic_report_kinds), ("strconv.ErrSyntax", Rows.laid_strconv_ErrSyntax), ("strconv.ErrRange", Rows.laid_strconv_ErrRange), ("internal/strconv.uint64pow10", Rows.laid_internal_strconv_uint64pow10), ("math/bits.deBruijn32tab", Rows.laid_math_bits_deBruijn32tab), ("math/bits.deBruijn64tab", Rows.laid_math_bits_deBruijn64tab), ("unicode/utf8.acceptRanges", Rows.laid_unicode_utf8_acceptRanges), ("diacritic/sniff.starts", Rows.laid_diacritic_sniff_starts)] [.data, .sentinel, .sentinel, .data, .data, .data, .data, .data] true := Program.laidByTextLater_by_one 85 8 65 tA_w tA_w' tA_root tie4_k tA_g tie4_n tie4_r
theorem consoleFiles_row_tie : Rows.consoleFilesRow.laidByTextAt .later Tryz.pinned [.data, .sentinel, .sentinel, .data, .data, .data, .pinned, .data, .data] true :=
  OpenClaim.laidByTextAt_pinned rfl rfl tie4 rfl rfl rfl rfl (fun y hy _e => by
    simp only [Rows.consoleFilesRow, List.zip_cons_cons, List.zip_nil_right, List.mem_cons, List.mem_nil_iff, or_false] at hy
    rcases hy with rfl | rfl | rfl | rfl | rfl | rfl | rfl | rfl | rfl
    · cases _e
    · cases _e
    · cases _e
    · cases _e
    · cases _e
    · cases _e
    · exact ⟨pin_laid_unicode_utf8_first, by kernel_rfl⟩
    · cases _e
    · cases _e) fits4
theorem sniffKindsUpto_row_tie : Rows.sniffKindsUptoRow.laidByTextAt .later Tryz.pinned [.data, .pinned, .data, .data] true :=
  OpenClaim.laidByTextAt_pinned rfl rfl tie rfl rfl rfl rfl (fun y hy _e => by
    simp only [Rows.sniffKindsUptoRow, List.zip_cons_cons, List.zip_nil_right, List.mem_cons, List.mem_nil_iff, or_false] at hy
    rcases hy with rfl | rfl | rfl | rfl
    · cases _e
    · exact ⟨pin_laid_unicode_utf8_first, by kernel_rfl⟩
    · cases _e
    · cases _e) fits1
theorem sniffMarksUpto_row_tie : Rows.sniffMarksUptoRow.laidByTextAt .later Tryz.pinned [.data, .pinned, .data, .data] true :=
  OpenClaim.laidByTextAt_pinned rfl rfl tie rfl rfl rfl rfl (fun y hy _e => by
    simp only [Rows.sniffMarksUptoRow, List.zip_cons_cons, List.zip_nil_right, List.mem_cons, List.mem_nil_iff, or_false] at hy
    rcases hy with rfl | rfl | rfl | rfl
    · cases _e
    · exact ⟨pin_laid_unicode_utf8_first, by kernel_rfl⟩
    · cases _e
    · cases _e) fits1
theorem sniffDeclaresUpto_row_tie : Rows.sniffDeclaresUptoRow.laidByTextAt .later Tryz.pinned [.data, .pinned, .data, .data] true :=
  OpenClaim.laidByTextAt_pinned rfl rfl tie rfl rfl rfl rfl (fun y hy _e => by
    simp only [Rows.sniffDeclaresUptoRow, List.zip_cons_cons, List.zip_nil_right, List.mem_cons, List.mem_nil_iff, or_false] at hy
    rcases hy with rfl | rfl | rfl | rfl
    · cases _e
    · exact ⟨pin_laid_unicode_utf8_first, by kernel_rfl⟩
    · cases _e
    · cases _e) fits1
theorem reportLeavesUpto_row_tie : Rows.reportLeavesUptoRow.laidByTextAt .later Tryz.pinned [.data, .pinned, .data, .data, .data, .data] true :=
  OpenClaim.laidByTextAt_pinned rfl rfl tie2 rfl rfl rfl rfl (fun y hy _e => by
    simp only [Rows.reportLeavesUptoRow, List.zip_cons_cons, List.zip_nil_right, List.mem_cons, List.mem_nil_iff, or_false] at hy
    rcases hy with rfl | rfl | rfl | rfl | rfl | rfl
    · cases _e
    · exact ⟨pin_laid_unicode_utf8_first, by kernel_rfl⟩
    · cases _e
    · cases _e
    · cases _e
    · cases _e) fits2
theorem reportBytesUpto_row_tie : Rows.reportBytesUptoRow.laidByTextAt .later Tryz.pinned [.data, .pinned, .data, .data, .data, .data] true :=
  OpenClaim.laidByTextAt_pinned rfl rfl tie2 rfl rfl rfl rfl (fun y hy _e => by
    simp only [Rows.reportBytesUptoRow, List.zip_cons_cons, List.zip_nil_right, List.mem_cons, List.mem_nil_iff, or_false] at hy
    rcases hy with rfl | rfl | rfl | rfl | rfl | rfl
    · cases _e
    · exact ⟨pin_laid_unicode_utf8_first, by kernel_rfl⟩
    · cases _e
    · cases _e
    · cases _e
    · cases _e) fits2
theorem reportOptionsUpto_row_tie : Rows.reportOptionsUptoRow.laidByTextAt .later Tryz.pinned [.data, .pinned, .data, .data, .data, .data, .data] true :=
  OpenClaim.laidByTextAt_pinned rfl rfl tie3 rfl rfl rfl rfl (fun y hy _e => by
    simp only [Rows.reportOptionsUptoRow, List.zip_cons_cons, List.zip_nil_right, List.mem_cons, List.mem_nil_iff, or_false] at hy
    rcases hy with rfl | rfl | rfl | rfl | rfl | rfl | rfl
    · cases _e
    · exact ⟨pin_laid_unicode_utf8_first, by kernel_rfl⟩
    · cases _e
    · cases _e
    · cases _e
    · cases _e
    · cases _e) fits3
theorem consoleFilesUpto_row_tie : Rows.consoleFilesUptoRow.laidByTextAt .later Tryz.pinned [.data, .sentinel, .sentinel, .data, .data, .data, .pinned, .data, .data] true :=
  OpenClaim.laidByTextAt_pinned rfl rfl tie4 rfl rfl rfl rfl (fun y hy _e => by
    simp only [Rows.consoleFilesUptoRow, List.zip_cons_cons, List.zip_nil_right, List.mem_cons, List.mem_nil_iff, or_false] at hy
    rcases hy with rfl | rfl | rfl | rfl | rfl | rfl | rfl | rfl | rfl
    · cases _e
    · cases _e
    · cases _e
    · cases _e
    · cases _e
    · cases _e
    · exact ⟨pin_laid_unicode_utf8_first, by kernel_rfl⟩
    · cases _e
    · cases _e) fits4
end Go.Proofs.YtjoechkdmdinoaaGreatDoor

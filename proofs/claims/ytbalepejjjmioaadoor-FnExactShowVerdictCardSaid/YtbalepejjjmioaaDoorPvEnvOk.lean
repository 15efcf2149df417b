/- The tables are true of the program. No condition. -/
import Derived.Test.YtbalepejjjmioaaDoorPvEnv
import Derived.Test.YtbalepejjjmioaaDoorPvD
import Derived.KernelRfl
namespace Go.Proofs.YtbalepejjjmioaaDoor.Pf
open Go Go.Pv Go.Proofs
set_option maxRecDepth 100000
theorem tk2 : TIok Tryd.prog ti2 2 := tiOk (by kernel_rfl) (by kernel_rfl)
theorem tk3 : TIok Tryd.prog ti3 3 := tiOk (by kernel_rfl) (by kernel_rfl)
theorem tk4 : TIok Tryd.prog ti4 4 := tiOk (by kernel_rfl) (by kernel_rfl)
theorem tk5 : TIok Tryd.prog ti5 5 := tiOk (by kernel_rfl) (by kernel_rfl)
theorem tk6 : TIok Tryd.prog ti6 6 := tiOk (by kernel_rfl) (by kernel_rfl)
theorem tk7 : TIok Tryd.prog ti7 7 := tiOk (by kernel_rfl) (by kernel_rfl)
theorem tk8 : TIok Tryd.prog ti8 8 := tiOk (by kernel_rfl) (by kernel_rfl)
theorem tk9 : TIok Tryd.prog ti9 9 := tiOk (by kernel_rfl) (by kernel_rfl)
theorem tk10 : TIok Tryd.prog ti10 10 := tiOk (by kernel_rfl) (by kernel_rfl)
theorem tk11 : TIok Tryd.prog ti11 11 := tiOk (by kernel_rfl) (by kernel_rfl)
theorem tk12 : TIok Tryd.prog ti12 12 := tiOk (by kernel_rfl) (by kernel_rfl)
theorem tk13 : TIok Tryd.prog ti13 13 := tiOk (by kernel_rfl) (by kernel_rfl)
theorem tk14 : TIok Tryd.prog ti14 14 := tiOk (by kernel_rfl) (by kernel_rfl)
theorem tk21 : TIok Tryd.prog ti21 21 := tiOk (by kernel_rfl) (by kernel_rfl)
theorem tk22 : TIok Tryd.prog ti22 22 := tiOk (by kernel_rfl) (by kernel_rfl)
theorem tk23 : TIok Tryd.prog ti23 23 := tiOk (by kernel_rfl) (by kernel_rfl)
theorem tk24 : TIok Tryd.prog ti24 24 := tiOk (by kernel_rfl) (by kernel_rfl)
theorem tk27 : TIok Tryd.prog ti27 27 := tiOk (by kernel_rfl) (by kernel_rfl)
theorem tk31 : TIok Tryd.prog ti31 31 := tiOk (by kernel_rfl) (by kernel_rfl)
theorem tk32 : TIok Tryd.prog ti32 32 := tiOk (by kernel_rfl) (by kernel_rfl)
theorem tk33 : TIok Tryd.prog ti33 33 := tiOk (by kernel_rfl) (by kernel_rfl)
theorem tk34 : TIok Tryd.prog ti34 34 := tiOk (by kernel_rfl) (by kernel_rfl)
theorem tk35 : TIok Tryd.prog ti35 35 := tiOk (by kernel_rfl) (by kernel_rfl)
theorem tk38 : TIok Tryd.prog ti38 38 := tiOk (by kernel_rfl) (by kernel_rfl)
theorem tk39 : TIok Tryd.prog ti39 39 := tiOk (by kernel_rfl) (by kernel_rfl)
theorem tk40 : TIok Tryd.prog ti40 40 := tiOk (by kernel_rfl) (by kernel_rfl)
theorem tk41 : TIok Tryd.prog ti41 41 := tiOk (by kernel_rfl) (by kernel_rfl)
theorem tk58 : TIok Tryd.prog ti58 58 := tiOk (by kernel_rfl) (by kernel_rfl)
theorem tk60 : TIok Tryd.prog ti60 60 := tiOk (by kernel_rfl) (by kernel_rfl)
theorem tk74 : TIok Tryd.prog ti74 74 := tiOk (by kernel_rfl) (by kernel_rfl)
theorem tk75 : TIok Tryd.prog ti75 75 := tiOk (by kernel_rfl) (by kernel_rfl)
theorem tk85 : TIok Tryd.prog ti85 85 := tiOk (by kernel_rfl) (by kernel_rfl)
theorem tk86 : TIok Tryd.prog ti86 86 := tiOk (by kernel_rfl) (by kernel_rfl)
theorem tk87 : TIok Tryd.prog ti87 87 := tiOk (by kernel_rfl) (by kernel_rfl)
theorem tk89 : TIok Tryd.prog ti89 89 := tiOk (by kernel_rfl) (by kernel_rfl)
theorem tk92 : TIok Tryd.prog ti92 92 := tiOk (by kernel_rfl) (by kernel_rfl)
theorem tk93 : TIok Tryd.prog ti93 93 := tiOk (by kernel_rfl) (by kernel_rfl)
theorem tk100 : TIok Tryd.prog ti100 100 := tiOk (by kernel_rfl) (by kernel_rfl)
theorem tk101 : TIok Tryd.prog ti101 101 := tiOk (by kernel_rfl) (by kernel_rfl)
theorem tk103 : TIok Tryd.prog ti103 103 := tiOk (by kernel_rfl) (by kernel_rfl)
theorem tk104 : TIok Tryd.prog ti104 104 := tiOk (by kernel_rfl) (by kernel_rfl)
theorem fk3 : FnE Tryd.prog 3 (Tryd.f3, s_laws_FnExactShowOutcome) := ⟨Tryd.func3, by kernel_rfl⟩
theorem fk4 : FnE Tryd.prog 4 (Tryd.f4, s_laws_FnExactShowVerdict) := ⟨Tryd.func4, by kernel_rfl⟩
theorem fk5 : FnE Tryd.prog 5 (Tryd.f5, s_laws_szOutcome) := ⟨Tryd.func5, by kernel_rfl⟩
theorem fk6 : FnE Tryd.prog 6 (Tryd.f6, s_spec_ShowOutcome) := ⟨Tryd.func6, by kernel_rfl⟩
theorem fk7 : FnE Tryd.prog 7 (Tryd.f7, s_laws_toOutcome) := ⟨Tryd.func7, by kernel_rfl⟩
theorem fk8 : FnE Tryd.prog 8 (Tryd.f8, s_impl_ShowOutcome) := ⟨Tryd.func8, by kernel_rfl⟩
theorem fk9 : FnE Tryd.prog 9 (Tryd.f9, s_laws_eqOutcome) := ⟨Tryd.func9, by kernel_rfl⟩
theorem fk10 : FnE Tryd.prog 10 (Tryd.f10, s_laws_szVerdict) := ⟨Tryd.func10, by kernel_rfl⟩
theorem fk11 : FnE Tryd.prog 11 (Tryd.f11, s_spec_ShowVerdict) := ⟨Tryd.func11, by kernel_rfl⟩
theorem fk12 : FnE Tryd.prog 12 (Tryd.f12, s_laws_toVerdict) := ⟨Tryd.func12, by kernel_rfl⟩
theorem fk13 : FnE Tryd.prog 13 (Tryd.f13, s_impl_ShowVerdict) := ⟨Tryd.func13, by kernel_rfl⟩
theorem fk14 : FnE Tryd.prog 14 (Tryd.f14, s_laws_eqVerdict) := ⟨Tryd.func14, by kernel_rfl⟩
theorem fk15 : FnE Tryd.prog 15 (Tryd.f15, s_laws_szInt64S) := ⟨Tryd.func15, by kernel_rfl⟩
theorem fk16 : FnE Tryd.prog 16 (Tryd.f16, s_spec_l1Ints) := ⟨Tryd.func16, by kernel_rfl⟩
theorem fk17 : FnE Tryd.prog 17 (Tryd.f17, s_spec_l1Int) := ⟨Tryd.func17, by kernel_rfl⟩
theorem fk18 : FnE Tryd.prog 18 (Tryd.f18, s_laws_toInt64S) := ⟨Tryd.func18, by kernel_rfl⟩
theorem fk19 : FnE Tryd.prog 19 (Tryd.f19, s_impl_spaced) := ⟨Tryd.func19, by kernel_rfl⟩
theorem fk20 : FnE Tryd.prog 20 (Tryd.f20, s_impl_digits) := ⟨Tryd.func20, by kernel_rfl⟩
theorem fk21 : FnE Tryd.prog 21 (Tryd.f21, s_laws_eqInt64S) := ⟨Tryd.func21, by kernel_rfl⟩
theorem fk22 : FnE Tryd.prog 22 (Tryd.f22, s_laws_szLineS) := ⟨Tryd.func22, by kernel_rfl⟩
theorem fk23 : FnE Tryd.prog 23 (Tryd.f23, s_spec_l18Line) := ⟨Tryd.func23, by kernel_rfl⟩
theorem fk24 : FnE Tryd.prog 24 (Tryd.f24, s_laws_toLineS) := ⟨Tryd.func24, by kernel_rfl⟩
theorem fk25 : FnE Tryd.prog 25 (Tryd.f25, s_laws_toLine) := ⟨Tryd.func25, by kernel_rfl⟩
theorem fk26 : FnE Tryd.prog 26 (Tryd.f26, s_impl_lineText) := ⟨Tryd.func26, by kernel_rfl⟩
theorem fk27 : FnE Tryd.prog 27 (Tryd.f27, s_laws_eqLineS) := ⟨Tryd.func27, by kernel_rfl⟩
theorem fk28 : FnE Tryd.prog 28 (Tryd.f28, s_laws_eqLine) := ⟨Tryd.func28, by kernel_rfl⟩
theorem fk29 : FnE Tryd.prog 29 (Tryd.f29, s_spec_l1Words) := ⟨Tryd.func29, by kernel_rfl⟩
theorem fk32 : FnE Tryd.prog 32 (Tryd.f32, s_impl_yesNo) := ⟨Tryd.func32, by kernel_rfl⟩
theorem fk30 : FnE Tryd.prog 30 (Tryd.f30, s_strings_Join) := ⟨Tryd.func30, by kernel_rfl⟩
theorem fk31 : FnE Tryd.prog 31 (Tryd.f31, s_strconv_FormatInt) := ⟨Tryd.func31, by kernel_rfl⟩
theorem hE : EnvOk E := envOk [(3, Tryd.f3, s_laws_FnExactShowOutcome), (4, Tryd.f4, s_laws_FnExactShowVerdict), (5, Tryd.f5, s_laws_szOutcome), (6, Tryd.f6, s_spec_ShowOutcome), (7, Tryd.f7, s_laws_toOutcome), (8, Tryd.f8, s_impl_ShowOutcome), (9, Tryd.f9, s_laws_eqOutcome), (10, Tryd.f10, s_laws_szVerdict), (11, Tryd.f11, s_spec_ShowVerdict), (12, Tryd.f12, s_laws_toVerdict), (13, Tryd.f13, s_impl_ShowVerdict), (14, Tryd.f14, s_laws_eqVerdict), (15, Tryd.f15, s_laws_szInt64S), (16, Tryd.f16, s_spec_l1Ints), (17, Tryd.f17, s_spec_l1Int), (18, Tryd.f18, s_laws_toInt64S), (19, Tryd.f19, s_impl_spaced), (20, Tryd.f20, s_impl_digits), (21, Tryd.f21, s_laws_eqInt64S), (22, Tryd.f22, s_laws_szLineS), (23, Tryd.f23, s_spec_l18Line), (24, Tryd.f24, s_laws_toLineS), (25, Tryd.f25, s_laws_toLine), (26, Tryd.f26, s_impl_lineText), (27, Tryd.f27, s_laws_eqLineS), (28, Tryd.f28, s_laws_eqLine), (29, Tryd.f29, s_spec_l1Words), (32, Tryd.f32, s_impl_yesNo), (30, Tryd.f30, s_strings_Join), (31, Tryd.f31, s_strconv_FormatInt)]
  (by kernel_rfl) (by kernel_rfl) ⟨fk3, fk4, fk5, fk6, fk7, fk8, fk9, fk10, fk11, fk12, fk13, fk14, fk15, fk16, fk17, fk18, fk19, fk20, fk21, fk22, fk23, fk24, fk25, fk26, fk27, fk28, fk29, fk32, fk30, fk31, trivial⟩
  ⟨tk2, tk3, tk4, tk5, tk6, tk7, tk8, tk9, tk10, tk11, tk12, tk13, tk14, tk21, tk22, tk23, tk24, tk27, tk31, tk32, tk33, tk34, tk35, tk38, tk39, tk40, tk41, tk58, tk60, tk74, tk75, tk85, tk86, tk87, tk89, tk92, tk93, tk100, tk101, tk103, tk104, trivial⟩ (by kernel_rfl)
end Go.Proofs.YtbalepejjjmioaaDoor.Pf

/- Merged texts: Facts. -/
import Derived.Test.YtgdmaadikcnagaaDoorProg
import Derived.Test.YtgdmaadikcnagaaDoorMG1
import Derived.KernelRfl
/- What the dump says of its types and functions: written by facts.py (a program of this claim). -/
namespace Go.Proofs.YtgdmaadikcnagaaDoor
open Go Go.Gx
set_option linter.unusedSimpArgs false
set_option linter.unusedVariables false

instance tf1 : TF Tryd.prog 1 false 1 := ⟨Tryd.isAgg1, Tryd.sizeOf1⟩
instance ti1 : TI Tryd.prog 1 (.nilFunc) 1 8 := TI.of (by kernel_rfl)
instance tf2 : TF Tryd.prog 2 false 1 := ⟨Tryd.isAgg2, Tryd.sizeOf2⟩
instance ti2 : TI Tryd.prog 2 (.int .i64 0) 1 8 := TI.of (by kernel_rfl)
instance is2 : IsInt Tryd.prog 2 .i64 := ⟨Tryd.underlying2⟩
instance tf3 : TF Tryd.prog 3 false 1 := ⟨Tryd.isAgg3, Tryd.sizeOf3⟩
instance ti3 : TI Tryd.prog 3 (.int .i64 0) 1 8 := TI.of (by kernel_rfl)
instance is3 : IsInt Tryd.prog 3 .i64 := ⟨Tryd.underlying3⟩
instance tf4 : TF Tryd.prog 4 false 1 := ⟨Tryd.isAgg4, Tryd.sizeOf4⟩
instance ti4 : TI Tryd.prog 4 (.bool false) 1 1 := TI.of (by kernel_rfl)
instance is4 : IsBool Tryd.prog 4 := ⟨Tryd.underlying4⟩
instance tf5 : TF Tryd.prog 5 false 1 := ⟨Tryd.isAgg5, Tryd.sizeOf5⟩
instance ti5 : TI Tryd.prog 5 (.int .u8 0) 1 1 := TI.of (by kernel_rfl)
instance is5 : IsInt Tryd.prog 5 .u8 := ⟨Tryd.underlying5⟩
instance tf9 : TF Tryd.prog 9 false 1 := ⟨Tryd.isAgg9, Tryd.sizeOf9⟩
instance ti9 : TI Tryd.prog 9 (.string ⟨#[]⟩) 1 16 := TI.of (by kernel_rfl)
instance is9 : IsStr Tryd.prog 9 := ⟨Tryd.underlying9⟩
instance tf12 : TF Tryd.prog 12 false 1 := ⟨Tryd.isAgg12, Tryd.sizeOf12⟩
instance ti12 : TI Tryd.prog 12 (.int .u64 0) 1 8 := TI.of (by kernel_rfl)
instance is12 : IsInt Tryd.prog 12 .u64 := ⟨Tryd.underlying12⟩
instance tf21 : TF Tryd.prog 21 false 1 := ⟨Tryd.isAgg21, Tryd.sizeOf21⟩
instance ti21 : TI Tryd.prog 21 (.int .i32 0) 1 4 := TI.of (by kernel_rfl)
instance is21 : IsInt Tryd.prog 21 .i32 := ⟨Tryd.underlying21⟩
instance tf22 : TF Tryd.prog 22 false 1 := ⟨Tryd.isAgg22, Tryd.sizeOf22⟩
instance ti22 : TI Tryd.prog 22 (.slice none 0 0) 1 24 := TI.of (by kernel_rfl)
instance is22 : IsSlice Tryd.prog 22 34 := ⟨Tryd.underlying22⟩
instance tf23 : TF Tryd.prog 23 false 1 := ⟨Tryd.isAgg23, Tryd.sizeOf23⟩
instance ti23 : TI Tryd.prog 23 (.nilFunc) 1 8 := TI.of (by kernel_rfl)
instance tf24 : TF Tryd.prog 24 false 1 := ⟨Tryd.isAgg24, Tryd.sizeOf24⟩
instance ti24 : TI Tryd.prog 24 (.slice none 0 0) 1 24 := TI.of (by kernel_rfl)
instance is24 : IsSlice Tryd.prog 24 36 := ⟨Tryd.underlying24⟩
instance tf25 : TF Tryd.prog 25 false 1 := ⟨Tryd.isAgg25, Tryd.sizeOf25⟩
instance ti25 : TI Tryd.prog 25 (.nilFunc) 1 8 := TI.of (by kernel_rfl)
instance tf26 : TF Tryd.prog 26 false 1 := ⟨Tryd.isAgg26, Tryd.sizeOf26⟩
instance ti26 : TI Tryd.prog 26 (.slice none 0 0) 1 24 := TI.of (by kernel_rfl)
instance is26 : IsSlice Tryd.prog 26 33 := ⟨Tryd.underlying26⟩
instance tf27 : TF Tryd.prog 27 true 5 := ⟨Tryd.isAgg27, Tryd.sizeOf27⟩
instance ti27 : TI Tryd.prog 27 (.agg #[.int .i64 0, .int .i64 0, .int .i64 0, .int .i64 0, .int .i64 0]) 5 40 := TI.of (by kernel_rfl)
instance tf28 : TF Tryd.prog 28 true 5 := ⟨Tryd.isAgg28, Tryd.sizeOf28⟩
instance ti28 : TI Tryd.prog 28 (.agg #[.int .i64 0, .int .i64 0, .int .i64 0, .int .i64 0, .int .i64 0]) 5 40 := TI.of (by kernel_rfl)
instance tf29 : TF Tryd.prog 29 false 1 := ⟨Tryd.isAgg29, Tryd.sizeOf29⟩
instance ti29 : TI Tryd.prog 29 (.int .i64 0) 1 8 := TI.of (by kernel_rfl)
instance is29 : IsInt Tryd.prog 29 .i64 := ⟨Tryd.underlying29⟩
instance tf31 : TF Tryd.prog 31 false 1 := ⟨Tryd.isAgg31, Tryd.sizeOf31⟩
instance ti31 : TI Tryd.prog 31 (.nilFunc) 1 8 := TI.of (by kernel_rfl)
instance tf32 : TF Tryd.prog 32 true 4 := ⟨Tryd.isAgg32, Tryd.sizeOf32⟩
instance ti32 : TI Tryd.prog 32 (.agg #[.int .i64 0, .int .i64 0, .int .i64 0, .int .i64 0]) 4 32 := TI.of (by kernel_rfl)
instance tf33 : TF Tryd.prog 33 true 4 := ⟨Tryd.isAgg33, Tryd.sizeOf33⟩
instance ti33 : TI Tryd.prog 33 (.agg #[.int .i64 0, .int .i64 0, .int .i64 0, .int .i64 0]) 4 32 := TI.of (by kernel_rfl)
instance tf34 : TF Tryd.prog 34 true 5 := ⟨Tryd.isAgg34, Tryd.sizeOf34⟩
instance ti34 : TI Tryd.prog 34 (.agg #[.int .i64 0, .int .i64 0, .int .i64 0, .int .i64 0, .int .i64 0]) 5 40 := TI.of (by kernel_rfl)
instance is34 : IsArr Tryd.prog 34 5 3 := ⟨Tryd.underlying34⟩
instance tf35 : TF Tryd.prog 35 true 7 := ⟨Tryd.isAgg35, Tryd.sizeOf35⟩
instance ti35 : TI Tryd.prog 35 (.agg #[.int .i64 0, .int .i64 0, .int .i64 0, .int .i64 0, .int .i64 0, .int .i64 0, .int .i64 0]) 7 56 := TI.of (by kernel_rfl)
instance tf36 : TF Tryd.prog 36 true 7 := ⟨Tryd.isAgg36, Tryd.sizeOf36⟩
instance ti36 : TI Tryd.prog 36 (.agg #[.int .i64 0, .int .i64 0, .int .i64 0, .int .i64 0, .int .i64 0, .int .i64 0, .int .i64 0]) 7 56 := TI.of (by kernel_rfl)
instance tf37 : TF Tryd.prog 37 false 1 := ⟨Tryd.isAgg37, Tryd.sizeOf37⟩
instance ti37 : TI Tryd.prog 37 (.nilFunc) 1 8 := TI.of (by kernel_rfl)
instance tf38 : TF Tryd.prog 38 false 1 := ⟨Tryd.isAgg38, Tryd.sizeOf38⟩
instance ti38 : TI Tryd.prog 38 (.nilFunc) 1 8 := TI.of (by kernel_rfl)
instance tf39 : TF Tryd.prog 39 false 1 := ⟨Tryd.isAgg39, Tryd.sizeOf39⟩
instance ti39 : TI Tryd.prog 39 (.nilFunc) 1 8 := TI.of (by kernel_rfl)
instance tf40 : TF Tryd.prog 40 false 1 := ⟨Tryd.isAgg40, Tryd.sizeOf40⟩
instance ti40 : TI Tryd.prog 40 (.slice none 0 0) 1 24 := TI.of (by kernel_rfl)
instance is40 : IsSlice Tryd.prog 40 99 := ⟨Tryd.underlying40⟩
instance tf41 : TF Tryd.prog 41 false 1 := ⟨Tryd.isAgg41, Tryd.sizeOf41⟩
instance ti41 : TI Tryd.prog 41 (.slice none 0 0) 1 24 := TI.of (by kernel_rfl)
instance is41 : IsSlice Tryd.prog 41 100 := ⟨Tryd.underlying41⟩
instance tf42 : TF Tryd.prog 42 false 1 := ⟨Tryd.isAgg42, Tryd.sizeOf42⟩
instance ti42 : TI Tryd.prog 42 (.nilFunc) 1 8 := TI.of (by kernel_rfl)
instance tf43 : TF Tryd.prog 43 false 1 := ⟨Tryd.isAgg43, Tryd.sizeOf43⟩
instance ti43 : TI Tryd.prog 43 (.slice none 0 0) 1 24 := TI.of (by kernel_rfl)
instance is43 : IsSlice Tryd.prog 43 52 := ⟨Tryd.underlying43⟩
instance tf44 : TF Tryd.prog 44 false 1 := ⟨Tryd.isAgg44, Tryd.sizeOf44⟩
instance ti44 : TI Tryd.prog 44 (.nilFunc) 1 8 := TI.of (by kernel_rfl)
instance tf45 : TF Tryd.prog 45 false 1 := ⟨Tryd.isAgg45, Tryd.sizeOf45⟩
instance ti45 : TI Tryd.prog 45 (.slice none 0 0) 1 24 := TI.of (by kernel_rfl)
instance is45 : IsSlice Tryd.prog 45 56 := ⟨Tryd.underlying45⟩
instance tf47 : TF Tryd.prog 47 false 1 := ⟨Tryd.isAgg47, Tryd.sizeOf47⟩
instance ti47 : TI Tryd.prog 47 (.nilFunc) 1 8 := TI.of (by kernel_rfl)
instance tf49 : TF Tryd.prog 49 false 1 := ⟨Tryd.isAgg49, Tryd.sizeOf49⟩
instance ti49 : TI Tryd.prog 49 (.nilFunc) 1 8 := TI.of (by kernel_rfl)
instance tf50 : TF Tryd.prog 50 false 1 := ⟨Tryd.isAgg50, Tryd.sizeOf50⟩
instance ti50 : TI Tryd.prog 50 (.nilFunc) 1 8 := TI.of (by kernel_rfl)
instance tf51 : TF Tryd.prog 51 true 2 := ⟨Tryd.isAgg51, Tryd.sizeOf51⟩
instance ti51 : TI Tryd.prog 51 (.agg #[.int .i64 0, .int .i64 0]) 2 16 := TI.of (by kernel_rfl)
instance tf52 : TF Tryd.prog 52 true 2 := ⟨Tryd.isAgg52, Tryd.sizeOf52⟩
instance ti52 : TI Tryd.prog 52 (.agg #[.int .i64 0, .int .i64 0]) 2 16 := TI.of (by kernel_rfl)
instance tf53 : TF Tryd.prog 53 false 1 := ⟨Tryd.isAgg53, Tryd.sizeOf53⟩
instance ti53 : TI Tryd.prog 53 (.nilFunc) 1 8 := TI.of (by kernel_rfl)
instance tf54 : TF Tryd.prog 54 false 1 := ⟨Tryd.isAgg54, Tryd.sizeOf54⟩
instance ti54 : TI Tryd.prog 54 (.nilFunc) 1 8 := TI.of (by kernel_rfl)
instance tf55 : TF Tryd.prog 55 true 3 := ⟨Tryd.isAgg55, Tryd.sizeOf55⟩
instance ti55 : TI Tryd.prog 55 (.agg #[.int .i64 0, .int .i64 0, .int .i64 0]) 3 24 := TI.of (by kernel_rfl)
instance tf56 : TF Tryd.prog 56 true 3 := ⟨Tryd.isAgg56, Tryd.sizeOf56⟩
instance ti56 : TI Tryd.prog 56 (.agg #[.int .i64 0, .int .i64 0, .int .i64 0]) 3 24 := TI.of (by kernel_rfl)
instance tf57 : TF Tryd.prog 57 false 1 := ⟨Tryd.isAgg57, Tryd.sizeOf57⟩
instance ti57 : TI Tryd.prog 57 (.nilFunc) 1 8 := TI.of (by kernel_rfl)
instance tf58 : TF Tryd.prog 58 false 1 := ⟨Tryd.isAgg58, Tryd.sizeOf58⟩
instance ti58 : TI Tryd.prog 58 (.nilFunc) 1 8 := TI.of (by kernel_rfl)
instance tf59 : TF Tryd.prog 59 false 1 := ⟨Tryd.isAgg59, Tryd.sizeOf59⟩
instance ti59 : TI Tryd.prog 59 (.nilFunc) 1 8 := TI.of (by kernel_rfl)
instance tf60 : TF Tryd.prog 60 false 1 := ⟨Tryd.isAgg60, Tryd.sizeOf60⟩
instance ti60 : TI Tryd.prog 60 (.nilFunc) 1 8 := TI.of (by kernel_rfl)
instance tf61 : TF Tryd.prog 61 false 1 := ⟨Tryd.isAgg61, Tryd.sizeOf61⟩
instance ti61 : TI Tryd.prog 61 (.slice none 0 0) 1 24 := TI.of (by kernel_rfl)
instance is61 : IsSlice Tryd.prog 61 107 := ⟨Tryd.underlying61⟩
instance tf62 : TF Tryd.prog 62 false 1 := ⟨Tryd.isAgg62, Tryd.sizeOf62⟩
instance ti62 : TI Tryd.prog 62 (.slice none 0 0) 1 24 := TI.of (by kernel_rfl)
instance is62 : IsSlice Tryd.prog 62 76 := ⟨Tryd.underlying62⟩
instance tf63 : TF Tryd.prog 63 false 1 := ⟨Tryd.isAgg63, Tryd.sizeOf63⟩
instance ti63 : TI Tryd.prog 63 (.nilFunc) 1 8 := TI.of (by kernel_rfl)
instance tf64 : TF Tryd.prog 64 false 1 := ⟨Tryd.isAgg64, Tryd.sizeOf64⟩
instance ti64 : TI Tryd.prog 64 (.slice none 0 0) 1 24 := TI.of (by kernel_rfl)
instance is64 : IsSlice Tryd.prog 64 78 := ⟨Tryd.underlying64⟩
instance tf65 : TF Tryd.prog 65 false 1 := ⟨Tryd.isAgg65, Tryd.sizeOf65⟩
instance ti65 : TI Tryd.prog 65 (.nilFunc) 1 8 := TI.of (by kernel_rfl)
instance tf66 : TF Tryd.prog 66 false 1 := ⟨Tryd.isAgg66, Tryd.sizeOf66⟩
instance ti66 : TI Tryd.prog 66 (.slice none 0 0) 1 24 := TI.of (by kernel_rfl)
instance is66 : IsSlice Tryd.prog 66 3 := ⟨Tryd.underlying66⟩
instance tf68 : TF Tryd.prog 68 false 1 := ⟨Tryd.isAgg68, Tryd.sizeOf68⟩
instance ti68 : TI Tryd.prog 68 (.nilFunc) 1 8 := TI.of (by kernel_rfl)
instance tf70 : TF Tryd.prog 70 false 1 := ⟨Tryd.isAgg70, Tryd.sizeOf70⟩
instance ti70 : TI Tryd.prog 70 (.nilFunc) 1 8 := TI.of (by kernel_rfl)
instance tf71 : TF Tryd.prog 71 true 7 := ⟨Tryd.isAgg71, Tryd.sizeOf71⟩
instance ti71 : TI Tryd.prog 71 (.agg #[.int .i64 0, .int .i64 0, .int .i64 0, .int .i64 0, .int .i64 0, .int .i64 0, .int .i64 0]) 7 56 := TI.of (by kernel_rfl)
instance is71 : IsArr Tryd.prog 71 7 3 := ⟨Tryd.underlying71⟩
instance tf72 : TF Tryd.prog 72 true 7 := ⟨Tryd.isAgg72, Tryd.sizeOf72⟩
instance ti72 : TI Tryd.prog 72 (.agg #[.int .i64 0, .int .i64 0, .int .i64 0, .int .i64 0, .int .i64 0, .int .i64 0, .int .i64 0]) 7 56 := TI.of (by kernel_rfl)
instance is72 : IsArr Tryd.prog 72 7 3 := ⟨Tryd.underlying72⟩
instance tf73 : TF Tryd.prog 73 true 2 := ⟨Tryd.isAgg73, Tryd.sizeOf73⟩
instance ti73 : TI Tryd.prog 73 (.agg #[.int .i64 0, .int .i64 0]) 2 16 := TI.of (by kernel_rfl)
instance tf74 : TF Tryd.prog 74 true 2 := ⟨Tryd.isAgg74, Tryd.sizeOf74⟩
instance ti74 : TI Tryd.prog 74 (.agg #[.int .i64 0, .int .i64 0]) 2 16 := TI.of (by kernel_rfl)
instance tf75 : TF Tryd.prog 75 true 17 := ⟨Tryd.isAgg75, Tryd.sizeOf75⟩
instance ti75 : TI Tryd.prog 75 (.agg #[.int .i64 0, .int .i64 0, .int .i64 0, .int .i64 0, .int .i64 0, .int .i64 0, .int .i64 0, .int .i64 0, .int .i64 0, .int .i64 0, .int .i64 0, .int .i64 0, .int .i64 0, .int .i64 0, .int .i64 0, .int .i64 0, .int .i64 0]) 17 136 := TI.of (by kernel_rfl)
instance tf76 : TF Tryd.prog 76 true 17 := ⟨Tryd.isAgg76, Tryd.sizeOf76⟩
instance ti76 : TI Tryd.prog 76 (.agg #[.int .i64 0, .int .i64 0, .int .i64 0, .int .i64 0, .int .i64 0, .int .i64 0, .int .i64 0, .int .i64 0, .int .i64 0, .int .i64 0, .int .i64 0, .int .i64 0, .int .i64 0, .int .i64 0, .int .i64 0, .int .i64 0, .int .i64 0]) 17 136 := TI.of (by kernel_rfl)
instance tf77 : TF Tryd.prog 77 true 2 := ⟨Tryd.isAgg77, Tryd.sizeOf77⟩
instance ti77 : TI Tryd.prog 77 (.agg #[.int .i64 0, .int .i64 0]) 2 16 := TI.of (by kernel_rfl)
instance tf78 : TF Tryd.prog 78 true 2 := ⟨Tryd.isAgg78, Tryd.sizeOf78⟩
instance ti78 : TI Tryd.prog 78 (.agg #[.int .i64 0, .int .i64 0]) 2 16 := TI.of (by kernel_rfl)
instance tf79 : TF Tryd.prog 79 false 1 := ⟨Tryd.isAgg79, Tryd.sizeOf79⟩
instance ti79 : TI Tryd.prog 79 (.nilFunc) 1 8 := TI.of (by kernel_rfl)
instance tf80 : TF Tryd.prog 80 false 1 := ⟨Tryd.isAgg80, Tryd.sizeOf80⟩
instance ti80 : TI Tryd.prog 80 (.nilFunc) 1 8 := TI.of (by kernel_rfl)
instance tf81 : TF Tryd.prog 81 false 1 := ⟨Tryd.isAgg81, Tryd.sizeOf81⟩
instance ti81 : TI Tryd.prog 81 (.nilFunc) 1 8 := TI.of (by kernel_rfl)
instance tf82 : TF Tryd.prog 82 false 1 := ⟨Tryd.isAgg82, Tryd.sizeOf82⟩
instance ti82 : TI Tryd.prog 82 (.nilFunc) 1 8 := TI.of (by kernel_rfl)
instance tf83 : TF Tryd.prog 83 false 1 := ⟨Tryd.isAgg83, Tryd.sizeOf83⟩
instance ti83 : TI Tryd.prog 83 (.nilFunc) 1 8 := TI.of (by kernel_rfl)
instance tf84 : TF Tryd.prog 84 false 1 := ⟨Tryd.isAgg84, Tryd.sizeOf84⟩
instance ti84 : TI Tryd.prog 84 (.pointer none) 1 8 := TI.of (by kernel_rfl)
instance tf85 : TF Tryd.prog 85 true 200 := ⟨Tryd.isAgg85, Tryd.sizeOf85⟩
instance ti85 : TI Tryd.prog 85 (.agg #[.bool false, .bool false, .bool false, .bool false, .bool false, .bool false, .bool false, .bool false, .bool false, .bool false, .bool false, .bool false, .bool false, .bool false, .bool false, .bool false, .bool false, .bool false, .bool false, .bool false, .bool false, .bool false, .bool false, .bool false, .bool false, .bool false, .bool false, .bool false, .bool false, .bool false, .bool false, .bool false, .bool false, .bool false, .bool false, .bool false, .bool false, .bool false, .bool false, .bool false, .bool false, .bool false, .bool false, .bool false, .bool false, .bool false, .bool false, .bool false, .bool false, .bool false, .bool false, .bool false, .bool false, .bool false, .bool false, .bool false, .bool false, .bool false, .bool false, .bool false, .bool false, .bool false, .bool false, .bool false, .bool false, .bool false, .bool false, .bool false, .bool false, .bool false, .bool false, .bool false, .bool false, .bool false, .bool false, .bool false, .bool false, .bool false, .bool false, .bool false, .bool false, .bool false, .bool false, .bool false, .bool false, .bool false, .bool false, .bool false, .bool false, .bool false, .bool false, .bool false, .bool false, .bool false, .bool false, .bool false, .bool false, .bool false, .bool false, .bool false, .bool false, .bool false, .bool false, .bool false, .bool false, .bool false, .bool false, .bool false, .bool false, .bool false, .bool false, .bool false, .bool false, .bool false, .bool false, .bool false, .bool false, .bool false, .bool false, .bool false, .bool false, .bool false, .bool false, .bool false, .bool false, .bool false, .bool false, .bool false, .bool false, .bool false, .bool false, .bool false, .bool false, .bool false, .bool false, .bool false, .bool false, .bool false, .bool false, .bool false, .bool false, .bool false, .bool false, .bool false, .bool false, .bool false, .bool false, .bool false, .bool false, .bool false, .bool false, .bool false, .bool false, .bool false, .bool false, .bool false, .bool false, .bool false, .bool false, .bool false, .bool false, .bool false, .bool false, .bool false, .bool false, .bool false, .bool false, .bool false, .bool false, .bool false, .bool false, .bool false, .bool false, .bool false, .bool false, .bool false, .bool false, .bool false, .bool false, .bool false, .bool false, .bool false, .bool false, .bool false, .bool false, .bool false, .bool false, .bool false, .bool false, .bool false, .bool false, .bool false, .bool false, .bool false, .bool false, .bool false, .bool false, .bool false, .bool false, .bool false]) 200 200 := TI.of (by kernel_rfl)
instance is85 : IsArr Tryd.prog 85 200 4 := ⟨Tryd.underlying85⟩
instance tf86 : TF Tryd.prog 86 true 206 := ⟨Tryd.isAgg86, Tryd.sizeOf86⟩
instance ti86 : TI Tryd.prog 86 (.agg #[.bool false, .bool false, .bool false, .bool false, .bool false, .bool false, .bool false, .bool false, .bool false, .bool false, .bool false, .bool false, .bool false, .bool false, .bool false, .bool false, .bool false, .bool false, .bool false, .bool false, .bool false, .bool false, .bool false, .bool false, .bool false, .bool false, .bool false, .bool false, .bool false, .bool false, .bool false, .bool false, .bool false, .bool false, .bool false, .bool false, .bool false, .bool false, .bool false, .bool false, .bool false, .bool false, .bool false, .bool false, .bool false, .bool false, .bool false, .bool false, .bool false, .bool false, .bool false, .bool false, .bool false, .bool false, .bool false, .bool false, .bool false, .bool false, .bool false, .bool false, .bool false, .bool false, .bool false, .bool false, .bool false, .bool false, .bool false, .bool false, .bool false, .bool false, .bool false, .bool false, .bool false, .bool false, .bool false, .bool false, .bool false, .bool false, .bool false, .bool false, .bool false, .bool false, .bool false, .bool false, .bool false, .bool false, .bool false, .bool false, .bool false, .bool false, .bool false, .bool false, .bool false, .bool false, .bool false, .bool false, .bool false, .bool false, .bool false, .bool false, .bool false, .bool false, .bool false, .bool false, .bool false, .bool false, .bool false, .bool false, .bool false, .bool false, .bool false, .bool false, .bool false, .bool false, .bool false, .bool false, .bool false, .bool false, .bool false, .bool false, .bool false, .bool false, .bool false, .bool false, .bool false, .bool false, .bool false, .bool false, .bool false, .bool false, .bool false, .bool false, .bool false, .bool false, .bool false, .bool false, .bool false, .bool false, .bool false, .bool false, .bool false, .bool false, .bool false, .bool false, .bool false, .bool false, .bool false, .bool false, .bool false, .bool false, .bool false, .bool false, .bool false, .bool false, .bool false, .bool false, .bool false, .bool false, .bool false, .bool false, .bool false, .bool false, .bool false, .bool false, .bool false, .bool false, .bool false, .bool false, .bool false, .bool false, .bool false, .bool false, .bool false, .bool false, .bool false, .bool false, .bool false, .bool false, .bool false, .bool false, .bool false, .bool false, .bool false, .bool false, .bool false, .bool false, .bool false, .bool false, .bool false, .bool false, .bool false, .bool false, .bool false, .bool false, .bool false, .bool false, .bool false, .bool false, .bool false, .bool false, .slice none 0 0, .int .i64 0, .int .i64 0, .int .i64 0, .int .i64 0, .int .i64 0]) 206 264 := TI.of (by kernel_rfl)
instance tf87 : TF Tryd.prog 87 true 206 := ⟨Tryd.isAgg87, Tryd.sizeOf87⟩
instance ti87 : TI Tryd.prog 87 (.agg #[.bool false, .bool false, .bool false, .bool false, .bool false, .bool false, .bool false, .bool false, .bool false, .bool false, .bool false, .bool false, .bool false, .bool false, .bool false, .bool false, .bool false, .bool false, .bool false, .bool false, .bool false, .bool false, .bool false, .bool false, .bool false, .bool false, .bool false, .bool false, .bool false, .bool false, .bool false, .bool false, .bool false, .bool false, .bool false, .bool false, .bool false, .bool false, .bool false, .bool false, .bool false, .bool false, .bool false, .bool false, .bool false, .bool false, .bool false, .bool false, .bool false, .bool false, .bool false, .bool false, .bool false, .bool false, .bool false, .bool false, .bool false, .bool false, .bool false, .bool false, .bool false, .bool false, .bool false, .bool false, .bool false, .bool false, .bool false, .bool false, .bool false, .bool false, .bool false, .bool false, .bool false, .bool false, .bool false, .bool false, .bool false, .bool false, .bool false, .bool false, .bool false, .bool false, .bool false, .bool false, .bool false, .bool false, .bool false, .bool false, .bool false, .bool false, .bool false, .bool false, .bool false, .bool false, .bool false, .bool false, .bool false, .bool false, .bool false, .bool false, .bool false, .bool false, .bool false, .bool false, .bool false, .bool false, .bool false, .bool false, .bool false, .bool false, .bool false, .bool false, .bool false, .bool false, .bool false, .bool false, .bool false, .bool false, .bool false, .bool false, .bool false, .bool false, .bool false, .bool false, .bool false, .bool false, .bool false, .bool false, .bool false, .bool false, .bool false, .bool false, .bool false, .bool false, .bool false, .bool false, .bool false, .bool false, .bool false, .bool false, .bool false, .bool false, .bool false, .bool false, .bool false, .bool false, .bool false, .bool false, .bool false, .bool false, .bool false, .bool false, .bool false, .bool false, .bool false, .bool false, .bool false, .bool false, .bool false, .bool false, .bool false, .bool false, .bool false, .bool false, .bool false, .bool false, .bool false, .bool false, .bool false, .bool false, .bool false, .bool false, .bool false, .bool false, .bool false, .bool false, .bool false, .bool false, .bool false, .bool false, .bool false, .bool false, .bool false, .bool false, .bool false, .bool false, .bool false, .bool false, .bool false, .bool false, .bool false, .bool false, .bool false, .bool false, .bool false, .bool false, .bool false, .bool false, .bool false, .bool false, .slice none 0 0, .int .i64 0, .int .i64 0, .int .i64 0, .int .i64 0, .int .i64 0]) 206 264 := TI.of (by kernel_rfl)
instance tf88 : TF Tryd.prog 88 false 1 := ⟨Tryd.isAgg88, Tryd.sizeOf88⟩
instance ti88 : TI Tryd.prog 88 (.nilFunc) 1 8 := TI.of (by kernel_rfl)
instance tf89 : TF Tryd.prog 89 false 1 := ⟨Tryd.isAgg89, Tryd.sizeOf89⟩
instance ti89 : TI Tryd.prog 89 (.pointer none) 1 8 := TI.of (by kernel_rfl)
instance tf90 : TF Tryd.prog 90 false 1 := ⟨Tryd.isAgg90, Tryd.sizeOf90⟩
instance ti90 : TI Tryd.prog 90 (.map none) 1 8 := TI.of (by kernel_rfl)
instance tf91 : TF Tryd.prog 91 false 1 := ⟨Tryd.isAgg91, Tryd.sizeOf91⟩
instance ti91 : TI Tryd.prog 91 (.map none) 1 8 := TI.of (by kernel_rfl)
instance tf92 : TF Tryd.prog 92 true 8 := ⟨Tryd.isAgg92, Tryd.sizeOf92⟩
instance ti92 : TI Tryd.prog 92 (.agg #[.map none, .map none, .int .i64 0, .int .i64 0, .int .i64 0, .int .i64 0, .int .i64 0, .int .i64 0]) 8 64 := TI.of (by kernel_rfl)
instance tf93 : TF Tryd.prog 93 true 8 := ⟨Tryd.isAgg93, Tryd.sizeOf93⟩
instance ti93 : TI Tryd.prog 93 (.agg #[.map none, .map none, .int .i64 0, .int .i64 0, .int .i64 0, .int .i64 0, .int .i64 0, .int .i64 0]) 8 64 := TI.of (by kernel_rfl)
instance tf94 : TF Tryd.prog 94 false 1 := ⟨Tryd.isAgg94, Tryd.sizeOf94⟩
instance ti94 : TI Tryd.prog 94 (.nilFunc) 1 8 := TI.of (by kernel_rfl)
instance tf95 : TF Tryd.prog 95 false 1 := ⟨Tryd.isAgg95, Tryd.sizeOf95⟩
instance ti95 : TI Tryd.prog 95 (.nilFunc) 1 8 := TI.of (by kernel_rfl)
instance tf96 : TF Tryd.prog 96 false 1 := ⟨Tryd.isAgg96, Tryd.sizeOf96⟩
instance ti96 : TI Tryd.prog 96 (.nilFunc) 1 8 := TI.of (by kernel_rfl)
instance tf97 : TF Tryd.prog 97 false 1 := ⟨Tryd.isAgg97, Tryd.sizeOf97⟩
instance ti97 : TI Tryd.prog 97 (.nilFunc) 1 8 := TI.of (by kernel_rfl)
instance tf98 : TF Tryd.prog 98 false 1 := ⟨Tryd.isAgg98, Tryd.sizeOf98⟩
instance ti98 : TI Tryd.prog 98 (.nilFunc) 1 8 := TI.of (by kernel_rfl)
instance tf99 : TF Tryd.prog 99 true 3 := ⟨Tryd.isAgg99, Tryd.sizeOf99⟩
instance ti99 : TI Tryd.prog 99 (.agg #[.int .i64 0, .int .i64 0, .int .i64 0]) 3 24 := TI.of (by kernel_rfl)
instance is99 : IsArr Tryd.prog 99 3 3 := ⟨Tryd.underlying99⟩
instance tf100 : TF Tryd.prog 100 true 2 := ⟨Tryd.isAgg100, Tryd.sizeOf100⟩
instance ti100 : TI Tryd.prog 100 (.agg #[.int .i64 0, .int .i64 0]) 2 16 := TI.of (by kernel_rfl)
instance is100 : IsArr Tryd.prog 100 2 3 := ⟨Tryd.underlying100⟩
instance tf101 : TF Tryd.prog 101 false 1 := ⟨Tryd.isAgg101, Tryd.sizeOf101⟩
instance ti101 : TI Tryd.prog 101 (.nilFunc) 1 8 := TI.of (by kernel_rfl)
instance tf102 : TF Tryd.prog 102 false 1 := ⟨Tryd.isAgg102, Tryd.sizeOf102⟩
instance ti102 : TI Tryd.prog 102 (.nilFunc) 1 8 := TI.of (by kernel_rfl)
instance tf103 : TF Tryd.prog 103 false 1 := ⟨Tryd.isAgg103, Tryd.sizeOf103⟩
instance ti103 : TI Tryd.prog 103 (.nilFunc) 1 8 := TI.of (by kernel_rfl)
instance tf104 : TF Tryd.prog 104 false 1 := ⟨Tryd.isAgg104, Tryd.sizeOf104⟩
instance ti104 : TI Tryd.prog 104 (.pointer none) 1 8 := TI.of (by kernel_rfl)
instance tf105 : TF Tryd.prog 105 false 1 := ⟨Tryd.isAgg105, Tryd.sizeOf105⟩
instance ti105 : TI Tryd.prog 105 (.map none) 1 8 := TI.of (by kernel_rfl)
instance tf107 : TF Tryd.prog 107 true 8 := ⟨Tryd.isAgg107, Tryd.sizeOf107⟩
instance ti107 : TI Tryd.prog 107 (.agg #[.int .i64 0, .int .i64 0, .int .i64 0, .int .i64 0, .int .i64 0, .int .i64 0, .int .i64 0, .int .i64 0]) 8 64 := TI.of (by kernel_rfl)
instance is107 : IsArr Tryd.prog 107 8 3 := ⟨Tryd.underlying107⟩
instance tf108 : TF Tryd.prog 108 false 1 := ⟨Tryd.isAgg108, Tryd.sizeOf108⟩
instance ti108 : TI Tryd.prog 108 (.pointer none) 1 8 := TI.of (by kernel_rfl)
instance tf110 : TF Tryd.prog 110 false 1 := ⟨Tryd.isAgg110, Tryd.sizeOf110⟩
instance ti110 : TI Tryd.prog 110 (.nilFunc) 1 8 := TI.of (by kernel_rfl)
instance tf111 : TF Tryd.prog 111 false 1 := ⟨Tryd.isAgg111, Tryd.sizeOf111⟩
instance ti111 : TI Tryd.prog 111 (.nilFunc) 1 8 := TI.of (by kernel_rfl)
instance tf112 : TF Tryd.prog 112 false 1 := ⟨Tryd.isAgg112, Tryd.sizeOf112⟩
instance ti112 : TI Tryd.prog 112 (.nilFunc) 1 8 := TI.of (by kernel_rfl)
instance tf113 : TF Tryd.prog 113 false 1 := ⟨Tryd.isAgg113, Tryd.sizeOf113⟩
instance ti113 : TI Tryd.prog 113 (.nilFunc) 1 8 := TI.of (by kernel_rfl)
instance tf114 : TF Tryd.prog 114 false 1 := ⟨Tryd.isAgg114, Tryd.sizeOf114⟩
instance ti114 : TI Tryd.prog 114 (.nilFunc) 1 8 := TI.of (by kernel_rfl)
instance tf115 : TF Tryd.prog 115 false 1 := ⟨Tryd.isAgg115, Tryd.sizeOf115⟩
instance ti115 : TI Tryd.prog 115 (.nilFunc) 1 8 := TI.of (by kernel_rfl)
instance tf116 : TF Tryd.prog 116 false 1 := ⟨Tryd.isAgg116, Tryd.sizeOf116⟩
instance ti116 : TI Tryd.prog 116 (.nilFunc) 1 8 := TI.of (by kernel_rfl)
instance tf117 : TF Tryd.prog 117 false 1 := ⟨Tryd.isAgg117, Tryd.sizeOf117⟩
instance ti117 : TI Tryd.prog 117 (.nilFunc) 1 8 := TI.of (by kernel_rfl)
instance tf118 : TF Tryd.prog 118 false 1 := ⟨Tryd.isAgg118, Tryd.sizeOf118⟩
instance ti118 : TI Tryd.prog 118 (.nilFunc) 1 8 := TI.of (by kernel_rfl)
instance tf119 : TF Tryd.prog 119 true 2 := ⟨Tryd.isAgg119, Tryd.sizeOf119⟩
instance ti119 : TI Tryd.prog 119 (.agg #[.nilFunc, .nilFunc]) 2 16 := TI.of (by kernel_rfl)
instance tf120 : TF Tryd.prog 120 true 2 := ⟨Tryd.isAgg120, Tryd.sizeOf120⟩
instance ti120 : TI Tryd.prog 120 (.agg #[.nilFunc, .nilFunc]) 2 16 := TI.of (by kernel_rfl)
instance tf122 : TF Tryd.prog 122 false 1 := ⟨Tryd.isAgg122, Tryd.sizeOf122⟩
instance ti122 : TI Tryd.prog 122 (.map none) 1 8 := TI.of (by kernel_rfl)
instance tf123 : TF Tryd.prog 123 false 1 := ⟨Tryd.isAgg123, Tryd.sizeOf123⟩
instance ti123 : TI Tryd.prog 123 (.nilFunc) 1 8 := TI.of (by kernel_rfl)
instance tf124 : TF Tryd.prog 124 false 1 := ⟨Tryd.isAgg124, Tryd.sizeOf124⟩
instance ti124 : TI Tryd.prog 124 (.nilFunc) 1 8 := TI.of (by kernel_rfl)
instance tf125 : TF Tryd.prog 125 false 1 := ⟨Tryd.isAgg125, Tryd.sizeOf125⟩
instance ti125 : TI Tryd.prog 125 (.nilFunc) 1 8 := TI.of (by kernel_rfl)
instance tf126 : TF Tryd.prog 126 false 1 := ⟨Tryd.isAgg126, Tryd.sizeOf126⟩
instance ti126 : TI Tryd.prog 126 (.nilFunc) 1 8 := TI.of (by kernel_rfl)
instance tf127 : TF Tryd.prog 127 false 1 := ⟨Tryd.isAgg127, Tryd.sizeOf127⟩
instance ti127 : TI Tryd.prog 127 (.int .u64 0) 1 8 := TI.of (by kernel_rfl)
instance is127 : IsInt Tryd.prog 127 .u64 := ⟨Tryd.underlying127⟩
instance tf128 : TF Tryd.prog 128 false 1 := ⟨Tryd.isAgg128, Tryd.sizeOf128⟩
instance ti128 : TI Tryd.prog 128 (.nilFunc) 1 8 := TI.of (by kernel_rfl)
instance tf129 : TF Tryd.prog 129 false 1 := ⟨Tryd.isAgg129, Tryd.sizeOf129⟩
instance ti129 : TI Tryd.prog 129 (.nilFunc) 1 8 := TI.of (by kernel_rfl)
instance tf130 : TF Tryd.prog 130 false 1 := ⟨Tryd.isAgg130, Tryd.sizeOf130⟩
instance ti130 : TI Tryd.prog 130 (.map none) 1 8 := TI.of (by kernel_rfl)
instance tf131 : TF Tryd.prog 131 false 1 := ⟨Tryd.isAgg131, Tryd.sizeOf131⟩
instance ti131 : TI Tryd.prog 131 (.map none) 1 8 := TI.of (by kernel_rfl)
instance tf132 : TF Tryd.prog 132 false 1 := ⟨Tryd.isAgg132, Tryd.sizeOf132⟩
instance ti132 : TI Tryd.prog 132 (.map none) 1 8 := TI.of (by kernel_rfl)
instance tf133 : TF Tryd.prog 133 true 4 := ⟨Tryd.isAgg133, Tryd.sizeOf133⟩
instance ti133 : TI Tryd.prog 133 (.agg #[.map none, .map none, .map none, .map none]) 4 32 := TI.of (by kernel_rfl)
instance tf134 : TF Tryd.prog 134 true 4 := ⟨Tryd.isAgg134, Tryd.sizeOf134⟩
instance ti134 : TI Tryd.prog 134 (.agg #[.map none, .map none, .map none, .map none]) 4 32 := TI.of (by kernel_rfl)
instance tf135 : TF Tryd.prog 135 false 1 := ⟨Tryd.isAgg135, Tryd.sizeOf135⟩
instance ti135 : TI Tryd.prog 135 (.nilFunc) 1 8 := TI.of (by kernel_rfl)
instance tf136 : TF Tryd.prog 136 false 1 := ⟨Tryd.isAgg136, Tryd.sizeOf136⟩
instance ti136 : TI Tryd.prog 136 (.nilFunc) 1 8 := TI.of (by kernel_rfl)
instance tf137 : TF Tryd.prog 137 false 1 := ⟨Tryd.isAgg137, Tryd.sizeOf137⟩
instance ti137 : TI Tryd.prog 137 (.nilFunc) 1 8 := TI.of (by kernel_rfl)
instance tf138 : TF Tryd.prog 138 true 2 := ⟨Tryd.isAgg138, Tryd.sizeOf138⟩
instance ti138 : TI Tryd.prog 138 (.agg #[.int .i64 0, .int .i64 0]) 2 16 := TI.of (by kernel_rfl)
instance tf139 : TF Tryd.prog 139 true 2 := ⟨Tryd.isAgg139, Tryd.sizeOf139⟩
instance ti139 : TI Tryd.prog 139 (.agg #[.int .i64 0, .int .i64 0]) 2 16 := TI.of (by kernel_rfl)
instance tf140 : TF Tryd.prog 140 false 1 := ⟨Tryd.isAgg140, Tryd.sizeOf140⟩
instance ti140 : TI Tryd.prog 140 (.nilFunc) 1 8 := TI.of (by kernel_rfl)
instance tf141 : TF Tryd.prog 141 false 1 := ⟨Tryd.isAgg141, Tryd.sizeOf141⟩
instance ti141 : TI Tryd.prog 141 (.nilFunc) 1 8 := TI.of (by kernel_rfl)
instance tf142 : TF Tryd.prog 142 false 1 := ⟨Tryd.isAgg142, Tryd.sizeOf142⟩
instance ti142 : TI Tryd.prog 142 (.nilFunc) 1 8 := TI.of (by kernel_rfl)
instance tf143 : TF Tryd.prog 143 false 1 := ⟨Tryd.isAgg143, Tryd.sizeOf143⟩
instance ti143 : TI Tryd.prog 143 (.nilFunc) 1 8 := TI.of (by kernel_rfl)
instance tf144 : TF Tryd.prog 144 false 1 := ⟨Tryd.isAgg144, Tryd.sizeOf144⟩
instance ti144 : TI Tryd.prog 144 (.int .i64 0) 1 8 := TI.of (by kernel_rfl)
instance is144 : IsInt Tryd.prog 144 .i64 := ⟨Tryd.underlying144⟩
instance tf146 : TF Tryd.prog 146 false 1 := ⟨Tryd.isAgg146, Tryd.sizeOf146⟩
instance ti146 : TI Tryd.prog 146 (.nilFunc) 1 8 := TI.of (by kernel_rfl)
instance tf147 : TF Tryd.prog 147 false 1 := ⟨Tryd.isAgg147, Tryd.sizeOf147⟩
instance ti147 : TI Tryd.prog 147 (.nilFunc) 1 8 := TI.of (by kernel_rfl)
instance tf148 : TF Tryd.prog 148 false 1 := ⟨Tryd.isAgg148, Tryd.sizeOf148⟩
instance ti148 : TI Tryd.prog 148 (.nilFunc) 1 8 := TI.of (by kernel_rfl)
instance tf149 : TF Tryd.prog 149 false 1 := ⟨Tryd.isAgg149, Tryd.sizeOf149⟩
instance ti149 : TI Tryd.prog 149 (.nilFunc) 1 8 := TI.of (by kernel_rfl)
instance tf150 : TF Tryd.prog 150 false 1 := ⟨Tryd.isAgg150, Tryd.sizeOf150⟩
instance ti150 : TI Tryd.prog 150 (.nilFunc) 1 8 := TI.of (by kernel_rfl)
instance tf151 : TF Tryd.prog 151 false 1 := ⟨Tryd.isAgg151, Tryd.sizeOf151⟩
instance ti151 : TI Tryd.prog 151 (.int .u32 0) 1 4 := TI.of (by kernel_rfl)
instance is151 : IsInt Tryd.prog 151 .u32 := ⟨Tryd.underlying151⟩
instance tf152 : TF Tryd.prog 152 false 1 := ⟨Tryd.isAgg152, Tryd.sizeOf152⟩
instance ti152 : TI Tryd.prog 152 (.nilFunc) 1 8 := TI.of (by kernel_rfl)
instance tf153 : TF Tryd.prog 153 false 1 := ⟨Tryd.isAgg153, Tryd.sizeOf153⟩
instance ti153 : TI Tryd.prog 153 (.int .u64 0) 1 8 := TI.of (by kernel_rfl)
instance is153 : IsInt Tryd.prog 153 .u64 := ⟨Tryd.underlying153⟩
instance tf154 : TF Tryd.prog 154 false 1 := ⟨Tryd.isAgg154, Tryd.sizeOf154⟩
instance ti154 : TI Tryd.prog 154 (.nilFunc) 1 8 := TI.of (by kernel_rfl)
instance tf155 : TF Tryd.prog 155 false 1 := ⟨Tryd.isAgg155, Tryd.sizeOf155⟩
instance ti155 : TI Tryd.prog 155 (.nilFunc) 1 8 := TI.of (by kernel_rfl)
instance tf156 : TF Tryd.prog 156 false 1 := ⟨Tryd.isAgg156, Tryd.sizeOf156⟩
instance ti156 : TI Tryd.prog 156 (.nilFunc) 1 8 := TI.of (by kernel_rfl)
instance tf157 : TF Tryd.prog 157 false 1 := ⟨Tryd.isAgg157, Tryd.sizeOf157⟩
instance ti157 : TI Tryd.prog 157 (.nilFunc) 1 8 := TI.of (by kernel_rfl)
instance tf159 : TF Tryd.prog 159 false 1 := ⟨Tryd.isAgg159, Tryd.sizeOf159⟩
instance ti159 : TI Tryd.prog 159 (.nilFunc) 1 8 := TI.of (by kernel_rfl)
instance tf160 : TF Tryd.prog 160 true 8 := ⟨Tryd.isAgg160, Tryd.sizeOf160⟩
instance ti160 : TI Tryd.prog 160 (.agg #[.nilFunc, .nilFunc, .nilFunc, .nilFunc, .nilFunc, .nilFunc, .nilFunc, .nilFunc]) 8 64 := TI.of (by kernel_rfl)
instance is160 : IsArr Tryd.prog 160 8 159 := ⟨Tryd.underlying160⟩
instance tf161 : TF Tryd.prog 161 false 1 := ⟨Tryd.isAgg161, Tryd.sizeOf161⟩
instance ti161 : TI Tryd.prog 161 (.nilFunc) 1 8 := TI.of (by kernel_rfl)
instance tf162 : TF Tryd.prog 162 false 1 := ⟨Tryd.isAgg162, Tryd.sizeOf162⟩
instance ti162 : TI Tryd.prog 162 (.nilFunc) 1 8 := TI.of (by kernel_rfl)
instance tf163 : TF Tryd.prog 163 false 1 := ⟨Tryd.isAgg163, Tryd.sizeOf163⟩
instance ti163 : TI Tryd.prog 163 (.nilFunc) 1 8 := TI.of (by kernel_rfl)
instance tf164 : TF Tryd.prog 164 false 1 := ⟨Tryd.isAgg164, Tryd.sizeOf164⟩
instance ti164 : TI Tryd.prog 164 (.nilFunc) 1 8 := TI.of (by kernel_rfl)
instance tf165 : TF Tryd.prog 165 false 1 := ⟨Tryd.isAgg165, Tryd.sizeOf165⟩
instance ti165 : TI Tryd.prog 165 (.nilFunc) 1 8 := TI.of (by kernel_rfl)
instance tf166 : TF Tryd.prog 166 false 1 := ⟨Tryd.isAgg166, Tryd.sizeOf166⟩
instance ti166 : TI Tryd.prog 166 (.nilFunc) 1 8 := TI.of (by kernel_rfl)
instance tf167 : TF Tryd.prog 167 false 1 := ⟨Tryd.isAgg167, Tryd.sizeOf167⟩
instance ti167 : TI Tryd.prog 167 (.int .u64 0) 1 8 := TI.of (by kernel_rfl)
instance is167 : IsInt Tryd.prog 167 .u64 := ⟨Tryd.underlying167⟩
instance tf168 : TF Tryd.prog 168 false 1 := ⟨Tryd.isAgg168, Tryd.sizeOf168⟩
instance ti168 : TI Tryd.prog 168 (.nilFunc) 1 8 := TI.of (by kernel_rfl)
instance tf169 : TF Tryd.prog 169 false 1 := ⟨Tryd.isAgg169, Tryd.sizeOf169⟩
instance ti169 : TI Tryd.prog 169 (.nilFunc) 1 8 := TI.of (by kernel_rfl)
instance tf170 : TF Tryd.prog 170 false 1 := ⟨Tryd.isAgg170, Tryd.sizeOf170⟩
instance ti170 : TI Tryd.prog 170 (.nilFunc) 1 8 := TI.of (by kernel_rfl)
instance tf171 : TF Tryd.prog 171 false 1 := ⟨Tryd.isAgg171, Tryd.sizeOf171⟩
instance ti171 : TI Tryd.prog 171 (.pointer none) 1 8 := TI.of (by kernel_rfl)
instance tf172 : TF Tryd.prog 172 false 1 := ⟨Tryd.isAgg172, Tryd.sizeOf172⟩
instance ti172 : TI Tryd.prog 172 (.nilFunc) 1 8 := TI.of (by kernel_rfl)
instance tf173 : TF Tryd.prog 173 false 1 := ⟨Tryd.isAgg173, Tryd.sizeOf173⟩
instance ti173 : TI Tryd.prog 173 (.nilFunc) 1 8 := TI.of (by kernel_rfl)
instance tf174 : TF Tryd.prog 174 false 1 := ⟨Tryd.isAgg174, Tryd.sizeOf174⟩
instance ti174 : TI Tryd.prog 174 (.nilFunc) 1 8 := TI.of (by kernel_rfl)
instance tf175 : TF Tryd.prog 175 false 1 := ⟨Tryd.isAgg175, Tryd.sizeOf175⟩
instance ti175 : TI Tryd.prog 175 (.nilFunc) 1 8 := TI.of (by kernel_rfl)
instance tf176 : TF Tryd.prog 176 false 1 := ⟨Tryd.isAgg176, Tryd.sizeOf176⟩
instance ti176 : TI Tryd.prog 176 (.nilFunc) 1 8 := TI.of (by kernel_rfl)
instance tf177 : TF Tryd.prog 177 false 1 := ⟨Tryd.isAgg177, Tryd.sizeOf177⟩
instance ti177 : TI Tryd.prog 177 (.nilFunc) 1 8 := TI.of (by kernel_rfl)
instance tf178 : TF Tryd.prog 178 false 1 := ⟨Tryd.isAgg178, Tryd.sizeOf178⟩
instance ti178 : TI Tryd.prog 178 (.nilFunc) 1 8 := TI.of (by kernel_rfl)
instance tf179 : TF Tryd.prog 179 false 1 := ⟨Tryd.isAgg179, Tryd.sizeOf179⟩
instance ti179 : TI Tryd.prog 179 (.pointer none) 1 8 := TI.of (by kernel_rfl)
instance tf181 : TF Tryd.prog 181 false 1 := ⟨Tryd.isAgg181, Tryd.sizeOf181⟩
instance ti181 : TI Tryd.prog 181 (.nilFunc) 1 8 := TI.of (by kernel_rfl)
instance tf182 : TF Tryd.prog 182 false 1 := ⟨Tryd.isAgg182, Tryd.sizeOf182⟩
instance ti182 : TI Tryd.prog 182 (.nilFunc) 1 8 := TI.of (by kernel_rfl)
instance tf183 : TF Tryd.prog 183 false 1 := ⟨Tryd.isAgg183, Tryd.sizeOf183⟩
instance ti183 : TI Tryd.prog 183 (.nilFunc) 1 8 := TI.of (by kernel_rfl)
instance tf189 : TF Tryd.prog 189 false 1 := ⟨Tryd.isAgg189, Tryd.sizeOf189⟩
instance ti189 : TI Tryd.prog 189 (.nilFunc) 1 8 := TI.of (by kernel_rfl)
instance tf192 : TF Tryd.prog 192 false 1 := ⟨Tryd.isAgg192, Tryd.sizeOf192⟩
instance ti192 : TI Tryd.prog 192 (.nilFunc) 1 8 := TI.of (by kernel_rfl)
instance tf193 : TF Tryd.prog 193 false 1 := ⟨Tryd.isAgg193, Tryd.sizeOf193⟩
instance ti193 : TI Tryd.prog 193 (.pointer none) 1 8 := TI.of (by kernel_rfl)
instance tf199 : TF Tryd.prog 199 false 1 := ⟨Tryd.isAgg199, Tryd.sizeOf199⟩
instance ti199 : TI Tryd.prog 199 (.nilFunc) 1 8 := TI.of (by kernel_rfl)
instance tf200 : TF Tryd.prog 200 false 1 := ⟨Tryd.isAgg200, Tryd.sizeOf200⟩
instance ti200 : TI Tryd.prog 200 (.nilFunc) 1 8 := TI.of (by kernel_rfl)
instance fa27_0 : FA Tryd.prog 27 0 0 := ⟨fun _ _ => by kernel_rfl⟩
instance fv27_0 : FV Tryd.prog 27 0 0 := ⟨fun cs v w h => by simp [Instr.field, run_underlying' Tryd.underlying27, asAgg, part, Tryd.isAgg3, h]⟩
instance fa27_1 : FA Tryd.prog 27 1 1 := ⟨fun _ _ => by kernel_rfl⟩
instance fv27_1 : FV Tryd.prog 27 1 1 := ⟨fun cs v w h => by simp [Instr.field, run_underlying' Tryd.underlying27, asAgg, part, Tryd.isAgg3, h]⟩
instance fa27_2 : FA Tryd.prog 27 2 2 := ⟨fun _ _ => by kernel_rfl⟩
instance fv27_2 : FV Tryd.prog 27 2 2 := ⟨fun cs v w h => by simp [Instr.field, run_underlying' Tryd.underlying27, asAgg, part, Tryd.isAgg3, h]⟩
instance fa27_3 : FA Tryd.prog 27 3 3 := ⟨fun _ _ => by kernel_rfl⟩
instance fv27_3 : FV Tryd.prog 27 3 3 := ⟨fun cs v w h => by simp [Instr.field, run_underlying' Tryd.underlying27, asAgg, part, Tryd.isAgg3, h]⟩
instance fa27_4 : FA Tryd.prog 27 4 4 := ⟨fun _ _ => by kernel_rfl⟩
instance fv27_4 : FV Tryd.prog 27 4 4 := ⟨fun cs v w h => by simp [Instr.field, run_underlying' Tryd.underlying27, asAgg, part, Tryd.isAgg3, h]⟩
instance fa28_0 : FA Tryd.prog 28 0 0 := ⟨fun _ _ => by kernel_rfl⟩
instance fv28_0 : FV Tryd.prog 28 0 0 := ⟨fun cs v w h => by simp [Instr.field, run_underlying' Tryd.underlying28, asAgg, part, Tryd.isAgg3, h]⟩
instance fa28_1 : FA Tryd.prog 28 1 1 := ⟨fun _ _ => by kernel_rfl⟩
instance fv28_1 : FV Tryd.prog 28 1 1 := ⟨fun cs v w h => by simp [Instr.field, run_underlying' Tryd.underlying28, asAgg, part, Tryd.isAgg3, h]⟩
instance fa28_2 : FA Tryd.prog 28 2 2 := ⟨fun _ _ => by kernel_rfl⟩
instance fv28_2 : FV Tryd.prog 28 2 2 := ⟨fun cs v w h => by simp [Instr.field, run_underlying' Tryd.underlying28, asAgg, part, Tryd.isAgg3, h]⟩
instance fa28_3 : FA Tryd.prog 28 3 3 := ⟨fun _ _ => by kernel_rfl⟩
instance fv28_3 : FV Tryd.prog 28 3 3 := ⟨fun cs v w h => by simp [Instr.field, run_underlying' Tryd.underlying28, asAgg, part, Tryd.isAgg3, h]⟩
instance fa28_4 : FA Tryd.prog 28 4 4 := ⟨fun _ _ => by kernel_rfl⟩
instance fv28_4 : FV Tryd.prog 28 4 4 := ⟨fun cs v w h => by simp [Instr.field, run_underlying' Tryd.underlying28, asAgg, part, Tryd.isAgg3, h]⟩
instance fa32_0 : FA Tryd.prog 32 0 0 := ⟨fun _ _ => by kernel_rfl⟩
instance fv32_0 : FV Tryd.prog 32 0 0 := ⟨fun cs v w h => by simp [Instr.field, run_underlying' Tryd.underlying32, asAgg, part, Tryd.isAgg3, h]⟩
instance fa32_1 : FA Tryd.prog 32 1 1 := ⟨fun _ _ => by kernel_rfl⟩
instance fv32_1 : FV Tryd.prog 32 1 1 := ⟨fun cs v w h => by simp [Instr.field, run_underlying' Tryd.underlying32, asAgg, part, Tryd.isAgg3, h]⟩
instance fa32_2 : FA Tryd.prog 32 2 2 := ⟨fun _ _ => by kernel_rfl⟩
instance fv32_2 : FV Tryd.prog 32 2 2 := ⟨fun cs v w h => by simp [Instr.field, run_underlying' Tryd.underlying32, asAgg, part, Tryd.isAgg3, h]⟩
instance fa32_3 : FA Tryd.prog 32 3 3 := ⟨fun _ _ => by kernel_rfl⟩
instance fv32_3 : FV Tryd.prog 32 3 3 := ⟨fun cs v w h => by simp [Instr.field, run_underlying' Tryd.underlying32, asAgg, part, Tryd.isAgg3, h]⟩
instance fa33_0 : FA Tryd.prog 33 0 0 := ⟨fun _ _ => by kernel_rfl⟩
instance fv33_0 : FV Tryd.prog 33 0 0 := ⟨fun cs v w h => by simp [Instr.field, run_underlying' Tryd.underlying33, asAgg, part, Tryd.isAgg3, h]⟩
instance fa33_1 : FA Tryd.prog 33 1 1 := ⟨fun _ _ => by kernel_rfl⟩
instance fv33_1 : FV Tryd.prog 33 1 1 := ⟨fun cs v w h => by simp [Instr.field, run_underlying' Tryd.underlying33, asAgg, part, Tryd.isAgg3, h]⟩
instance fa33_2 : FA Tryd.prog 33 2 2 := ⟨fun _ _ => by kernel_rfl⟩
instance fv33_2 : FV Tryd.prog 33 2 2 := ⟨fun cs v w h => by simp [Instr.field, run_underlying' Tryd.underlying33, asAgg, part, Tryd.isAgg3, h]⟩
instance fa33_3 : FA Tryd.prog 33 3 3 := ⟨fun _ _ => by kernel_rfl⟩
instance fv33_3 : FV Tryd.prog 33 3 3 := ⟨fun cs v w h => by simp [Instr.field, run_underlying' Tryd.underlying33, asAgg, part, Tryd.isAgg3, h]⟩
instance fa35_0 : FA Tryd.prog 35 0 0 := ⟨fun _ _ => by kernel_rfl⟩
instance fv35_0 : FV Tryd.prog 35 0 0 := ⟨fun cs v w h => by simp [Instr.field, run_underlying' Tryd.underlying35, asAgg, part, Tryd.isAgg3, h]⟩
instance fa35_1 : FA Tryd.prog 35 1 1 := ⟨fun _ _ => by kernel_rfl⟩
instance fv35_1 : FV Tryd.prog 35 1 1 := ⟨fun cs v w h => by simp [Instr.field, run_underlying' Tryd.underlying35, asAgg, part, Tryd.isAgg3, h]⟩
instance fa35_2 : FA Tryd.prog 35 2 2 := ⟨fun _ _ => by kernel_rfl⟩
instance fv35_2 : FV Tryd.prog 35 2 2 := ⟨fun cs v w h => by simp [Instr.field, run_underlying' Tryd.underlying35, asAgg, part, Tryd.isAgg3, h]⟩
instance fa35_3 : FA Tryd.prog 35 3 3 := ⟨fun _ _ => by kernel_rfl⟩
instance fv35_3 : FV Tryd.prog 35 3 3 := ⟨fun cs v w h => by simp [Instr.field, run_underlying' Tryd.underlying35, asAgg, part, Tryd.isAgg3, h]⟩
instance fa35_4 : FA Tryd.prog 35 4 4 := ⟨fun _ _ => by kernel_rfl⟩
instance fv35_4 : FV Tryd.prog 35 4 4 := ⟨fun cs v w h => by simp [Instr.field, run_underlying' Tryd.underlying35, asAgg, part, Tryd.isAgg3, h]⟩
instance fa35_5 : FA Tryd.prog 35 5 5 := ⟨fun _ _ => by kernel_rfl⟩
instance fv35_5 : FV Tryd.prog 35 5 5 := ⟨fun cs v w h => by simp [Instr.field, run_underlying' Tryd.underlying35, asAgg, part, Tryd.isAgg3, h]⟩
instance fa35_6 : FA Tryd.prog 35 6 6 := ⟨fun _ _ => by kernel_rfl⟩
instance fv35_6 : FV Tryd.prog 35 6 6 := ⟨fun cs v w h => by simp [Instr.field, run_underlying' Tryd.underlying35, asAgg, part, Tryd.isAgg3, h]⟩
instance fa36_0 : FA Tryd.prog 36 0 0 := ⟨fun _ _ => by kernel_rfl⟩
instance fv36_0 : FV Tryd.prog 36 0 0 := ⟨fun cs v w h => by simp [Instr.field, run_underlying' Tryd.underlying36, asAgg, part, Tryd.isAgg3, h]⟩
instance fa36_1 : FA Tryd.prog 36 1 1 := ⟨fun _ _ => by kernel_rfl⟩
instance fv36_1 : FV Tryd.prog 36 1 1 := ⟨fun cs v w h => by simp [Instr.field, run_underlying' Tryd.underlying36, asAgg, part, Tryd.isAgg3, h]⟩
instance fa36_2 : FA Tryd.prog 36 2 2 := ⟨fun _ _ => by kernel_rfl⟩
instance fv36_2 : FV Tryd.prog 36 2 2 := ⟨fun cs v w h => by simp [Instr.field, run_underlying' Tryd.underlying36, asAgg, part, Tryd.isAgg3, h]⟩
instance fa36_3 : FA Tryd.prog 36 3 3 := ⟨fun _ _ => by kernel_rfl⟩
instance fv36_3 : FV Tryd.prog 36 3 3 := ⟨fun cs v w h => by simp [Instr.field, run_underlying' Tryd.underlying36, asAgg, part, Tryd.isAgg3, h]⟩
instance fa36_4 : FA Tryd.prog 36 4 4 := ⟨fun _ _ => by kernel_rfl⟩
instance fv36_4 : FV Tryd.prog 36 4 4 := ⟨fun cs v w h => by simp [Instr.field, run_underlying' Tryd.underlying36, asAgg, part, Tryd.isAgg3, h]⟩
instance fa36_5 : FA Tryd.prog 36 5 5 := ⟨fun _ _ => by kernel_rfl⟩
instance fv36_5 : FV Tryd.prog 36 5 5 := ⟨fun cs v w h => by simp [Instr.field, run_underlying' Tryd.underlying36, asAgg, part, Tryd.isAgg3, h]⟩
instance fa36_6 : FA Tryd.prog 36 6 6 := ⟨fun _ _ => by kernel_rfl⟩
instance fv36_6 : FV Tryd.prog 36 6 6 := ⟨fun cs v w h => by simp [Instr.field, run_underlying' Tryd.underlying36, asAgg, part, Tryd.isAgg3, h]⟩
instance fa51_0 : FA Tryd.prog 51 0 0 := ⟨fun _ _ => by kernel_rfl⟩
instance fv51_0 : FV Tryd.prog 51 0 0 := ⟨fun cs v w h => by simp [Instr.field, run_underlying' Tryd.underlying51, asAgg, part, Tryd.isAgg3, h]⟩
instance fa51_1 : FA Tryd.prog 51 1 1 := ⟨fun _ _ => by kernel_rfl⟩
instance fv51_1 : FV Tryd.prog 51 1 1 := ⟨fun cs v w h => by simp [Instr.field, run_underlying' Tryd.underlying51, asAgg, part, Tryd.isAgg3, h]⟩
instance fa52_0 : FA Tryd.prog 52 0 0 := ⟨fun _ _ => by kernel_rfl⟩
instance fv52_0 : FV Tryd.prog 52 0 0 := ⟨fun cs v w h => by simp [Instr.field, run_underlying' Tryd.underlying52, asAgg, part, Tryd.isAgg3, h]⟩
instance fa52_1 : FA Tryd.prog 52 1 1 := ⟨fun _ _ => by kernel_rfl⟩
instance fv52_1 : FV Tryd.prog 52 1 1 := ⟨fun cs v w h => by simp [Instr.field, run_underlying' Tryd.underlying52, asAgg, part, Tryd.isAgg3, h]⟩
instance fa55_0 : FA Tryd.prog 55 0 0 := ⟨fun _ _ => by kernel_rfl⟩
instance fv55_0 : FV Tryd.prog 55 0 0 := ⟨fun cs v w h => by simp [Instr.field, run_underlying' Tryd.underlying55, asAgg, part, Tryd.isAgg3, h]⟩
instance fa55_1 : FA Tryd.prog 55 1 1 := ⟨fun _ _ => by kernel_rfl⟩
instance fv55_1 : FV Tryd.prog 55 1 1 := ⟨fun cs v w h => by simp [Instr.field, run_underlying' Tryd.underlying55, asAgg, part, Tryd.isAgg3, h]⟩
instance fa55_2 : FA Tryd.prog 55 2 2 := ⟨fun _ _ => by kernel_rfl⟩
instance fv55_2 : FV Tryd.prog 55 2 2 := ⟨fun cs v w h => by simp [Instr.field, run_underlying' Tryd.underlying55, asAgg, part, Tryd.isAgg3, h]⟩
instance fa56_0 : FA Tryd.prog 56 0 0 := ⟨fun _ _ => by kernel_rfl⟩
instance fv56_0 : FV Tryd.prog 56 0 0 := ⟨fun cs v w h => by simp [Instr.field, run_underlying' Tryd.underlying56, asAgg, part, Tryd.isAgg3, h]⟩
instance fa56_1 : FA Tryd.prog 56 1 1 := ⟨fun _ _ => by kernel_rfl⟩
instance fv56_1 : FV Tryd.prog 56 1 1 := ⟨fun cs v w h => by simp [Instr.field, run_underlying' Tryd.underlying56, asAgg, part, Tryd.isAgg3, h]⟩
instance fa56_2 : FA Tryd.prog 56 2 2 := ⟨fun _ _ => by kernel_rfl⟩
instance fv56_2 : FV Tryd.prog 56 2 2 := ⟨fun cs v w h => by simp [Instr.field, run_underlying' Tryd.underlying56, asAgg, part, Tryd.isAgg3, h]⟩
instance fa73_0 : FA Tryd.prog 73 0 0 := ⟨fun _ _ => by kernel_rfl⟩
instance fv73_0 : FV Tryd.prog 73 0 0 := ⟨fun cs v w h => by simp [Instr.field, run_underlying' Tryd.underlying73, asAgg, part, Tryd.isAgg3, h]⟩
instance fa73_1 : FA Tryd.prog 73 1 1 := ⟨fun _ _ => by kernel_rfl⟩
instance fv73_1 : FV Tryd.prog 73 1 1 := ⟨fun cs v w h => by simp [Instr.field, run_underlying' Tryd.underlying73, asAgg, part, Tryd.isAgg3, h]⟩
instance fa74_0 : FA Tryd.prog 74 0 0 := ⟨fun _ _ => by kernel_rfl⟩
instance fv74_0 : FV Tryd.prog 74 0 0 := ⟨fun cs v w h => by simp [Instr.field, run_underlying' Tryd.underlying74, asAgg, part, Tryd.isAgg3, h]⟩
instance fa74_1 : FA Tryd.prog 74 1 1 := ⟨fun _ _ => by kernel_rfl⟩
instance fv74_1 : FV Tryd.prog 74 1 1 := ⟨fun cs v w h => by simp [Instr.field, run_underlying' Tryd.underlying74, asAgg, part, Tryd.isAgg3, h]⟩
instance fa75_0 : FA Tryd.prog 75 0 0 := ⟨fun _ _ => by kernel_rfl⟩
instance fv75_0 : FV Tryd.prog 75 0 0 := ⟨fun cs v w h => by simp [Instr.field, run_underlying' Tryd.underlying75, asAgg, part, Tryd.isAgg3, h]⟩
instance fa75_1 : FA Tryd.prog 75 1 1 := ⟨fun _ _ => by kernel_rfl⟩
instance fv75_1 : FV Tryd.prog 75 1 1 := ⟨fun cs v w h => by simp [Instr.field, run_underlying' Tryd.underlying75, asAgg, part, Tryd.isAgg3, h]⟩
instance fa75_2 : FA Tryd.prog 75 2 2 := ⟨fun _ _ => by kernel_rfl⟩
instance fv75_2 : FV Tryd.prog 75 2 2 := ⟨fun cs v w h => by simp [Instr.field, run_underlying' Tryd.underlying75, asAgg, part, Tryd.isAgg3, h]⟩
instance fa75_3 : FA Tryd.prog 75 3 3 := ⟨fun _ _ => by kernel_rfl⟩
instance fv75_3 : FV Tryd.prog 75 3 3 := ⟨fun cs v w h => by simp [Instr.field, run_underlying' Tryd.underlying75, asAgg, part, Tryd.isAgg3, h]⟩
instance fa75_4 : FA Tryd.prog 75 4 4 := ⟨fun _ _ => by kernel_rfl⟩
instance fv75_4 : FV Tryd.prog 75 4 4 := ⟨fun cs v w h => by simp [Instr.field, run_underlying' Tryd.underlying75, asAgg, part, Tryd.isAgg3, h]⟩
instance fa75_5 : FA Tryd.prog 75 5 5 := ⟨fun _ _ => by kernel_rfl⟩
instance fv75_5 : FV Tryd.prog 75 5 5 := ⟨fun cs v w h => by simp [Instr.field, run_underlying' Tryd.underlying75, asAgg, part, Tryd.isAgg3, h]⟩
instance fa75_6 : FA Tryd.prog 75 6 6 := ⟨fun _ _ => by kernel_rfl⟩
instance fv75_6 : FV Tryd.prog 75 6 6 := ⟨fun cs v w h => by simp [Instr.field, run_underlying' Tryd.underlying75, asAgg, part, Tryd.isAgg3, h]⟩
instance fa75_7 : FA Tryd.prog 75 7 7 := ⟨fun _ _ => by kernel_rfl⟩
instance fv75_7 : FV Tryd.prog 75 7 7 := ⟨fun cs v w h => by simp [Instr.field, run_underlying' Tryd.underlying75, asAgg, part, Tryd.isAgg3, h]⟩
instance fa75_8 : FA Tryd.prog 75 8 8 := ⟨fun _ _ => by kernel_rfl⟩
instance fv75_8 : FVA Tryd.prog 75 8 8 7 := ⟨fun cs w => by simp [Instr.field, run_underlying' Tryd.underlying75, asAgg, part, Tryd.isAgg72, Tryd.sizeOf72]⟩
instance fa75_9 : FA Tryd.prog 75 9 15 := ⟨fun _ _ => by kernel_rfl⟩
instance fv75_9 : FVA Tryd.prog 75 9 15 2 := ⟨fun cs w => by simp [Instr.field, run_underlying' Tryd.underlying75, asAgg, part, Tryd.isAgg74, Tryd.sizeOf74]⟩
instance fa76_0 : FA Tryd.prog 76 0 0 := ⟨fun _ _ => by kernel_rfl⟩
instance fv76_0 : FV Tryd.prog 76 0 0 := ⟨fun cs v w h => by simp [Instr.field, run_underlying' Tryd.underlying76, asAgg, part, Tryd.isAgg3, h]⟩
instance fa76_1 : FA Tryd.prog 76 1 1 := ⟨fun _ _ => by kernel_rfl⟩
instance fv76_1 : FV Tryd.prog 76 1 1 := ⟨fun cs v w h => by simp [Instr.field, run_underlying' Tryd.underlying76, asAgg, part, Tryd.isAgg3, h]⟩
instance fa76_2 : FA Tryd.prog 76 2 2 := ⟨fun _ _ => by kernel_rfl⟩
instance fv76_2 : FV Tryd.prog 76 2 2 := ⟨fun cs v w h => by simp [Instr.field, run_underlying' Tryd.underlying76, asAgg, part, Tryd.isAgg3, h]⟩
instance fa76_3 : FA Tryd.prog 76 3 3 := ⟨fun _ _ => by kernel_rfl⟩
instance fv76_3 : FV Tryd.prog 76 3 3 := ⟨fun cs v w h => by simp [Instr.field, run_underlying' Tryd.underlying76, asAgg, part, Tryd.isAgg3, h]⟩
instance fa76_4 : FA Tryd.prog 76 4 4 := ⟨fun _ _ => by kernel_rfl⟩
instance fv76_4 : FV Tryd.prog 76 4 4 := ⟨fun cs v w h => by simp [Instr.field, run_underlying' Tryd.underlying76, asAgg, part, Tryd.isAgg3, h]⟩
instance fa76_5 : FA Tryd.prog 76 5 5 := ⟨fun _ _ => by kernel_rfl⟩
instance fv76_5 : FV Tryd.prog 76 5 5 := ⟨fun cs v w h => by simp [Instr.field, run_underlying' Tryd.underlying76, asAgg, part, Tryd.isAgg3, h]⟩
instance fa76_6 : FA Tryd.prog 76 6 6 := ⟨fun _ _ => by kernel_rfl⟩
instance fv76_6 : FV Tryd.prog 76 6 6 := ⟨fun cs v w h => by simp [Instr.field, run_underlying' Tryd.underlying76, asAgg, part, Tryd.isAgg3, h]⟩
instance fa76_7 : FA Tryd.prog 76 7 7 := ⟨fun _ _ => by kernel_rfl⟩
instance fv76_7 : FV Tryd.prog 76 7 7 := ⟨fun cs v w h => by simp [Instr.field, run_underlying' Tryd.underlying76, asAgg, part, Tryd.isAgg3, h]⟩
instance fa76_8 : FA Tryd.prog 76 8 8 := ⟨fun _ _ => by kernel_rfl⟩
instance fv76_8 : FVA Tryd.prog 76 8 8 7 := ⟨fun cs w => by simp [Instr.field, run_underlying' Tryd.underlying76, asAgg, part, Tryd.isAgg72, Tryd.sizeOf72]⟩
instance fa76_9 : FA Tryd.prog 76 9 15 := ⟨fun _ _ => by kernel_rfl⟩
instance fv76_9 : FVA Tryd.prog 76 9 15 2 := ⟨fun cs w => by simp [Instr.field, run_underlying' Tryd.underlying76, asAgg, part, Tryd.isAgg74, Tryd.sizeOf74]⟩
instance fa77_0 : FA Tryd.prog 77 0 0 := ⟨fun _ _ => by kernel_rfl⟩
instance fv77_0 : FV Tryd.prog 77 0 0 := ⟨fun cs v w h => by simp [Instr.field, run_underlying' Tryd.underlying77, asAgg, part, Tryd.isAgg3, h]⟩
instance fa77_1 : FA Tryd.prog 77 1 1 := ⟨fun _ _ => by kernel_rfl⟩
instance fv77_1 : FV Tryd.prog 77 1 1 := ⟨fun cs v w h => by simp [Instr.field, run_underlying' Tryd.underlying77, asAgg, part, Tryd.isAgg3, h]⟩
instance fa78_0 : FA Tryd.prog 78 0 0 := ⟨fun _ _ => by kernel_rfl⟩
instance fv78_0 : FV Tryd.prog 78 0 0 := ⟨fun cs v w h => by simp [Instr.field, run_underlying' Tryd.underlying78, asAgg, part, Tryd.isAgg3, h]⟩
instance fa78_1 : FA Tryd.prog 78 1 1 := ⟨fun _ _ => by kernel_rfl⟩
instance fv78_1 : FV Tryd.prog 78 1 1 := ⟨fun cs v w h => by simp [Instr.field, run_underlying' Tryd.underlying78, asAgg, part, Tryd.isAgg3, h]⟩
instance fa86_0 : FA Tryd.prog 86 0 0 := ⟨fun _ _ => by kernel_rfl⟩
instance fv86_0 : FVA Tryd.prog 86 0 0 200 := ⟨fun cs w => by simp [Instr.field, run_underlying' Tryd.underlying86, asAgg, part, Tryd.isAgg85, Tryd.sizeOf85]⟩
instance fa86_1 : FA Tryd.prog 86 1 200 := ⟨fun _ _ => by kernel_rfl⟩
instance fv86_1 : FV Tryd.prog 86 1 200 := ⟨fun cs v w h => by simp [Instr.field, run_underlying' Tryd.underlying86, asAgg, part, Tryd.isAgg26, h]⟩
instance fa86_2 : FA Tryd.prog 86 2 201 := ⟨fun _ _ => by kernel_rfl⟩
instance fv86_2 : FVA Tryd.prog 86 2 201 5 := ⟨fun cs w => by simp [Instr.field, run_underlying' Tryd.underlying86, asAgg, part, Tryd.isAgg28, Tryd.sizeOf28]⟩
instance fa87_0 : FA Tryd.prog 87 0 0 := ⟨fun _ _ => by kernel_rfl⟩
instance fv87_0 : FVA Tryd.prog 87 0 0 200 := ⟨fun cs w => by simp [Instr.field, run_underlying' Tryd.underlying87, asAgg, part, Tryd.isAgg85, Tryd.sizeOf85]⟩
instance fa87_1 : FA Tryd.prog 87 1 200 := ⟨fun _ _ => by kernel_rfl⟩
instance fv87_1 : FV Tryd.prog 87 1 200 := ⟨fun cs v w h => by simp [Instr.field, run_underlying' Tryd.underlying87, asAgg, part, Tryd.isAgg26, h]⟩
instance fa87_2 : FA Tryd.prog 87 2 201 := ⟨fun _ _ => by kernel_rfl⟩
instance fv87_2 : FVA Tryd.prog 87 2 201 5 := ⟨fun cs w => by simp [Instr.field, run_underlying' Tryd.underlying87, asAgg, part, Tryd.isAgg28, Tryd.sizeOf28]⟩
instance fa92_0 : FA Tryd.prog 92 0 0 := ⟨fun _ _ => by kernel_rfl⟩
instance fv92_0 : FV Tryd.prog 92 0 0 := ⟨fun cs v w h => by simp [Instr.field, run_underlying' Tryd.underlying92, asAgg, part, Tryd.isAgg90, h]⟩
instance fa92_1 : FA Tryd.prog 92 1 1 := ⟨fun _ _ => by kernel_rfl⟩
instance fv92_1 : FV Tryd.prog 92 1 1 := ⟨fun cs v w h => by simp [Instr.field, run_underlying' Tryd.underlying92, asAgg, part, Tryd.isAgg91, h]⟩
instance fa92_2 : FA Tryd.prog 92 2 2 := ⟨fun _ _ => by kernel_rfl⟩
instance fv92_2 : FV Tryd.prog 92 2 2 := ⟨fun cs v w h => by simp [Instr.field, run_underlying' Tryd.underlying92, asAgg, part, Tryd.isAgg3, h]⟩
instance fa92_3 : FA Tryd.prog 92 3 3 := ⟨fun _ _ => by kernel_rfl⟩
instance fv92_3 : FVA Tryd.prog 92 3 3 5 := ⟨fun cs w => by simp [Instr.field, run_underlying' Tryd.underlying92, asAgg, part, Tryd.isAgg28, Tryd.sizeOf28]⟩
instance fa93_0 : FA Tryd.prog 93 0 0 := ⟨fun _ _ => by kernel_rfl⟩
instance fv93_0 : FV Tryd.prog 93 0 0 := ⟨fun cs v w h => by simp [Instr.field, run_underlying' Tryd.underlying93, asAgg, part, Tryd.isAgg90, h]⟩
instance fa93_1 : FA Tryd.prog 93 1 1 := ⟨fun _ _ => by kernel_rfl⟩
instance fv93_1 : FV Tryd.prog 93 1 1 := ⟨fun cs v w h => by simp [Instr.field, run_underlying' Tryd.underlying93, asAgg, part, Tryd.isAgg91, h]⟩
instance fa93_2 : FA Tryd.prog 93 2 2 := ⟨fun _ _ => by kernel_rfl⟩
instance fv93_2 : FV Tryd.prog 93 2 2 := ⟨fun cs v w h => by simp [Instr.field, run_underlying' Tryd.underlying93, asAgg, part, Tryd.isAgg3, h]⟩
instance fa93_3 : FA Tryd.prog 93 3 3 := ⟨fun _ _ => by kernel_rfl⟩
instance fv93_3 : FVA Tryd.prog 93 3 3 5 := ⟨fun cs w => by simp [Instr.field, run_underlying' Tryd.underlying93, asAgg, part, Tryd.isAgg28, Tryd.sizeOf28]⟩
instance fa119_0 : FA Tryd.prog 119 0 0 := ⟨fun _ _ => by kernel_rfl⟩
instance fv119_0 : FV Tryd.prog 119 0 0 := ⟨fun cs v w h => by simp [Instr.field, run_underlying' Tryd.underlying119, asAgg, part, Tryd.isAgg117, h]⟩
instance fa119_1 : FA Tryd.prog 119 1 1 := ⟨fun _ _ => by kernel_rfl⟩
instance fv119_1 : FV Tryd.prog 119 1 1 := ⟨fun cs v w h => by simp [Instr.field, run_underlying' Tryd.underlying119, asAgg, part, Tryd.isAgg118, h]⟩
instance fa120_0 : FA Tryd.prog 120 0 0 := ⟨fun _ _ => by kernel_rfl⟩
instance fv120_0 : FV Tryd.prog 120 0 0 := ⟨fun cs v w h => by simp [Instr.field, run_underlying' Tryd.underlying120, asAgg, part, Tryd.isAgg117, h]⟩
instance fa120_1 : FA Tryd.prog 120 1 1 := ⟨fun _ _ => by kernel_rfl⟩
instance fv120_1 : FV Tryd.prog 120 1 1 := ⟨fun cs v w h => by simp [Instr.field, run_underlying' Tryd.underlying120, asAgg, part, Tryd.isAgg118, h]⟩
instance fa133_0 : FA Tryd.prog 133 0 0 := ⟨fun _ _ => by kernel_rfl⟩
instance fv133_0 : FV Tryd.prog 133 0 0 := ⟨fun cs v w h => by simp [Instr.field, run_underlying' Tryd.underlying133, asAgg, part, Tryd.isAgg130, h]⟩
instance fa133_1 : FA Tryd.prog 133 1 1 := ⟨fun _ _ => by kernel_rfl⟩
instance fv133_1 : FV Tryd.prog 133 1 1 := ⟨fun cs v w h => by simp [Instr.field, run_underlying' Tryd.underlying133, asAgg, part, Tryd.isAgg131, h]⟩
instance fa133_2 : FA Tryd.prog 133 2 2 := ⟨fun _ _ => by kernel_rfl⟩
instance fv133_2 : FV Tryd.prog 133 2 2 := ⟨fun cs v w h => by simp [Instr.field, run_underlying' Tryd.underlying133, asAgg, part, Tryd.isAgg105, h]⟩
instance fa133_3 : FA Tryd.prog 133 3 3 := ⟨fun _ _ => by kernel_rfl⟩
instance fv133_3 : FV Tryd.prog 133 3 3 := ⟨fun cs v w h => by simp [Instr.field, run_underlying' Tryd.underlying133, asAgg, part, Tryd.isAgg132, h]⟩
instance fa134_0 : FA Tryd.prog 134 0 0 := ⟨fun _ _ => by kernel_rfl⟩
instance fv134_0 : FV Tryd.prog 134 0 0 := ⟨fun cs v w h => by simp [Instr.field, run_underlying' Tryd.underlying134, asAgg, part, Tryd.isAgg130, h]⟩
instance fa134_1 : FA Tryd.prog 134 1 1 := ⟨fun _ _ => by kernel_rfl⟩
instance fv134_1 : FV Tryd.prog 134 1 1 := ⟨fun cs v w h => by simp [Instr.field, run_underlying' Tryd.underlying134, asAgg, part, Tryd.isAgg131, h]⟩
instance fa134_2 : FA Tryd.prog 134 2 2 := ⟨fun _ _ => by kernel_rfl⟩
instance fv134_2 : FV Tryd.prog 134 2 2 := ⟨fun cs v w h => by simp [Instr.field, run_underlying' Tryd.underlying134, asAgg, part, Tryd.isAgg105, h]⟩
instance fa134_3 : FA Tryd.prog 134 3 3 := ⟨fun _ _ => by kernel_rfl⟩
instance fv134_3 : FV Tryd.prog 134 3 3 := ⟨fun cs v w h => by simp [Instr.field, run_underlying' Tryd.underlying134, asAgg, part, Tryd.isAgg132, h]⟩
instance fa138_0 : FA Tryd.prog 138 0 0 := ⟨fun _ _ => by kernel_rfl⟩
instance fv138_0 : FV Tryd.prog 138 0 0 := ⟨fun cs v w h => by simp [Instr.field, run_underlying' Tryd.underlying138, asAgg, part, Tryd.isAgg3, h]⟩
instance fa138_1 : FA Tryd.prog 138 1 1 := ⟨fun _ _ => by kernel_rfl⟩
instance fv138_1 : FV Tryd.prog 138 1 1 := ⟨fun cs v w h => by simp [Instr.field, run_underlying' Tryd.underlying138, asAgg, part, Tryd.isAgg3, h]⟩
instance fa139_0 : FA Tryd.prog 139 0 0 := ⟨fun _ _ => by kernel_rfl⟩
instance fv139_0 : FV Tryd.prog 139 0 0 := ⟨fun cs v w h => by simp [Instr.field, run_underlying' Tryd.underlying139, asAgg, part, Tryd.isAgg3, h]⟩
instance fa139_1 : FA Tryd.prog 139 1 1 := ⟨fun _ _ => by kernel_rfl⟩
instance fv139_1 : FV Tryd.prog 139 1 1 := ⟨fun cs v w h => by simp [Instr.field, run_underlying' Tryd.underlying139, asAgg, part, Tryd.isAgg3, h]⟩
instance en3 : Go.Gx.Enters Tryd.prog 3 := Go.Gx.Enters.of Tryd.func3 (by rfl) (by decide)   -- aircheck/airchecklaw14.DebtLost
instance en4 : Go.Gx.Enters Tryd.prog 4 := Go.Gx.Enters.of Tryd.func4 (by rfl) (by decide)   -- aircheck/airchecklaw14.DebtFirst
instance en5 : Go.Gx.Enters Tryd.prog 5 := Go.Gx.Enters.of Tryd.func5 (by rfl) (by decide)   -- aircheck/airchecklaw14.DebtDeadlines
instance en6 : Go.Gx.Enters Tryd.prog 6 := Go.Gx.Enters.of Tryd.func6 (by rfl) (by decide)   -- aircheck/airchecklaw14.DebtCertificates
instance en7 : Go.Gx.Enters Tryd.prog 7 := Go.Gx.Enters.of Tryd.func7 (by rfl) (by decide)   -- aircheck/airchecklaw14.DebtMost
instance en8 : Go.Gx.Enters Tryd.prog 8 := Go.Gx.Enters.of Tryd.func8 (by rfl) (by decide)   -- aircheck/airchecklaw14.DebtRoom
instance en9 : Go.Gx.Enters Tryd.prog 9 := Go.Gx.Enters.of Tryd.func9 (by rfl) (by decide)   -- aircheck/airchecklaw14.DebtPromised
instance en10 : Go.Gx.Enters Tryd.prog 10 := Go.Gx.Enters.of Tryd.func10 (by rfl) (by decide)   -- aircheck/airchecklaw14.sane
instance en11 : Go.Gx.Enters Tryd.prog 11 := Go.Gx.Enters.of Tryd.func11 (by rfl) (by decide)   -- aircheck/aircheckref14.Deeds
instance en12 : Go.Gx.Enters Tryd.prog 12 := Go.Gx.Enters.of Tryd.func12 (by rfl) (by decide)   -- aircheck/debt.Fold
instance en13 : Go.Gx.Enters Tryd.prog 13 := Go.Gx.Enters.of Tryd.func13 (by rfl) (by decide)   -- aircheck/airchecklaw14.pick
instance en14 : Go.Gx.Enters Tryd.prog 14 := Go.Gx.Enters.of Tryd.func14 (by rfl) (by decide)   -- aircheck/aircheckref14.Debts
instance en15 : Go.Gx.Enters Tryd.prog 15 := Go.Gx.Enters.of Tryd.func15 (by rfl) (by decide)   -- aircheck/aircheckref14.Openings
instance en16 : Go.Gx.Enters Tryd.prog 16 := Go.Gx.Enters.of Tryd.func16 (by rfl) (by decide)   -- aircheck/debt.Plan
instance en17 : Go.Gx.Enters Tryd.prog 17 := Go.Gx.Enters.of Tryd.func17 (by rfl) (by decide)   -- aircheck/debt.Lack
instance en18 : Go.Gx.Enters Tryd.prog 18 := Go.Gx.Enters.of Tryd.func18 (by rfl) (by decide)   -- aircheck/debt.Check
instance en19 : Go.Gx.Enters Tryd.prog 19 := Go.Gx.Enters.of Tryd.func19 (by rfl) (by decide)   -- aircheck/aircheckref14.Servings
instance en20 : Go.Gx.Enters Tryd.prog 20 := Go.Gx.Enters.of Tryd.func20 (by rfl) (by decide)   -- aircheck/aircheckref14.Good
instance en21 : Go.Gx.Enters Tryd.prog 21 := Go.Gx.Enters.of Tryd.func21 (by rfl) (by decide)   -- aircheck/airchecklaw14.total
instance en22 : Go.Gx.Enters Tryd.prog 22 := Go.Gx.Enters.of Tryd.func22 (by rfl) (by decide)   -- aircheck/aircheckref12.Made
instance en23 : Go.Gx.Enters Tryd.prog 23 := Go.Gx.Enters.of Tryd.func23 (by rfl) (by decide)   -- aircheck/aircheckref12.Spots
instance en24 : Go.Gx.Enters Tryd.prog 24 := Go.Gx.Enters.of Tryd.func24 (by rfl) (by decide)   -- aircheck/contract.Counted
instance en25 : Go.Gx.Enters Tryd.prog 25 := Go.Gx.Enters.of Tryd.func25 (by rfl) (by decide)   -- aircheck/debt.Owe
instance en26 : Go.Gx.Enters Tryd.prog 26 := Go.Gx.Enters.of Tryd.func26 (by rfl) (by decide)   -- aircheck/airchecklaw14.example
instance en27 : Go.Gx.Enters Tryd.prog 27 := Go.Gx.Enters.of Tryd.func27 (by rfl) (by decide)   -- aircheck/aircheckref14.SameServings
instance en28 : Go.Gx.Enters Tryd.prog 28 := Go.Gx.Enters.of Tryd.func28 (by rfl) (by decide)   -- aircheck/aircheckref14.Same
instance en29 : Go.Gx.Enters Tryd.prog 29 := Go.Gx.Enters.of Tryd.func29 (by rfl) (by decide)   -- aircheck/debt.Valid
instance en30 : Go.Gx.Enters Tryd.prog 30 := Go.Gx.Enters.of Tryd.func30 (by rfl) (by decide)   -- aircheck/aircheckref14.pick
instance en31 : Go.Gx.Enters Tryd.prog 31 := Go.Gx.Enters.of Tryd.func31 (by rfl) (by decide)   -- (ptr aircheck/aircheckref14.books).do
instance en32 : Go.Gx.Enters Tryd.prog 32 := Go.Gx.Enters.of Tryd.func32 (by rfl) (by decide)   -- slices.IndexFunc[[]aircheck/api.Deed,aircheck/api.Deed]
instance en33 : Go.Gx.Enters Tryd.prog 33 := Go.Gx.Enters.of Tryd.func33 (by rfl) (by decide)   -- (ptr aircheck/debt.books).wrong
instance en34 : Go.Gx.Enters Tryd.prog 34 := Go.Gx.Enters.of Tryd.func34 (by rfl) (by decide)   -- slices.Sorted[int]
instance en35 : Go.Gx.Enters Tryd.prog 35 := Go.Gx.Enters.of Tryd.func35 (by rfl) (by decide)   -- maps.Keys[map[int]aircheck/api.Debt,int,aircheck/api.Debt]
instance en36 : Go.Gx.Enters Tryd.prog 36 := Go.Gx.Enters.of Tryd.func36 (by rfl) (by decide)   -- slices.Clone[[]aircheck/api.Debt,aircheck/api.Debt]
instance en37 : Go.Gx.Enters Tryd.prog 37 := Go.Gx.Enters.of Tryd.func37 (by rfl) (by decide)   -- slices.SortStableFunc[[]aircheck/api.Debt,aircheck/api.Debt]
instance en38 : Go.Gx.Enters Tryd.prog 38 := Go.Gx.Enters.of Tryd.func38 (by rfl) (by decide)   -- aircheck/debt.Plan$1
instance en39 : Go.Gx.Enters Tryd.prog 39 := Go.Gx.Enters.of Tryd.func39 (by rfl) (by decide)   -- cmp.Compare[int]
instance en40 : Go.Gx.Enters Tryd.prog 40 := Go.Gx.Enters.of Tryd.func40 (by rfl) (by decide)   -- slices.SortFunc[[]aircheck/api.Debt,aircheck/api.Debt]
instance en41 : Go.Gx.Enters Tryd.prog 41 := Go.Gx.Enters.of Tryd.func41 (by rfl) (by decide)   -- aircheck/debt.Lack$1
instance en42 : Go.Gx.Enters Tryd.prog 42 := Go.Gx.Enters.of Tryd.func42 (by rfl) (by decide)   -- aircheck/aircheckref12.pick
instance en43 : Go.Gx.Enters Tryd.prog 43 := Go.Gx.Enters.of Tryd.func43 (by rfl) (by decide)   -- aircheck/contract.count
instance en44 : Go.Gx.Enters Tryd.prog 44 := Go.Gx.Enters.of Tryd.func44 (by rfl) (by decide)   -- aircheck/contract.Missing
instance en45 : Go.Gx.Enters Tryd.prog 45 := Go.Gx.Enters.of Tryd.func45 (by rfl) (by decide)   -- aircheck/debt.between
instance en46 : Go.Gx.Enters Tryd.prog 46 := Go.Gx.Enters.of Tryd.func46 (by rfl) (by decide)   -- aircheck/aircheckref14.in
instance en47 : Go.Gx.Enters Tryd.prog 47 := Go.Gx.Enters.of Tryd.func47 (by rfl) (by decide)   -- (ptr aircheck/aircheckref14.books).fresh
instance en48 : Go.Gx.Enters Tryd.prog 48 := Go.Gx.Enters.of Tryd.func48 (by rfl) (by decide)   -- (ptr aircheck/aircheckref14.books).put
instance en49 : Go.Gx.Enters Tryd.prog 49 := Go.Gx.Enters.of Tryd.func49 (by rfl) (by decide)   -- (ptr aircheck/aircheckref14.books).find
instance en50 : Go.Gx.Enters Tryd.prog 50 := Go.Gx.Enters.of Tryd.func50 (by rfl) (by decide)   -- (ptr aircheck/aircheckref14.books).less
instance en51 : Go.Gx.Enters Tryd.prog 51 := Go.Gx.Enters.of Tryd.func51 (by rfl) (by decide)   -- slices.Collect[int]
instance en52 : Go.Gx.Enters Tryd.prog 52 := Go.Gx.Enters.of Tryd.func52 (by rfl) (by decide)   -- slices.Sort[[]int,int]
instance en53 : Go.Gx.Enters Tryd.prog 53 := Go.Gx.Enters.of Tryd.func53 (by rfl) (by decide)   -- maps.Keys[map[int]aircheck/api.Debt,int,aircheck/api.Debt]$1
instance en54 : Go.Gx.Enters Tryd.prog 54 := Go.Gx.Enters.of Tryd.func54 (by rfl) (by decide)   -- slices.stableCmpFunc[aircheck/api.Debt]
instance en55 : Go.Gx.Enters Tryd.prog 55 := Go.Gx.Enters.of Tryd.func55 (by rfl) (by decide)   -- cmp.isNaN[int]
instance en56 : Go.Gx.Enters Tryd.prog 56 := Go.Gx.Enters.of Tryd.func56 (by rfl) (by decide)   -- slices.pdqsortCmpFunc[aircheck/api.Debt]
instance en57 : Go.Gx.Enters Tryd.prog 57 := Go.Gx.Enters.of Tryd.func57 (by rfl) (by decide)   -- math/bits.Len
instance en58 : Go.Gx.Enters Tryd.prog 58 := Go.Gx.Enters.of Tryd.func58 (by rfl) (by decide)   -- aircheck/contract.Valid
instance en59 : Go.Gx.Enters Tryd.prog 59 := Go.Gx.Enters.of Tryd.func59 (by rfl) (by decide)   -- aircheck/contract.ValidSpots
instance en60 : Go.Gx.Enters Tryd.prog 60 := Go.Gx.Enters.of Tryd.func60 (by rfl) (by decide)   -- slices.SortStableFunc[[]int,int]
instance en61 : Go.Gx.Enters Tryd.prog 61 := Go.Gx.Enters.of Tryd.func61 (by rfl) (by decide)   -- aircheck/contract.count$1
instance en62 : Go.Gx.Enters Tryd.prog 62 := Go.Gx.Enters.of Tryd.func62 (by rfl) (by decide)   -- cmp.Or[int]
instance en63 : Go.Gx.Enters Tryd.prog 63 := Go.Gx.Enters.of Tryd.func63 (by rfl) (by decide)   -- (ptr aircheck/contract.tally).reason
instance en64 : Go.Gx.Enters Tryd.prog 64 := Go.Gx.Enters.of Tryd.func64 (by rfl) (by decide)   -- aircheck/contract.on
instance en65 : Go.Gx.Enters Tryd.prog 65 := Go.Gx.Enters.of Tryd.func65 (by rfl) (by decide)   -- aircheck/contract.between
instance en66 : Go.Gx.Enters Tryd.prog 66 := Go.Gx.Enters.of Tryd.func66 (by rfl) (by decide)   -- slices.AppendSeq[[]int,int]
instance en67 : Go.Gx.Enters Tryd.prog 67 := Go.Gx.Enters.of Tryd.func67 (by rfl) (by decide)   -- slices.pdqsortOrdered[int]
instance en68 : Go.Gx.Enters Tryd.prog 68 := Go.Gx.Enters.of Tryd.func68 (by rfl) (by decide)   -- slices.insertionSortCmpFunc[aircheck/api.Debt]
instance en69 : Go.Gx.Enters Tryd.prog 69 := Go.Gx.Enters.of Tryd.func69 (by rfl) (by decide)   -- slices.symMergeCmpFunc[aircheck/api.Debt]
instance en70 : Go.Gx.Enters Tryd.prog 70 := Go.Gx.Enters.of Tryd.func70 (by rfl) (by decide)   -- slices.heapSortCmpFunc[aircheck/api.Debt]
instance en71 : Go.Gx.Enters Tryd.prog 71 := Go.Gx.Enters.of Tryd.func71 (by rfl) (by decide)   -- slices.breakPatternsCmpFunc[aircheck/api.Debt]
instance en72 : Go.Gx.Enters Tryd.prog 72 := Go.Gx.Enters.of Tryd.func72 (by rfl) (by decide)   -- slices.choosePivotCmpFunc[aircheck/api.Debt]
instance en73 : Go.Gx.Enters Tryd.prog 73 := Go.Gx.Enters.of Tryd.func73 (by rfl) (by decide)   -- slices.reverseRangeCmpFunc[aircheck/api.Debt]
instance en74 : Go.Gx.Enters Tryd.prog 74 := Go.Gx.Enters.of Tryd.func74 (by rfl) (by decide)   -- slices.partialInsertionSortCmpFunc[aircheck/api.Debt]
instance en75 : Go.Gx.Enters Tryd.prog 75 := Go.Gx.Enters.of Tryd.func75 (by rfl) (by decide)   -- slices.partitionEqualCmpFunc[aircheck/api.Debt]
instance en76 : Go.Gx.Enters Tryd.prog 76 := Go.Gx.Enters.of Tryd.func76 (by rfl) (by decide)   -- slices.partitionCmpFunc[aircheck/api.Debt]
instance en77 : Go.Gx.Enters Tryd.prog 77 := Go.Gx.Enters.of Tryd.func77 (by rfl) (by decide)   -- math/bits.Len32
instance en78 : Go.Gx.Enters Tryd.prog 78 := Go.Gx.Enters.of Tryd.func78 (by rfl) (by decide)   -- math/bits.Len64
instance en79 : Go.Gx.Enters Tryd.prog 79 := Go.Gx.Enters.of Tryd.func79 (by rfl) (by decide)   -- aircheck/contract.right
instance en80 : Go.Gx.Enters Tryd.prog 80 := Go.Gx.Enters.of Tryd.func80 (by rfl) (by decide)   -- slices.ContainsFunc[[]aircheck/api.Spot,aircheck/api.Spot]
instance en81 : Go.Gx.Enters Tryd.prog 81 := Go.Gx.Enters.of Tryd.func81 (by rfl) (by decide)   -- aircheck/contract.ValidSpots$1
instance en82 : Go.Gx.Enters Tryd.prog 82 := Go.Gx.Enters.of Tryd.func82 (by rfl) (by decide)   -- aircheck/contract.good
instance en83 : Go.Gx.Enters Tryd.prog 83 := Go.Gx.Enters.of Tryd.func83 (by rfl) (by decide)   -- slices.stableCmpFunc[int]
instance en84 : Go.Gx.Enters Tryd.prog 84 := Go.Gx.Enters.of Tryd.func84 (by rfl) (by decide)   -- slices.insertionSortOrdered[int]
instance en85 : Go.Gx.Enters Tryd.prog 85 := Go.Gx.Enters.of Tryd.func85 (by rfl) (by decide)   -- slices.heapSortOrdered[int]
instance en86 : Go.Gx.Enters Tryd.prog 86 := Go.Gx.Enters.of Tryd.func86 (by rfl) (by decide)   -- slices.breakPatternsOrdered[int]
instance en87 : Go.Gx.Enters Tryd.prog 87 := Go.Gx.Enters.of Tryd.func87 (by rfl) (by decide)   -- slices.choosePivotOrdered[int]
instance en88 : Go.Gx.Enters Tryd.prog 88 := Go.Gx.Enters.of Tryd.func88 (by rfl) (by decide)   -- slices.reverseRangeOrdered[int]
instance en89 : Go.Gx.Enters Tryd.prog 89 := Go.Gx.Enters.of Tryd.func89 (by rfl) (by decide)   -- slices.partialInsertionSortOrdered[int]
instance en90 : Go.Gx.Enters Tryd.prog 90 := Go.Gx.Enters.of Tryd.func90 (by rfl) (by decide)   -- cmp.Less[int]
instance en91 : Go.Gx.Enters Tryd.prog 91 := Go.Gx.Enters.of Tryd.func91 (by rfl) (by decide)   -- slices.partitionEqualOrdered[int]
instance en92 : Go.Gx.Enters Tryd.prog 92 := Go.Gx.Enters.of Tryd.func92 (by rfl) (by decide)   -- slices.partitionOrdered[int]
instance en93 : Go.Gx.Enters Tryd.prog 93 := Go.Gx.Enters.of Tryd.func93 (by rfl) (by decide)   -- slices.rotateCmpFunc[aircheck/api.Debt]
instance en94 : Go.Gx.Enters Tryd.prog 94 := Go.Gx.Enters.of Tryd.func94 (by rfl) (by decide)   -- slices.siftDownCmpFunc[aircheck/api.Debt]
instance en95 : Go.Gx.Enters Tryd.prog 95 := Go.Gx.Enters.of Tryd.func95 (by rfl) (by decide)   -- slices.nextPowerOfTwo
instance en96 : Go.Gx.Enters Tryd.prog 96 := Go.Gx.Enters.of Tryd.func96 (by rfl) (by decide)   -- (ptr slices.xorshift).Next
instance en97 : Go.Gx.Enters Tryd.prog 97 := Go.Gx.Enters.of Tryd.func97 (by rfl) (by decide)   -- slices.medianAdjacentCmpFunc[aircheck/api.Debt]
instance en98 : Go.Gx.Enters Tryd.prog 98 := Go.Gx.Enters.of Tryd.func98 (by rfl) (by decide)   -- slices.medianCmpFunc[aircheck/api.Debt]
instance en99 : Go.Gx.Enters Tryd.prog 99 := Go.Gx.Enters.of Tryd.func99 (by rfl) (by decide)   -- aircheck/week.Valid
instance en100 : Go.Gx.Enters Tryd.prog 100 := Go.Gx.Enters.of Tryd.func100 (by rfl) (by decide)   -- slices.IndexFunc[[]aircheck/api.Spot,aircheck/api.Spot]
instance en101 : Go.Gx.Enters Tryd.prog 101 := Go.Gx.Enters.of Tryd.func101 (by rfl) (by decide)   -- slices.insertionSortCmpFunc[int]
instance en102 : Go.Gx.Enters Tryd.prog 102 := Go.Gx.Enters.of Tryd.func102 (by rfl) (by decide)   -- slices.symMergeCmpFunc[int]
instance en103 : Go.Gx.Enters Tryd.prog 103 := Go.Gx.Enters.of Tryd.func103 (by rfl) (by decide)   -- slices.siftDownOrdered[int]
instance en104 : Go.Gx.Enters Tryd.prog 104 := Go.Gx.Enters.of Tryd.func104 (by rfl) (by decide)   -- slices.medianAdjacentOrdered[int]
instance en105 : Go.Gx.Enters Tryd.prog 105 := Go.Gx.Enters.of Tryd.func105 (by rfl) (by decide)   -- slices.medianOrdered[int]
instance en106 : Go.Gx.Enters Tryd.prog 106 := Go.Gx.Enters.of Tryd.func106 (by rfl) (by decide)   -- slices.swapRangeCmpFunc[aircheck/api.Debt]
instance en107 : Go.Gx.Enters Tryd.prog 107 := Go.Gx.Enters.of Tryd.func107 (by rfl) (by decide)   -- slices.order2CmpFunc[aircheck/api.Debt]
instance en108 : Go.Gx.Enters Tryd.prog 108 := Go.Gx.Enters.of Tryd.func108 (by rfl) (by decide)   -- slices.rotateCmpFunc[int]
instance en109 : Go.Gx.Enters Tryd.prog 109 := Go.Gx.Enters.of Tryd.func109 (by rfl) (by decide)   -- slices.order2Ordered[int]
instance en110 : Go.Gx.Enters Tryd.prog 110 := Go.Gx.Enters.of Tryd.func110 (by rfl) (by decide)   -- slices.swapRangeCmpFunc[int]
instance en126 : Go.Gx.Enters Tryd.prog 126 := Go.Gx.Enters.of Tryd.func126 (by rfl) (by decide)   -- (ptr aircheck/debt.books).fresh
instance en128 : Go.Gx.Enters Tryd.prog 128 := Go.Gx.Enters.of Tryd.func128 (by rfl) (by decide)   -- aircheck/debt.kinds$1
instance en129 : Go.Gx.Enters Tryd.prog 129 := Go.Gx.Enters.of Tryd.func129 (by rfl) (by decide)   -- aircheck/debt.kinds$2
instance en130 : Go.Gx.Enters Tryd.prog 130 := Go.Gx.Enters.of Tryd.func130 (by rfl) (by decide)   -- (ptr aircheck/debt.books).put
instance en131 : Go.Gx.Enters Tryd.prog 131 := Go.Gx.Enters.of Tryd.func131 (by rfl) (by decide)   -- aircheck/debt.kinds$3
instance en132 : Go.Gx.Enters Tryd.prog 132 := Go.Gx.Enters.of Tryd.func132 (by rfl) (by decide)   -- (ptr aircheck/debt.books).has
instance en133 : Go.Gx.Enters Tryd.prog 133 := Go.Gx.Enters.of Tryd.func133 (by rfl) (by decide)   -- aircheck/debt.kinds$4
instance en134 : Go.Gx.Enters Tryd.prog 134 := Go.Gx.Enters.of Tryd.func134 (by rfl) (by decide)   -- (ptr aircheck/debt.books).less
instance en135 : Go.Gx.Enters Tryd.prog 135 := Go.Gx.Enters.of Tryd.func135 (by rfl) (by decide)   -- aircheck/debt.kinds$5
instance en136 : Go.Gx.Enters Tryd.prog 136 := Go.Gx.Enters.of Tryd.func136 (by rfl) (by decide)   -- aircheck/debt.kinds$6
instance en137 : Go.Gx.Enters Tryd.prog 137 := Go.Gx.Enters.of Tryd.func137 (by rfl) (by decide)   -- aircheck/debt.kinds$7
instance en138 : Go.Gx.Enters Tryd.prog 138 := Go.Gx.Enters.of Tryd.func138 (by rfl) (by decide)   -- aircheck/debt.kinds$8
instance en139 : Go.Gx.Enters Tryd.prog 139 := Go.Gx.Enters.of Tryd.func139 (by rfl) (by decide)   -- aircheck/contract.tests$1
instance en140 : Go.Gx.Enters Tryd.prog 140 := Go.Gx.Enters.of Tryd.func140 (by rfl) (by decide)   -- aircheck/contract.tests$2
instance en141 : Go.Gx.Enters Tryd.prog 141 := Go.Gx.Enters.of Tryd.func141 (by rfl) (by decide)   -- aircheck/week.In
instance en142 : Go.Gx.Enters Tryd.prog 142 := Go.Gx.Enters.of Tryd.func142 (by rfl) (by decide)   -- aircheck/contract.tests$3
instance en143 : Go.Gx.Enters Tryd.prog 143 := Go.Gx.Enters.of Tryd.func143 (by rfl) (by decide)   -- aircheck/contract.tests$4
instance en144 : Go.Gx.Enters Tryd.prog 144 := Go.Gx.Enters.of Tryd.func144 (by rfl) (by decide)   -- aircheck/contract.tests$5
instance en145 : Go.Gx.Enters Tryd.prog 145 := Go.Gx.Enters.of Tryd.func145 (by rfl) (by decide)   -- aircheck/contract.tests$6
instance en146 : Go.Gx.Enters Tryd.prog 146 := Go.Gx.Enters.of Tryd.func146 (by rfl) (by decide)   -- aircheck/week.has
instance en151 : Go.Gx.Enters Tryd.prog 151 := Go.Gx.Enters.of Tryd.func151 (by rfl) (by decide)   -- gosem.cut.vars
structure GSums where
  Owed : Int
  Served : Int
  Moved : Int
  Paid : Int
  Open : Int
  deriving DecidableEq, Inhabited
def GSums.enc (x : GSums) : List Value := [.int .i64 x.Owed, .int .i64 x.Served, .int .i64 x.Moved, .int .i64 x.Paid, .int .i64 x.Open]
structure GDebt where
  ID : Int
  Contract : Int
  Count : Int
  Due : Int
  deriving DecidableEq, Inhabited
def GDebt.enc (x : GDebt) : List Value := [.int .i64 x.ID, .int .i64 x.Contract, .int .i64 x.Count, .int .i64 x.Due]
def fGDebt : Flat GDebt := ⟨4, GDebt.enc, fun _ => rfl⟩
structure GArr5Int where
  a0 : Int
  a1 : Int
  a2 : Int
  a3 : Int
  a4 : Int
  deriving DecidableEq, Inhabited
def GArr5Int.enc (x : GArr5Int) : List Value := [.int .i64 x.a0, .int .i64 x.a1, .int .i64 x.a2, .int .i64 x.a3, .int .i64 x.a4]
structure GDeed where
  Kind : Int
  ID : Int
  To : Int
  Contract : Int
  Count : Int
  Due : Int
  At : Int
  deriving DecidableEq, Inhabited
def GDeed.enc (x : GDeed) : List Value := [.int .i64 x.Kind, .int .i64 x.ID, .int .i64 x.To, .int .i64 x.Contract, .int .i64 x.Count, .int .i64 x.Due, .int .i64 x.At]
def fGDeed : Flat GDeed := ⟨7, GDeed.enc, fun _ => rfl⟩
structure GOpening where
  At : Int
  Count : Int
  deriving DecidableEq, Inhabited
def GOpening.enc (x : GOpening) : List Value := [.int .i64 x.At, .int .i64 x.Count]
def fGOpening : Flat GOpening := ⟨2, GOpening.enc, fun _ => rfl⟩
structure GServing where
  Debt : Int
  At : Int
  Count : Int
  deriving DecidableEq, Inhabited
def GServing.enc (x : GServing) : List Value := [.int .i64 x.Debt, .int .i64 x.At, .int .i64 x.Count]
def fGServing : Flat GServing := ⟨3, GServing.enc, fun _ => rfl⟩
structure GWeek where
  a0 : Int
  a1 : Int
  a2 : Int
  a3 : Int
  a4 : Int
  a5 : Int
  a6 : Int
  deriving DecidableEq, Inhabited
def GWeek.enc (x : GWeek) : List Value := [.int .i64 x.a0, .int .i64 x.a1, .int .i64 x.a2, .int .i64 x.a3, .int .i64 x.a4, .int .i64 x.a5, .int .i64 x.a6]
structure GSpell where
  From : Int
  To : Int
  deriving DecidableEq, Inhabited
def GSpell.enc (x : GSpell) : List Value := [.int .i64 x.From, .int .i64 x.To]
structure GContract where
  ID : Int
  Sponsor : Int
  Category : Int
  Item : Int
  Count : Int
  PerDay : Int
  Gap : Int
  Price : Int
  Week : GWeek
  Window : GSpell
  deriving DecidableEq, Inhabited
def GContract.enc (x : GContract) : List Value := [.int .i64 x.ID, .int .i64 x.Sponsor, .int .i64 x.Category, .int .i64 x.Item, .int .i64 x.Count, .int .i64 x.PerDay, .int .i64 x.Gap, .int .i64 x.Price, .int .i64 x.Week.a0, .int .i64 x.Week.a1, .int .i64 x.Week.a2, .int .i64 x.Week.a3, .int .i64 x.Week.a4, .int .i64 x.Week.a5, .int .i64 x.Week.a6, .int .i64 x.Window.From, .int .i64 x.Window.To]
def fGContract : Flat GContract := ⟨17, GContract.enc, fun _ => rfl⟩
structure GSpot where
  Contract : Int
  At : Int
  deriving DecidableEq, Inhabited
def GSpot.enc (x : GSpot) : List Value := [.int .i64 x.Contract, .int .i64 x.At]
def fGSpot : Flat GSpot := ⟨2, GSpot.enc, fun _ => rfl⟩
structure GArr3Int where
  a0 : Int
  a1 : Int
  a2 : Int
  deriving DecidableEq, Inhabited
def GArr3Int.enc (x : GArr3Int) : List Value := [.int .i64 x.a0, .int .i64 x.a1, .int .i64 x.a2]
structure GArr2Int where
  a0 : Int
  a1 : Int
  deriving DecidableEq, Inhabited
def GArr2Int.enc (x : GArr2Int) : List Value := [.int .i64 x.a0, .int .i64 x.a1]
def fGArr2Int : Flat GArr2Int := ⟨2, GArr2Int.enc, fun _ => rfl⟩
structure GArr8Int where
  a0 : Int
  a1 : Int
  a2 : Int
  a3 : Int
  a4 : Int
  a5 : Int
  a6 : Int
  a7 : Int
  deriving DecidableEq, Inhabited
def GArr8Int.enc (x : GArr8Int) : List Value := [.int .i64 x.a0, .int .i64 x.a1, .int .i64 x.a2, .int .i64 x.a3, .int .i64 x.a4, .int .i64 x.a5, .int .i64 x.a6, .int .i64 x.a7]
def fGArr8Int : Flat GArr8Int := ⟨8, GArr8Int.enc, fun _ => rfl⟩
structure GDay where
  contract : Int
  day : Int
  deriving DecidableEq, Inhabited
def GDay.enc (x : GDay) : List Value := [.int .i64 x.contract, .int .i64 x.day]
theorem bd28_ {ρ : Operand → Value} {w : World} {d : Option Tmp} {ty : TypeId} {pos : String} {af : Array Edge} {g : Option (Nat × Bool)}    : Runs Tryd.prog ρ ⟨d, .build 28 #[], ty, pos, af, g⟩ w (.ok (.value (.agg #[.int .i64 0, .int .i64 0, .int .i64 0, .int .i64 0, .int .i64 0])) w) := ⟨by
  have e : (Instr.build 28 #[]).run Tryd.prog w = .ok (.agg #[.int .i64 0, .int .i64 0, .int .i64 0, .int .i64 0, .int .i64 0]) w := by kernel_rfl
  simp only [execOp, List.map_toArray, List.map_cons, List.map_nil]
  exact run_bind e⟩
-- BUILD 28 bd28_ 0
theorem bd28_0_1_2_3_4 {ρ : Operand → Value} {w : World} {d : Option Tmp} {ty : TypeId} {pos : String} {af : Array Edge} {g : Option (Nat × Bool)} {a0 a1 a2 a3 a4 : Operand} {x0 : Int} {x1 : Int} {x2 : Int} {x3 : Int} {x4 : Int} (h0 : ρ a0 = .int .i64 x0) (h1 : ρ a1 = .int .i64 x1) (h2 : ρ a2 = .int .i64 x2) (h3 : ρ a3 = .int .i64 x3) (h4 : ρ a4 = .int .i64 x4) : Runs Tryd.prog ρ ⟨d, .build 28 #[(0, a0), (1, a1), (2, a2), (3, a3), (4, a4)], ty, pos, af, g⟩ w (.ok (.value (.agg #[.int .i64 x0, .int .i64 x1, .int .i64 x2, .int .i64 x3, .int .i64 x4])) w) := ⟨by
  have e : (Instr.build 28 #[(0, .int .i64 x0), (1, .int .i64 x1), (2, .int .i64 x2), (3, .int .i64 x3), (4, .int .i64 x4)]).run Tryd.prog w = .ok (.agg #[.int .i64 x0, .int .i64 x1, .int .i64 x2, .int .i64 x3, .int .i64 x4]) w := by kernel_rfl
  simp only [execOp, List.map_toArray, List.map_cons, List.map_nil, h0, h1, h2, h3, h4]
  exact run_bind e⟩
-- BUILD 28 bd28_0_1_2_3_4 5
theorem bd33_0_1_2_3 {ρ : Operand → Value} {w : World} {d : Option Tmp} {ty : TypeId} {pos : String} {af : Array Edge} {g : Option (Nat × Bool)} {a0 a1 a2 a3 : Operand} {x0 : Int} {x1 : Int} {x2 : Int} {x3 : Int} (h0 : ρ a0 = .int .i64 x0) (h1 : ρ a1 = .int .i64 x1) (h2 : ρ a2 = .int .i64 x2) (h3 : ρ a3 = .int .i64 x3) : Runs Tryd.prog ρ ⟨d, .build 33 #[(0, a0), (1, a1), (2, a2), (3, a3)], ty, pos, af, g⟩ w (.ok (.value (.agg #[.int .i64 x0, .int .i64 x1, .int .i64 x2, .int .i64 x3])) w) := ⟨by
  have e : (Instr.build 33 #[(0, .int .i64 x0), (1, .int .i64 x1), (2, .int .i64 x2), (3, .int .i64 x3)]).run Tryd.prog w = .ok (.agg #[.int .i64 x0, .int .i64 x1, .int .i64 x2, .int .i64 x3]) w := by kernel_rfl
  simp only [execOp, List.map_toArray, List.map_cons, List.map_nil, h0, h1, h2, h3]
  exact run_bind e⟩
-- BUILD 33 bd33_0_1_2_3 4
theorem bd36_0_1_2_3_4_6 {ρ : Operand → Value} {w : World} {d : Option Tmp} {ty : TypeId} {pos : String} {af : Array Edge} {g : Option (Nat × Bool)} {a0 a1 a2 a3 a4 a5 : Operand} {x0 : Int} {x1 : Int} {x2 : Int} {x3 : Int} {x4 : Int} {x5 : Int} (h0 : ρ a0 = .int .i64 x0) (h1 : ρ a1 = .int .i64 x1) (h2 : ρ a2 = .int .i64 x2) (h3 : ρ a3 = .int .i64 x3) (h4 : ρ a4 = .int .i64 x4) (h5 : ρ a5 = .int .i64 x5) : Runs Tryd.prog ρ ⟨d, .build 36 #[(0, a0), (1, a1), (2, a2), (3, a3), (4, a4), (6, a5)], ty, pos, af, g⟩ w (.ok (.value (.agg #[.int .i64 x0, .int .i64 x1, .int .i64 x2, .int .i64 x3, .int .i64 x4, .int .i64 0, .int .i64 x5])) w) := ⟨by
  have e : (Instr.build 36 #[(0, .int .i64 x0), (1, .int .i64 x1), (2, .int .i64 x2), (3, .int .i64 x3), (4, .int .i64 x4), (6, .int .i64 x5)]).run Tryd.prog w = .ok (.agg #[.int .i64 x0, .int .i64 x1, .int .i64 x2, .int .i64 x3, .int .i64 x4, .int .i64 0, .int .i64 x5]) w := by kernel_rfl
  simp only [execOp, List.map_toArray, List.map_cons, List.map_nil, h0, h1, h2, h3, h4, h5]
  exact run_bind e⟩
-- BUILD 36 bd36_0_1_2_3_4_6 6
theorem bd36_0_1_3_4_5 {ρ : Operand → Value} {w : World} {d : Option Tmp} {ty : TypeId} {pos : String} {af : Array Edge} {g : Option (Nat × Bool)} {a0 a1 a2 a3 a4 : Operand} {x0 : Int} {x1 : Int} {x2 : Int} {x3 : Int} {x4 : Int} (h0 : ρ a0 = .int .i64 x0) (h1 : ρ a1 = .int .i64 x1) (h2 : ρ a2 = .int .i64 x2) (h3 : ρ a3 = .int .i64 x3) (h4 : ρ a4 = .int .i64 x4) : Runs Tryd.prog ρ ⟨d, .build 36 #[(0, a0), (1, a1), (3, a2), (4, a3), (5, a4)], ty, pos, af, g⟩ w (.ok (.value (.agg #[.int .i64 x0, .int .i64 x1, .int .i64 0, .int .i64 x2, .int .i64 x3, .int .i64 x4, .int .i64 0])) w) := ⟨by
  have e : (Instr.build 36 #[(0, .int .i64 x0), (1, .int .i64 x1), (3, .int .i64 x2), (4, .int .i64 x3), (5, .int .i64 x4)]).run Tryd.prog w = .ok (.agg #[.int .i64 x0, .int .i64 x1, .int .i64 0, .int .i64 x2, .int .i64 x3, .int .i64 x4, .int .i64 0]) w := by kernel_rfl
  simp only [execOp, List.map_toArray, List.map_cons, List.map_nil, h0, h1, h2, h3, h4]
  exact run_bind e⟩
-- BUILD 36 bd36_0_1_3_4_5 5
theorem bd36_0_1_3_4_5_6 {ρ : Operand → Value} {w : World} {d : Option Tmp} {ty : TypeId} {pos : String} {af : Array Edge} {g : Option (Nat × Bool)} {a0 a1 a2 a3 a4 a5 : Operand} {x0 : Int} {x1 : Int} {x2 : Int} {x3 : Int} {x4 : Int} {x5 : Int} (h0 : ρ a0 = .int .i64 x0) (h1 : ρ a1 = .int .i64 x1) (h2 : ρ a2 = .int .i64 x2) (h3 : ρ a3 = .int .i64 x3) (h4 : ρ a4 = .int .i64 x4) (h5 : ρ a5 = .int .i64 x5) : Runs Tryd.prog ρ ⟨d, .build 36 #[(0, a0), (1, a1), (3, a2), (4, a3), (5, a4), (6, a5)], ty, pos, af, g⟩ w (.ok (.value (.agg #[.int .i64 x0, .int .i64 x1, .int .i64 0, .int .i64 x2, .int .i64 x3, .int .i64 x4, .int .i64 x5])) w) := ⟨by
  have e : (Instr.build 36 #[(0, .int .i64 x0), (1, .int .i64 x1), (3, .int .i64 x2), (4, .int .i64 x3), (5, .int .i64 x4), (6, .int .i64 x5)]).run Tryd.prog w = .ok (.agg #[.int .i64 x0, .int .i64 x1, .int .i64 0, .int .i64 x2, .int .i64 x3, .int .i64 x4, .int .i64 x5]) w := by kernel_rfl
  simp only [execOp, List.map_toArray, List.map_cons, List.map_nil, h0, h1, h2, h3, h4, h5]
  exact run_bind e⟩
-- BUILD 36 bd36_0_1_3_4_5_6 6
theorem bd36_0_1_4_6 {ρ : Operand → Value} {w : World} {d : Option Tmp} {ty : TypeId} {pos : String} {af : Array Edge} {g : Option (Nat × Bool)} {a0 a1 a2 a3 : Operand} {x0 : Int} {x1 : Int} {x2 : Int} {x3 : Int} (h0 : ρ a0 = .int .i64 x0) (h1 : ρ a1 = .int .i64 x1) (h2 : ρ a2 = .int .i64 x2) (h3 : ρ a3 = .int .i64 x3) : Runs Tryd.prog ρ ⟨d, .build 36 #[(0, a0), (1, a1), (4, a2), (6, a3)], ty, pos, af, g⟩ w (.ok (.value (.agg #[.int .i64 x0, .int .i64 x1, .int .i64 0, .int .i64 0, .int .i64 x2, .int .i64 0, .int .i64 x3])) w) := ⟨by
  have e : (Instr.build 36 #[(0, .int .i64 x0), (1, .int .i64 x1), (4, .int .i64 x2), (6, .int .i64 x3)]).run Tryd.prog w = .ok (.agg #[.int .i64 x0, .int .i64 x1, .int .i64 0, .int .i64 0, .int .i64 x2, .int .i64 0, .int .i64 x3]) w := by kernel_rfl
  simp only [execOp, List.map_toArray, List.map_cons, List.map_nil, h0, h1, h2, h3]
  exact run_bind e⟩
-- BUILD 36 bd36_0_1_4_6 4
theorem bd52_0_1 {ρ : Operand → Value} {w : World} {d : Option Tmp} {ty : TypeId} {pos : String} {af : Array Edge} {g : Option (Nat × Bool)} {a0 a1 : Operand} {x0 : Int} {x1 : Int} (h0 : ρ a0 = .int .i64 x0) (h1 : ρ a1 = .int .i64 x1) : Runs Tryd.prog ρ ⟨d, .build 52 #[(0, a0), (1, a1)], ty, pos, af, g⟩ w (.ok (.value (.agg #[.int .i64 x0, .int .i64 x1])) w) := ⟨by
  have e : (Instr.build 52 #[(0, .int .i64 x0), (1, .int .i64 x1)]).run Tryd.prog w = .ok (.agg #[.int .i64 x0, .int .i64 x1]) w := by kernel_rfl
  simp only [execOp, List.map_toArray, List.map_cons, List.map_nil, h0, h1]
  exact run_bind e⟩
-- BUILD 52 bd52_0_1 2
theorem bd56_0_1_2 {ρ : Operand → Value} {w : World} {d : Option Tmp} {ty : TypeId} {pos : String} {af : Array Edge} {g : Option (Nat × Bool)} {a0 a1 a2 : Operand} {x0 : Int} {x1 : Int} {x2 : Int} (h0 : ρ a0 = .int .i64 x0) (h1 : ρ a1 = .int .i64 x1) (h2 : ρ a2 = .int .i64 x2) : Runs Tryd.prog ρ ⟨d, .build 56 #[(0, a0), (1, a1), (2, a2)], ty, pos, af, g⟩ w (.ok (.value (.agg #[.int .i64 x0, .int .i64 x1, .int .i64 x2])) w) := ⟨by
  have e : (Instr.build 56 #[(0, .int .i64 x0), (1, .int .i64 x1), (2, .int .i64 x2)]).run Tryd.prog w = .ok (.agg #[.int .i64 x0, .int .i64 x1, .int .i64 x2]) w := by kernel_rfl
  simp only [execOp, List.map_toArray, List.map_cons, List.map_nil, h0, h1, h2]
  exact run_bind e⟩
-- BUILD 56 bd56_0_1_2 3
theorem bd76_ {ρ : Operand → Value} {w : World} {d : Option Tmp} {ty : TypeId} {pos : String} {af : Array Edge} {g : Option (Nat × Bool)}    : Runs Tryd.prog ρ ⟨d, .build 76 #[], ty, pos, af, g⟩ w (.ok (.value (.agg #[.int .i64 0, .int .i64 0, .int .i64 0, .int .i64 0, .int .i64 0, .int .i64 0, .int .i64 0, .int .i64 0, .int .i64 0, .int .i64 0, .int .i64 0, .int .i64 0, .int .i64 0, .int .i64 0, .int .i64 0, .int .i64 0, .int .i64 0])) w) := ⟨by
  have e : (Instr.build 76 #[]).run Tryd.prog w = .ok (.agg #[.int .i64 0, .int .i64 0, .int .i64 0, .int .i64 0, .int .i64 0, .int .i64 0, .int .i64 0, .int .i64 0, .int .i64 0, .int .i64 0, .int .i64 0, .int .i64 0, .int .i64 0, .int .i64 0, .int .i64 0, .int .i64 0, .int .i64 0]) w := by kernel_rfl
  simp only [execOp, List.map_toArray, List.map_cons, List.map_nil]
  exact run_bind e⟩
-- BUILD 76 bd76_ 0
theorem bd76_0_1_2_3_4_6_7 {ρ : Operand → Value} {w : World} {d : Option Tmp} {ty : TypeId} {pos : String} {af : Array Edge} {g : Option (Nat × Bool)} {a0 a1 a2 a3 a4 a5 a6 : Operand} {x0 : Int} {x1 : Int} {x2 : Int} {x3 : Int} {x4 : Int} {x5 : Int} {x6 : Int} (h0 : ρ a0 = .int .i64 x0) (h1 : ρ a1 = .int .i64 x1) (h2 : ρ a2 = .int .i64 x2) (h3 : ρ a3 = .int .i64 x3) (h4 : ρ a4 = .int .i64 x4) (h5 : ρ a5 = .int .i64 x5) (h6 : ρ a6 = .int .i64 x6) : Runs Tryd.prog ρ ⟨d, .build 76 #[(0, a0), (1, a1), (2, a2), (3, a3), (4, a4), (6, a5), (7, a6)], ty, pos, af, g⟩ w (.ok (.value (.agg #[.int .i64 x0, .int .i64 x1, .int .i64 x2, .int .i64 x3, .int .i64 x4, .int .i64 0, .int .i64 x5, .int .i64 x6, .int .i64 0, .int .i64 0, .int .i64 0, .int .i64 0, .int .i64 0, .int .i64 0, .int .i64 0, .int .i64 0, .int .i64 0])) w) := ⟨by
  have e : (Instr.build 76 #[(0, .int .i64 x0), (1, .int .i64 x1), (2, .int .i64 x2), (3, .int .i64 x3), (4, .int .i64 x4), (6, .int .i64 x5), (7, .int .i64 x6)]).run Tryd.prog w = .ok (.agg #[.int .i64 x0, .int .i64 x1, .int .i64 x2, .int .i64 x3, .int .i64 x4, .int .i64 0, .int .i64 x5, .int .i64 x6, .int .i64 0, .int .i64 0, .int .i64 0, .int .i64 0, .int .i64 0, .int .i64 0, .int .i64 0, .int .i64 0, .int .i64 0]) w := by kernel_rfl
  simp only [execOp, List.map_toArray, List.map_cons, List.map_nil, h0, h1, h2, h3, h4, h5, h6]
  exact run_bind e⟩
-- BUILD 76 bd76_0_1_2_3_4_6_7 7
theorem bd78_0_1 {ρ : Operand → Value} {w : World} {d : Option Tmp} {ty : TypeId} {pos : String} {af : Array Edge} {g : Option (Nat × Bool)} {a0 a1 : Operand} {x0 : Int} {x1 : Int} (h0 : ρ a0 = .int .i64 x0) (h1 : ρ a1 = .int .i64 x1) : Runs Tryd.prog ρ ⟨d, .build 78 #[(0, a0), (1, a1)], ty, pos, af, g⟩ w (.ok (.value (.agg #[.int .i64 x0, .int .i64 x1])) w) := ⟨by
  have e : (Instr.build 78 #[(0, .int .i64 x0), (1, .int .i64 x1)]).run Tryd.prog w = .ok (.agg #[.int .i64 x0, .int .i64 x1]) w := by kernel_rfl
  simp only [execOp, List.map_toArray, List.map_cons, List.map_nil, h0, h1]
  exact run_bind e⟩
-- BUILD 78 bd78_0_1 2
theorem bd93_0_1 {ρ : Operand → Value} {w : World} {d : Option Tmp} {ty : TypeId} {pos : String} {af : Array Edge} {g : Option (Nat × Bool)} {a0 a1 : Operand} {x0A : Option Nat} {x1A : Option Nat} (h0 : ρ a0 = .map x0A) (h1 : ρ a1 = .map x1A) : Runs Tryd.prog ρ ⟨d, .build 93 #[(0, a0), (1, a1)], ty, pos, af, g⟩ w (.ok (.value (.agg #[.map x0A, .map x1A, .int .i64 0, .int .i64 0, .int .i64 0, .int .i64 0, .int .i64 0, .int .i64 0])) w) := ⟨by
  have e : (Instr.build 93 #[(0, .map x0A), (1, .map x1A)]).run Tryd.prog w = .ok (.agg #[.map x0A, .map x1A, .int .i64 0, .int .i64 0, .int .i64 0, .int .i64 0, .int .i64 0, .int .i64 0]) w := by kernel_rfl
  simp only [execOp, List.map_toArray, List.map_cons, List.map_nil, h0, h1]
  exact run_bind e⟩
-- BUILD 93 bd93_0_1 2
theorem bd134_0_1_2_3 {ρ : Operand → Value} {w : World} {d : Option Tmp} {ty : TypeId} {pos : String} {af : Array Edge} {g : Option (Nat × Bool)} {a0 a1 a2 a3 : Operand} {x0A : Option Nat} {x1A : Option Nat} {x2A : Option Nat} {x3A : Option Nat} (h0 : ρ a0 = .map x0A) (h1 : ρ a1 = .map x1A) (h2 : ρ a2 = .map x2A) (h3 : ρ a3 = .map x3A) : Runs Tryd.prog ρ ⟨d, .build 134 #[(0, a0), (1, a1), (2, a2), (3, a3)], ty, pos, af, g⟩ w (.ok (.value (.agg #[.map x0A, .map x1A, .map x2A, .map x3A])) w) := ⟨by
  have e : (Instr.build 134 #[(0, .map x0A), (1, .map x1A), (2, .map x2A), (3, .map x3A)]).run Tryd.prog w = .ok (.agg #[.map x0A, .map x1A, .map x2A, .map x3A]) w := by kernel_rfl
  simp only [execOp, List.map_toArray, List.map_cons, List.map_nil, h0, h1, h2, h3]
  exact run_bind e⟩
-- BUILD 134 bd134_0_1_2_3 4
theorem bd139_0_1 {ρ : Operand → Value} {w : World} {d : Option Tmp} {ty : TypeId} {pos : String} {af : Array Edge} {g : Option (Nat × Bool)} {a0 a1 : Operand} {x0 : Int} {x1 : Int} (h0 : ρ a0 = .int .i64 x0) (h1 : ρ a1 = .int .i64 x1) : Runs Tryd.prog ρ ⟨d, .build 139 #[(0, a0), (1, a1)], ty, pos, af, g⟩ w (.ok (.value (.agg #[.int .i64 x0, .int .i64 x1])) w) := ⟨by
  have e : (Instr.build 139 #[(0, .int .i64 x0), (1, .int .i64 x1)]).run Tryd.prog w = .ok (.agg #[.int .i64 x0, .int .i64 x1]) w := by kernel_rfl
  simp only [execOp, List.map_toArray, List.map_cons, List.map_nil, h0, h1]
  exact run_bind e⟩
-- BUILD 139 bd139_0_1 2
theorem eqv28 {d : Nat} {w : World} {x0 y0 : Int} {x1 y1 : Int} {x2 y2 : Int} {x3 y3 : Int} {x4 y4 : Int} (hd : 2 ≤ d) : (Op.equalIn d 28 (.agg #[.int .i64 x0, .int .i64 x1, .int .i64 x2, .int .i64 x3, .int .i64 x4]) (.agg #[.int .i64 y0, .int .i64 y1, .int .i64 y2, .int .i64 y3, .int .i64 y4])).run Tryd.prog w = .ok (decide ((GSums.mk x0 x1 x2 x3 x4) = (GSums.mk y0 y1 y2 y3 y4))) w := by
  have h := eqStruct (P := Tryd.prog) (T := 28) (w := w) (xs := #[.int .i64 x0, .int .i64 x1, .int .i64 x2, .int .i64 x3, .int .i64 x4]) (ys := #[.int .i64 y0, .int .i64 y1, .int .i64 y2, .int .i64 y3, .int .i64 y4]) Tryd.underlying28 (by kernel_rfl) (by omega : 1 ≤ d) (ef_cons rfl (part1 rfl) (part1 rfl) (eqInt (by omega)) (ef_cons rfl (part1 rfl) (part1 rfl) (eqInt (by omega)) (ef_cons rfl (part1 rfl) (part1 rfl) (eqInt (by omega)) (ef_cons rfl (part1 rfl) (part1 rfl) (eqInt (by omega)) (ef_cons rfl (part1 rfl) (part1 rfl) (eqInt (by omega)) ef_nil)))))
  rw [h]
  congr 1
  rw [Bool.eq_iff_iff]
  simp
theorem eql28 {ρ : Operand → Value} {w : World} {d : Option Tmp} {ty T' : TypeId} {pos : String} {af : Array Edge} {g : Option (Nat × Bool)} {s t : Operand} {x0 y0 : Int} {x1 y1 : Int} {x2 y2 : Int} {x3 y3 : Int} {x4 y4 : Int} (h1 : ρ s = .agg #[.int .i64 x0, .int .i64 x1, .int .i64 x2, .int .i64 x3, .int .i64 x4]) (h2 : ρ t = .agg #[.int .i64 y0, .int .i64 y1, .int .i64 y2, .int .i64 y3, .int .i64 y4]) :
    Runs Tryd.prog ρ ⟨d, .binOp .eql 28 s t T', ty, pos, af, g⟩ w (.ok (.value (.bool (decide ((GSums.mk x0 x1 x2 x3 x4) = (GSums.mk y0 y1 y2 y3 y4))))) w) := r_eqlAgg h1 h2 (by kernel_rfl) (eqv28 (by decide))
theorem eqv33 {d : Nat} {w : World} {x0 y0 : Int} {x1 y1 : Int} {x2 y2 : Int} {x3 y3 : Int} (hd : 2 ≤ d) : (Op.equalIn d 33 (.agg #[.int .i64 x0, .int .i64 x1, .int .i64 x2, .int .i64 x3]) (.agg #[.int .i64 y0, .int .i64 y1, .int .i64 y2, .int .i64 y3])).run Tryd.prog w = .ok (decide ((GDebt.mk x0 x1 x2 x3) = (GDebt.mk y0 y1 y2 y3))) w := by
  have h := eqStruct (P := Tryd.prog) (T := 33) (w := w) (xs := #[.int .i64 x0, .int .i64 x1, .int .i64 x2, .int .i64 x3]) (ys := #[.int .i64 y0, .int .i64 y1, .int .i64 y2, .int .i64 y3]) Tryd.underlying33 (by kernel_rfl) (by omega : 1 ≤ d) (ef_cons rfl (part1 rfl) (part1 rfl) (eqInt (by omega)) (ef_cons rfl (part1 rfl) (part1 rfl) (eqInt (by omega)) (ef_cons rfl (part1 rfl) (part1 rfl) (eqInt (by omega)) (ef_cons rfl (part1 rfl) (part1 rfl) (eqInt (by omega)) ef_nil))))
  rw [h]
  congr 1
  rw [Bool.eq_iff_iff]
  simp
theorem neq33 {ρ : Operand → Value} {w : World} {d : Option Tmp} {ty T' : TypeId} {pos : String} {af : Array Edge} {g : Option (Nat × Bool)} {s t : Operand} {x0 y0 : Int} {x1 y1 : Int} {x2 y2 : Int} {x3 y3 : Int} (h1 : ρ s = .agg #[.int .i64 x0, .int .i64 x1, .int .i64 x2, .int .i64 x3]) (h2 : ρ t = .agg #[.int .i64 y0, .int .i64 y1, .int .i64 y2, .int .i64 y3]) :
    Runs Tryd.prog ρ ⟨d, .binOp .neq 33 s t T', ty, pos, af, g⟩ w (.ok (.value (.bool (!decide ((GDebt.mk x0 x1 x2 x3) = (GDebt.mk y0 y1 y2 y3))))) w) := r_neqAgg h1 h2 (by kernel_rfl) (eqv33 (by decide))
theorem eqv56 {d : Nat} {w : World} {x0 y0 : Int} {x1 y1 : Int} {x2 y2 : Int} (hd : 2 ≤ d) : (Op.equalIn d 56 (.agg #[.int .i64 x0, .int .i64 x1, .int .i64 x2]) (.agg #[.int .i64 y0, .int .i64 y1, .int .i64 y2])).run Tryd.prog w = .ok (decide ((GServing.mk x0 x1 x2) = (GServing.mk y0 y1 y2))) w := by
  have h := eqStruct (P := Tryd.prog) (T := 56) (w := w) (xs := #[.int .i64 x0, .int .i64 x1, .int .i64 x2]) (ys := #[.int .i64 y0, .int .i64 y1, .int .i64 y2]) Tryd.underlying56 (by kernel_rfl) (by omega : 1 ≤ d) (ef_cons rfl (part1 rfl) (part1 rfl) (eqInt (by omega)) (ef_cons rfl (part1 rfl) (part1 rfl) (eqInt (by omega)) (ef_cons rfl (part1 rfl) (part1 rfl) (eqInt (by omega)) ef_nil)))
  rw [h]
  congr 1
  rw [Bool.eq_iff_iff]
  simp
theorem neq56 {ρ : Operand → Value} {w : World} {d : Option Tmp} {ty T' : TypeId} {pos : String} {af : Array Edge} {g : Option (Nat × Bool)} {s t : Operand} {x0 y0 : Int} {x1 y1 : Int} {x2 y2 : Int} (h1 : ρ s = .agg #[.int .i64 x0, .int .i64 x1, .int .i64 x2]) (h2 : ρ t = .agg #[.int .i64 y0, .int .i64 y1, .int .i64 y2]) :
    Runs Tryd.prog ρ ⟨d, .binOp .neq 56 s t T', ty, pos, af, g⟩ w (.ok (.value (.bool (!decide ((GServing.mk x0 x1 x2) = (GServing.mk y0 y1 y2))))) w) := r_neqAgg h1 h2 (by kernel_rfl) (eqv56 (by decide))
instance im90 : IsMap Tryd.prog 90 3 33 := ⟨Tryd.underlying90⟩
instance im91 : IsMap Tryd.prog 91 3 4 := ⟨Tryd.underlying91⟩
instance im105 : IsMap Tryd.prog 105 3 3 := ⟨Tryd.underlying105⟩
instance im122 : IsMap Tryd.prog 122 3 120 := ⟨Tryd.underlying122⟩
instance im130 : IsMap Tryd.prog 130 3 76 := ⟨Tryd.underlying130⟩
instance im131 : IsMap Tryd.prog 131 78 4 := ⟨Tryd.underlying131⟩
instance im132 : IsMap Tryd.prog 132 139 3 := ⟨Tryd.underlying132⟩
instance mk3 : MKey Tryd.prog 3 (fun x : Int => Value.int .i64 x) := MKey.int Tryd.underlying3
theorem eqv78 {d : Nat} {w : World} {x0 y0 : Int} {x1 y1 : Int} (hd : 2 ≤ d) : (Op.equalIn d 78 (.agg #[.int .i64 x0, .int .i64 x1]) (.agg #[.int .i64 y0, .int .i64 y1])).run Tryd.prog w = .ok (decide ((GSpot.mk x0 x1) = (GSpot.mk y0 y1))) w := by
  have h := eqStruct (P := Tryd.prog) (T := 78) (w := w) (xs := #[.int .i64 x0, .int .i64 x1]) (ys := #[.int .i64 y0, .int .i64 y1]) Tryd.underlying78 (by kernel_rfl) (by omega : 1 ≤ d) (ef_cons rfl (part1 rfl) (part1 rfl) (eqInt (by omega)) (ef_cons rfl (part1 rfl) (part1 rfl) (eqInt (by omega)) ef_nil))
  rw [h]
  congr 1
  rw [Bool.eq_iff_iff]
  simp
instance mk78 : MKey Tryd.prog 78 (fun x : GSpot => Value.agg x.enc.toArray) := MKey.agg Tryd.underlying78 (fun k => ⟨_, rfl⟩) (fun a b w => by cases a; cases b; exact eqv78 (by decide)) (fun e k w => by cases k; kernel_rfl) (fun k => by cases k; simp [GSpot.enc, Instr.sameBits])
theorem eqv139 {d : Nat} {w : World} {x0 y0 : Int} {x1 y1 : Int} (hd : 2 ≤ d) : (Op.equalIn d 139 (.agg #[.int .i64 x0, .int .i64 x1]) (.agg #[.int .i64 y0, .int .i64 y1])).run Tryd.prog w = .ok (decide ((GDay.mk x0 x1) = (GDay.mk y0 y1))) w := by
  have h := eqStruct (P := Tryd.prog) (T := 139) (w := w) (xs := #[.int .i64 x0, .int .i64 x1]) (ys := #[.int .i64 y0, .int .i64 y1]) Tryd.underlying139 (by kernel_rfl) (by omega : 1 ≤ d) (ef_cons rfl (part1 rfl) (part1 rfl) (eqInt (by omega)) (ef_cons rfl (part1 rfl) (part1 rfl) (eqInt (by omega)) ef_nil))
  rw [h]
  congr 1
  rw [Bool.eq_iff_iff]
  simp
instance mk139 : MKey Tryd.prog 139 (fun x : GDay => Value.agg x.enc.toArray) := MKey.agg Tryd.underlying139 (fun k => ⟨_, rfl⟩) (fun a b w => by cases a; cases b; exact eqv139 (by decide)) (fun e k w => by cases k; kernel_rfl) (fun k => by cases k; simp [GDay.enc, Instr.sameBits])

end Go.Proofs.YtgdmaadikcnagaaDoor

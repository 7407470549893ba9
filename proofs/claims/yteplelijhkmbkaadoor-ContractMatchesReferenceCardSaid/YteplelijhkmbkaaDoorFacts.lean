/- What the dump says of its types and functions: written by facts.py (a program of this claim). -/
import Derived.Test.YteplelijhkmbkaaDoorProg
import Derived.Test.YteplelijhkmbkaaDoorGxEqS
import Derived.KernelRfl
import Derived.Test.YteplelijhkmbkaaDoorGxMap
namespace Go.Proofs.YteplelijhkmbkaaDoor
open Go Go.Gx
set_option linter.unusedSimpArgs false
set_option linter.unusedVariables false

instance tf1 : TF Tryd.prog 1 false 1 := ⟨Tryd.isAgg1, Tryd.sizeOf1⟩
instance ti1 : TI Tryd.prog 1 (.nilFunc) 1 8 := TI.of (by kernel_rfl)
instance tf2 : TF Tryd.prog 2 false 1 := ⟨Tryd.isAgg2, Tryd.sizeOf2⟩
instance ti2 : TI Tryd.prog 2 (.int .i64 0) 1 8 := TI.of (by kernel_rfl)
instance is2 : IsInt Tryd.prog 2 .i64 := ⟨Tryd.underlying2⟩
instance tf3 : TF Tryd.prog 3 false 1 := ⟨Tryd.isAgg3, Tryd.sizeOf3⟩
instance ti3 : TI Tryd.prog 3 (.int .i64 0) 1 8 := TI.of (by kernel_rfl)
instance is3 : IsInt Tryd.prog 3 .i64 := ⟨Tryd.underlying3⟩
instance tf4 : TF Tryd.prog 4 false 1 := ⟨Tryd.isAgg4, Tryd.sizeOf4⟩
instance ti4 : TI Tryd.prog 4 (.bool false) 1 1 := TI.of (by kernel_rfl)
instance is4 : IsBool Tryd.prog 4 := ⟨Tryd.underlying4⟩
instance tf5 : TF Tryd.prog 5 false 1 := ⟨Tryd.isAgg5, Tryd.sizeOf5⟩
instance ti5 : TI Tryd.prog 5 (.int .u8 0) 1 1 := TI.of (by kernel_rfl)
instance is5 : IsInt Tryd.prog 5 .u8 := ⟨Tryd.underlying5⟩
instance tf9 : TF Tryd.prog 9 false 1 := ⟨Tryd.isAgg9, Tryd.sizeOf9⟩
instance ti9 : TI Tryd.prog 9 (.string ⟨#[]⟩) 1 16 := TI.of (by kernel_rfl)
instance is9 : IsStr Tryd.prog 9 := ⟨Tryd.underlying9⟩
instance tf12 : TF Tryd.prog 12 false 1 := ⟨Tryd.isAgg12, Tryd.sizeOf12⟩
instance ti12 : TI Tryd.prog 12 (.int .u64 0) 1 8 := TI.of (by kernel_rfl)
instance is12 : IsInt Tryd.prog 12 .u64 := ⟨Tryd.underlying12⟩
instance tf21 : TF Tryd.prog 21 false 1 := ⟨Tryd.isAgg21, Tryd.sizeOf21⟩
instance ti21 : TI Tryd.prog 21 (.int .i32 0) 1 4 := TI.of (by kernel_rfl)
instance is21 : IsInt Tryd.prog 21 .i32 := ⟨Tryd.underlying21⟩
instance tf22 : TF Tryd.prog 22 false 1 := ⟨Tryd.isAgg22, Tryd.sizeOf22⟩
instance ti22 : TI Tryd.prog 22 (.slice none 0 0) 1 24 := TI.of (by kernel_rfl)
instance is22 : IsSlice Tryd.prog 22 61 := ⟨Tryd.underlying22⟩
instance tf23 : TF Tryd.prog 23 false 1 := ⟨Tryd.isAgg23, Tryd.sizeOf23⟩
instance ti23 : TI Tryd.prog 23 (.slice none 0 0) 1 24 := TI.of (by kernel_rfl)
instance is23 : IsSlice Tryd.prog 23 62 := ⟨Tryd.underlying23⟩
instance tf24 : TF Tryd.prog 24 true 7 := ⟨Tryd.isAgg24, Tryd.sizeOf24⟩
instance ti24 : TI Tryd.prog 24 (.agg #[.int .i64 0, .int .i64 0, .int .i64 0, .int .i64 0, .int .i64 0, .int .i64 0, .int .i64 0]) 7 56 := TI.of (by kernel_rfl)
instance is24 : IsArr Tryd.prog 24 7 3 := ⟨Tryd.underlying24⟩
instance tf25 : TF Tryd.prog 25 true 7 := ⟨Tryd.isAgg25, Tryd.sizeOf25⟩
instance ti25 : TI Tryd.prog 25 (.agg #[.int .i64 0, .int .i64 0, .int .i64 0, .int .i64 0, .int .i64 0, .int .i64 0, .int .i64 0]) 7 56 := TI.of (by kernel_rfl)
instance is25 : IsArr Tryd.prog 25 7 3 := ⟨Tryd.underlying25⟩
instance tf26 : TF Tryd.prog 26 true 2 := ⟨Tryd.isAgg26, Tryd.sizeOf26⟩
instance ti26 : TI Tryd.prog 26 (.agg #[.int .i64 0, .int .i64 0]) 2 16 := TI.of (by kernel_rfl)
instance tf27 : TF Tryd.prog 27 true 2 := ⟨Tryd.isAgg27, Tryd.sizeOf27⟩
instance ti27 : TI Tryd.prog 27 (.agg #[.int .i64 0, .int .i64 0]) 2 16 := TI.of (by kernel_rfl)
instance tf28 : TF Tryd.prog 28 true 17 := ⟨Tryd.isAgg28, Tryd.sizeOf28⟩
instance ti28 : TI Tryd.prog 28 (.agg #[.int .i64 0, .int .i64 0, .int .i64 0, .int .i64 0, .int .i64 0, .int .i64 0, .int .i64 0, .int .i64 0, .int .i64 0, .int .i64 0, .int .i64 0, .int .i64 0, .int .i64 0, .int .i64 0, .int .i64 0, .int .i64 0, .int .i64 0]) 17 136 := TI.of (by kernel_rfl)
instance tf29 : TF Tryd.prog 29 true 17 := ⟨Tryd.isAgg29, Tryd.sizeOf29⟩
instance ti29 : TI Tryd.prog 29 (.agg #[.int .i64 0, .int .i64 0, .int .i64 0, .int .i64 0, .int .i64 0, .int .i64 0, .int .i64 0, .int .i64 0, .int .i64 0, .int .i64 0, .int .i64 0, .int .i64 0, .int .i64 0, .int .i64 0, .int .i64 0, .int .i64 0, .int .i64 0]) 17 136 := TI.of (by kernel_rfl)
instance tf30 : TF Tryd.prog 30 true 2 := ⟨Tryd.isAgg30, Tryd.sizeOf30⟩
instance ti30 : TI Tryd.prog 30 (.agg #[.int .i64 0, .int .i64 0]) 2 16 := TI.of (by kernel_rfl)
instance tf31 : TF Tryd.prog 31 true 2 := ⟨Tryd.isAgg31, Tryd.sizeOf31⟩
instance ti31 : TI Tryd.prog 31 (.agg #[.int .i64 0, .int .i64 0]) 2 16 := TI.of (by kernel_rfl)
instance tf32 : TF Tryd.prog 32 false 1 := ⟨Tryd.isAgg32, Tryd.sizeOf32⟩
instance ti32 : TI Tryd.prog 32 (.nilFunc) 1 8 := TI.of (by kernel_rfl)
instance tf33 : TF Tryd.prog 33 false 1 := ⟨Tryd.isAgg33, Tryd.sizeOf33⟩
instance ti33 : TI Tryd.prog 33 (.slice none 0 0) 1 24 := TI.of (by kernel_rfl)
instance is33 : IsSlice Tryd.prog 33 29 := ⟨Tryd.underlying33⟩
instance tf34 : TF Tryd.prog 34 false 1 := ⟨Tryd.isAgg34, Tryd.sizeOf34⟩
instance ti34 : TI Tryd.prog 34 (.nilFunc) 1 8 := TI.of (by kernel_rfl)
instance tf35 : TF Tryd.prog 35 false 1 := ⟨Tryd.isAgg35, Tryd.sizeOf35⟩
instance ti35 : TI Tryd.prog 35 (.nilFunc) 1 8 := TI.of (by kernel_rfl)
instance tf36 : TF Tryd.prog 36 false 1 := ⟨Tryd.isAgg36, Tryd.sizeOf36⟩
instance ti36 : TI Tryd.prog 36 (.slice none 0 0) 1 24 := TI.of (by kernel_rfl)
instance is36 : IsSlice Tryd.prog 36 31 := ⟨Tryd.underlying36⟩
instance tf37 : TF Tryd.prog 37 false 1 := ⟨Tryd.isAgg37, Tryd.sizeOf37⟩
instance ti37 : TI Tryd.prog 37 (.nilFunc) 1 8 := TI.of (by kernel_rfl)
instance tf38 : TF Tryd.prog 38 false 1 := ⟨Tryd.isAgg38, Tryd.sizeOf38⟩
instance ti38 : TI Tryd.prog 38 (.slice none 0 0) 1 24 := TI.of (by kernel_rfl)
instance is38 : IsSlice Tryd.prog 38 33 := ⟨Tryd.underlying38⟩
instance tf39 : TF Tryd.prog 39 false 1 := ⟨Tryd.isAgg39, Tryd.sizeOf39⟩
instance ti39 : TI Tryd.prog 39 (.nilFunc) 1 8 := TI.of (by kernel_rfl)
instance tf40 : TF Tryd.prog 40 false 1 := ⟨Tryd.isAgg40, Tryd.sizeOf40⟩
instance ti40 : TI Tryd.prog 40 (.slice none 0 0) 1 24 := TI.of (by kernel_rfl)
instance is40 : IsSlice Tryd.prog 40 36 := ⟨Tryd.underlying40⟩
instance tf41 : TF Tryd.prog 41 false 1 := ⟨Tryd.isAgg41, Tryd.sizeOf41⟩
instance ti41 : TI Tryd.prog 41 (.slice none 0 0) 1 24 := TI.of (by kernel_rfl)
instance is41 : IsSlice Tryd.prog 41 3 := ⟨Tryd.underlying41⟩
instance tf42 : TF Tryd.prog 42 false 1 := ⟨Tryd.isAgg42, Tryd.sizeOf42⟩
instance ti42 : TI Tryd.prog 42 (.int .i64 0) 1 8 := TI.of (by kernel_rfl)
instance is42 : IsInt Tryd.prog 42 .i64 := ⟨Tryd.underlying42⟩
instance tf44 : TF Tryd.prog 44 false 1 := ⟨Tryd.isAgg44, Tryd.sizeOf44⟩
instance ti44 : TI Tryd.prog 44 (.nilFunc) 1 8 := TI.of (by kernel_rfl)
instance tf45 : TF Tryd.prog 45 false 1 := ⟨Tryd.isAgg45, Tryd.sizeOf45⟩
instance ti45 : TI Tryd.prog 45 (.nilFunc) 1 8 := TI.of (by kernel_rfl)
instance tf46 : TF Tryd.prog 46 false 1 := ⟨Tryd.isAgg46, Tryd.sizeOf46⟩
instance ti46 : TI Tryd.prog 46 (.nilFunc) 1 8 := TI.of (by kernel_rfl)
instance tf47 : TF Tryd.prog 47 false 1 := ⟨Tryd.isAgg47, Tryd.sizeOf47⟩
instance ti47 : TI Tryd.prog 47 (.nilFunc) 1 8 := TI.of (by kernel_rfl)
instance tf49 : TF Tryd.prog 49 false 1 := ⟨Tryd.isAgg49, Tryd.sizeOf49⟩
instance ti49 : TI Tryd.prog 49 (.nilFunc) 1 8 := TI.of (by kernel_rfl)
instance tf50 : TF Tryd.prog 50 false 1 := ⟨Tryd.isAgg50, Tryd.sizeOf50⟩
instance ti50 : TI Tryd.prog 50 (.nilFunc) 1 8 := TI.of (by kernel_rfl)
instance tf51 : TF Tryd.prog 51 false 1 := ⟨Tryd.isAgg51, Tryd.sizeOf51⟩
instance ti51 : TI Tryd.prog 51 (.nilFunc) 1 8 := TI.of (by kernel_rfl)
instance tf52 : TF Tryd.prog 52 false 1 := ⟨Tryd.isAgg52, Tryd.sizeOf52⟩
instance ti52 : TI Tryd.prog 52 (.nilFunc) 1 8 := TI.of (by kernel_rfl)
instance tf53 : TF Tryd.prog 53 false 1 := ⟨Tryd.isAgg53, Tryd.sizeOf53⟩
instance ti53 : TI Tryd.prog 53 (.nilFunc) 1 8 := TI.of (by kernel_rfl)
instance tf55 : TF Tryd.prog 55 false 1 := ⟨Tryd.isAgg55, Tryd.sizeOf55⟩
instance ti55 : TI Tryd.prog 55 (.nilFunc) 1 8 := TI.of (by kernel_rfl)
instance tf56 : TF Tryd.prog 56 false 1 := ⟨Tryd.isAgg56, Tryd.sizeOf56⟩
instance ti56 : TI Tryd.prog 56 (.nilFunc) 1 8 := TI.of (by kernel_rfl)
instance tf57 : TF Tryd.prog 57 false 1 := ⟨Tryd.isAgg57, Tryd.sizeOf57⟩
instance ti57 : TI Tryd.prog 57 (.nilFunc) 1 8 := TI.of (by kernel_rfl)
instance tf58 : TF Tryd.prog 58 false 1 := ⟨Tryd.isAgg58, Tryd.sizeOf58⟩
instance ti58 : TI Tryd.prog 58 (.nilFunc) 1 8 := TI.of (by kernel_rfl)
instance tf59 : TF Tryd.prog 59 false 1 := ⟨Tryd.isAgg59, Tryd.sizeOf59⟩
instance ti59 : TI Tryd.prog 59 (.nilFunc) 1 8 := TI.of (by kernel_rfl)
instance tf60 : TF Tryd.prog 60 false 1 := ⟨Tryd.isAgg60, Tryd.sizeOf60⟩
instance ti60 : TI Tryd.prog 60 (.nilFunc) 1 8 := TI.of (by kernel_rfl)
instance tf61 : TF Tryd.prog 61 true 8 := ⟨Tryd.isAgg61, Tryd.sizeOf61⟩
instance ti61 : TI Tryd.prog 61 (.agg #[.int .i64 0, .int .i64 0, .int .i64 0, .int .i64 0, .int .i64 0, .int .i64 0, .int .i64 0, .int .i64 0]) 8 64 := TI.of (by kernel_rfl)
instance is61 : IsArr Tryd.prog 61 8 3 := ⟨Tryd.underlying61⟩
instance tf62 : TF Tryd.prog 62 true 2 := ⟨Tryd.isAgg62, Tryd.sizeOf62⟩
instance ti62 : TI Tryd.prog 62 (.agg #[.int .i64 0, .int .i64 0]) 2 16 := TI.of (by kernel_rfl)
instance is62 : IsArr Tryd.prog 62 2 3 := ⟨Tryd.underlying62⟩
instance tf63 : TF Tryd.prog 63 false 1 := ⟨Tryd.isAgg63, Tryd.sizeOf63⟩
instance ti63 : TI Tryd.prog 63 (.nilFunc) 1 8 := TI.of (by kernel_rfl)
instance tf64 : TF Tryd.prog 64 false 1 := ⟨Tryd.isAgg64, Tryd.sizeOf64⟩
instance ti64 : TI Tryd.prog 64 (.pointer none) 1 8 := TI.of (by kernel_rfl)
instance tf66 : TF Tryd.prog 66 false 1 := ⟨Tryd.isAgg66, Tryd.sizeOf66⟩
instance ti66 : TI Tryd.prog 66 (.nilFunc) 1 8 := TI.of (by kernel_rfl)
instance tf67 : TF Tryd.prog 67 false 1 := ⟨Tryd.isAgg67, Tryd.sizeOf67⟩
instance ti67 : TI Tryd.prog 67 (.nilFunc) 1 8 := TI.of (by kernel_rfl)
instance tf68 : TF Tryd.prog 68 false 1 := ⟨Tryd.isAgg68, Tryd.sizeOf68⟩
instance ti68 : TI Tryd.prog 68 (.nilFunc) 1 8 := TI.of (by kernel_rfl)
instance tf69 : TF Tryd.prog 69 false 1 := ⟨Tryd.isAgg69, Tryd.sizeOf69⟩
instance ti69 : TI Tryd.prog 69 (.nilFunc) 1 8 := TI.of (by kernel_rfl)
instance tf70 : TF Tryd.prog 70 false 1 := ⟨Tryd.isAgg70, Tryd.sizeOf70⟩
instance ti70 : TI Tryd.prog 70 (.nilFunc) 1 8 := TI.of (by kernel_rfl)
instance tf71 : TF Tryd.prog 71 false 1 := ⟨Tryd.isAgg71, Tryd.sizeOf71⟩
instance ti71 : TI Tryd.prog 71 (.nilFunc) 1 8 := TI.of (by kernel_rfl)
instance tf72 : TF Tryd.prog 72 false 1 := ⟨Tryd.isAgg72, Tryd.sizeOf72⟩
instance ti72 : TI Tryd.prog 72 (.nilFunc) 1 8 := TI.of (by kernel_rfl)
instance tf73 : TF Tryd.prog 73 false 1 := ⟨Tryd.isAgg73, Tryd.sizeOf73⟩
instance ti73 : TI Tryd.prog 73 (.map none) 1 8 := TI.of (by kernel_rfl)
instance tf74 : TF Tryd.prog 74 false 1 := ⟨Tryd.isAgg74, Tryd.sizeOf74⟩
instance ti74 : TI Tryd.prog 74 (.map none) 1 8 := TI.of (by kernel_rfl)
instance tf75 : TF Tryd.prog 75 false 1 := ⟨Tryd.isAgg75, Tryd.sizeOf75⟩
instance ti75 : TI Tryd.prog 75 (.map none) 1 8 := TI.of (by kernel_rfl)
instance tf76 : TF Tryd.prog 76 false 1 := ⟨Tryd.isAgg76, Tryd.sizeOf76⟩
instance ti76 : TI Tryd.prog 76 (.map none) 1 8 := TI.of (by kernel_rfl)
instance tf77 : TF Tryd.prog 77 true 4 := ⟨Tryd.isAgg77, Tryd.sizeOf77⟩
instance ti77 : TI Tryd.prog 77 (.agg #[.map none, .map none, .map none, .map none]) 4 32 := TI.of (by kernel_rfl)
instance tf78 : TF Tryd.prog 78 true 4 := ⟨Tryd.isAgg78, Tryd.sizeOf78⟩
instance ti78 : TI Tryd.prog 78 (.agg #[.map none, .map none, .map none, .map none]) 4 32 := TI.of (by kernel_rfl)
instance tf79 : TF Tryd.prog 79 false 1 := ⟨Tryd.isAgg79, Tryd.sizeOf79⟩
instance ti79 : TI Tryd.prog 79 (.nilFunc) 1 8 := TI.of (by kernel_rfl)
instance tf80 : TF Tryd.prog 80 false 1 := ⟨Tryd.isAgg80, Tryd.sizeOf80⟩
instance ti80 : TI Tryd.prog 80 (.nilFunc) 1 8 := TI.of (by kernel_rfl)
instance tf81 : TF Tryd.prog 81 false 1 := ⟨Tryd.isAgg81, Tryd.sizeOf81⟩
instance ti81 : TI Tryd.prog 81 (.nilFunc) 1 8 := TI.of (by kernel_rfl)
instance tf82 : TF Tryd.prog 82 false 1 := ⟨Tryd.isAgg82, Tryd.sizeOf82⟩
instance ti82 : TI Tryd.prog 82 (.nilFunc) 1 8 := TI.of (by kernel_rfl)
instance tf83 : TF Tryd.prog 83 true 2 := ⟨Tryd.isAgg83, Tryd.sizeOf83⟩
instance ti83 : TI Tryd.prog 83 (.agg #[.int .i64 0, .int .i64 0]) 2 16 := TI.of (by kernel_rfl)
instance tf84 : TF Tryd.prog 84 true 2 := ⟨Tryd.isAgg84, Tryd.sizeOf84⟩
instance ti84 : TI Tryd.prog 84 (.agg #[.int .i64 0, .int .i64 0]) 2 16 := TI.of (by kernel_rfl)
instance tf85 : TF Tryd.prog 85 false 1 := ⟨Tryd.isAgg85, Tryd.sizeOf85⟩
instance ti85 : TI Tryd.prog 85 (.nilFunc) 1 8 := TI.of (by kernel_rfl)
instance tf86 : TF Tryd.prog 86 false 1 := ⟨Tryd.isAgg86, Tryd.sizeOf86⟩
instance ti86 : TI Tryd.prog 86 (.nilFunc) 1 8 := TI.of (by kernel_rfl)
instance tf87 : TF Tryd.prog 87 false 1 := ⟨Tryd.isAgg87, Tryd.sizeOf87⟩
instance ti87 : TI Tryd.prog 87 (.nilFunc) 1 8 := TI.of (by kernel_rfl)
instance tf89 : TF Tryd.prog 89 false 1 := ⟨Tryd.isAgg89, Tryd.sizeOf89⟩
instance ti89 : TI Tryd.prog 89 (.nilFunc) 1 8 := TI.of (by kernel_rfl)
instance tf90 : TF Tryd.prog 90 true 8 := ⟨Tryd.isAgg90, Tryd.sizeOf90⟩
instance ti90 : TI Tryd.prog 90 (.agg #[.nilFunc, .nilFunc, .nilFunc, .nilFunc, .nilFunc, .nilFunc, .nilFunc, .nilFunc]) 8 64 := TI.of (by kernel_rfl)
instance is90 : IsArr Tryd.prog 90 8 89 := ⟨Tryd.underlying90⟩
instance tf91 : TF Tryd.prog 91 false 1 := ⟨Tryd.isAgg91, Tryd.sizeOf91⟩
instance ti91 : TI Tryd.prog 91 (.nilFunc) 1 8 := TI.of (by kernel_rfl)
instance tf92 : TF Tryd.prog 92 false 1 := ⟨Tryd.isAgg92, Tryd.sizeOf92⟩
instance ti92 : TI Tryd.prog 92 (.nilFunc) 1 8 := TI.of (by kernel_rfl)
instance tf93 : TF Tryd.prog 93 false 1 := ⟨Tryd.isAgg93, Tryd.sizeOf93⟩
instance ti93 : TI Tryd.prog 93 (.nilFunc) 1 8 := TI.of (by kernel_rfl)
instance tf94 : TF Tryd.prog 94 false 1 := ⟨Tryd.isAgg94, Tryd.sizeOf94⟩
instance ti94 : TI Tryd.prog 94 (.nilFunc) 1 8 := TI.of (by kernel_rfl)
instance tf95 : TF Tryd.prog 95 false 1 := ⟨Tryd.isAgg95, Tryd.sizeOf95⟩
instance ti95 : TI Tryd.prog 95 (.int .u64 0) 1 8 := TI.of (by kernel_rfl)
instance is95 : IsInt Tryd.prog 95 .u64 := ⟨Tryd.underlying95⟩
instance tf96 : TF Tryd.prog 96 false 1 := ⟨Tryd.isAgg96, Tryd.sizeOf96⟩
instance ti96 : TI Tryd.prog 96 (.nilFunc) 1 8 := TI.of (by kernel_rfl)
instance tf102 : TF Tryd.prog 102 false 1 := ⟨Tryd.isAgg102, Tryd.sizeOf102⟩
instance ti102 : TI Tryd.prog 102 (.nilFunc) 1 8 := TI.of (by kernel_rfl)
instance tf103 : TF Tryd.prog 103 false 1 := ⟨Tryd.isAgg103, Tryd.sizeOf103⟩
instance ti103 : TI Tryd.prog 103 (.int .u32 0) 1 4 := TI.of (by kernel_rfl)
instance is103 : IsInt Tryd.prog 103 .u32 := ⟨Tryd.underlying103⟩
instance tf106 : TF Tryd.prog 106 false 1 := ⟨Tryd.isAgg106, Tryd.sizeOf106⟩
instance ti106 : TI Tryd.prog 106 (.nilFunc) 1 8 := TI.of (by kernel_rfl)
instance tf107 : TF Tryd.prog 107 false 1 := ⟨Tryd.isAgg107, Tryd.sizeOf107⟩
instance ti107 : TI Tryd.prog 107 (.pointer none) 1 8 := TI.of (by kernel_rfl)
instance fa26_0 : FA Tryd.prog 26 0 0 := ⟨fun _ _ => by kernel_rfl⟩
instance fv26_0 : FV Tryd.prog 26 0 0 := ⟨fun cs v w h => by simp [Instr.field, run_underlying' Tryd.underlying26, asAgg, part, Tryd.isAgg3, h]⟩
instance fa26_1 : FA Tryd.prog 26 1 1 := ⟨fun _ _ => by kernel_rfl⟩
instance fv26_1 : FV Tryd.prog 26 1 1 := ⟨fun cs v w h => by simp [Instr.field, run_underlying' Tryd.underlying26, asAgg, part, Tryd.isAgg3, h]⟩
instance fa27_0 : FA Tryd.prog 27 0 0 := ⟨fun _ _ => by kernel_rfl⟩
instance fv27_0 : FV Tryd.prog 27 0 0 := ⟨fun cs v w h => by simp [Instr.field, run_underlying' Tryd.underlying27, asAgg, part, Tryd.isAgg3, h]⟩
instance fa27_1 : FA Tryd.prog 27 1 1 := ⟨fun _ _ => by kernel_rfl⟩
instance fv27_1 : FV Tryd.prog 27 1 1 := ⟨fun cs v w h => by simp [Instr.field, run_underlying' Tryd.underlying27, asAgg, part, Tryd.isAgg3, h]⟩
instance fa28_0 : FA Tryd.prog 28 0 0 := ⟨fun _ _ => by kernel_rfl⟩
instance fv28_0 : FV Tryd.prog 28 0 0 := ⟨fun cs v w h => by simp [Instr.field, run_underlying' Tryd.underlying28, asAgg, part, Tryd.isAgg3, h]⟩
instance fa28_1 : FA Tryd.prog 28 1 1 := ⟨fun _ _ => by kernel_rfl⟩
instance fv28_1 : FV Tryd.prog 28 1 1 := ⟨fun cs v w h => by simp [Instr.field, run_underlying' Tryd.underlying28, asAgg, part, Tryd.isAgg3, h]⟩
instance fa28_2 : FA Tryd.prog 28 2 2 := ⟨fun _ _ => by kernel_rfl⟩
instance fv28_2 : FV Tryd.prog 28 2 2 := ⟨fun cs v w h => by simp [Instr.field, run_underlying' Tryd.underlying28, asAgg, part, Tryd.isAgg3, h]⟩
instance fa28_3 : FA Tryd.prog 28 3 3 := ⟨fun _ _ => by kernel_rfl⟩
instance fv28_3 : FV Tryd.prog 28 3 3 := ⟨fun cs v w h => by simp [Instr.field, run_underlying' Tryd.underlying28, asAgg, part, Tryd.isAgg3, h]⟩
instance fa28_4 : FA Tryd.prog 28 4 4 := ⟨fun _ _ => by kernel_rfl⟩
instance fv28_4 : FV Tryd.prog 28 4 4 := ⟨fun cs v w h => by simp [Instr.field, run_underlying' Tryd.underlying28, asAgg, part, Tryd.isAgg3, h]⟩
instance fa28_5 : FA Tryd.prog 28 5 5 := ⟨fun _ _ => by kernel_rfl⟩
instance fv28_5 : FV Tryd.prog 28 5 5 := ⟨fun cs v w h => by simp [Instr.field, run_underlying' Tryd.underlying28, asAgg, part, Tryd.isAgg3, h]⟩
instance fa28_6 : FA Tryd.prog 28 6 6 := ⟨fun _ _ => by kernel_rfl⟩
instance fv28_6 : FV Tryd.prog 28 6 6 := ⟨fun cs v w h => by simp [Instr.field, run_underlying' Tryd.underlying28, asAgg, part, Tryd.isAgg3, h]⟩
instance fa28_7 : FA Tryd.prog 28 7 7 := ⟨fun _ _ => by kernel_rfl⟩
instance fv28_7 : FV Tryd.prog 28 7 7 := ⟨fun cs v w h => by simp [Instr.field, run_underlying' Tryd.underlying28, asAgg, part, Tryd.isAgg3, h]⟩
instance fa28_8 : FA Tryd.prog 28 8 8 := ⟨fun _ _ => by kernel_rfl⟩
instance fv28_8 : FVA Tryd.prog 28 8 8 7 := ⟨fun cs w => by simp [Instr.field, run_underlying' Tryd.underlying28, asAgg, part, Tryd.isAgg25, Tryd.sizeOf25]⟩
instance fa28_9 : FA Tryd.prog 28 9 15 := ⟨fun _ _ => by kernel_rfl⟩
instance fv28_9 : FVA Tryd.prog 28 9 15 2 := ⟨fun cs w => by simp [Instr.field, run_underlying' Tryd.underlying28, asAgg, part, Tryd.isAgg27, Tryd.sizeOf27]⟩
instance fa29_0 : FA Tryd.prog 29 0 0 := ⟨fun _ _ => by kernel_rfl⟩
instance fv29_0 : FV Tryd.prog 29 0 0 := ⟨fun cs v w h => by simp [Instr.field, run_underlying' Tryd.underlying29, asAgg, part, Tryd.isAgg3, h]⟩
instance fa29_1 : FA Tryd.prog 29 1 1 := ⟨fun _ _ => by kernel_rfl⟩
instance fv29_1 : FV Tryd.prog 29 1 1 := ⟨fun cs v w h => by simp [Instr.field, run_underlying' Tryd.underlying29, asAgg, part, Tryd.isAgg3, h]⟩
instance fa29_2 : FA Tryd.prog 29 2 2 := ⟨fun _ _ => by kernel_rfl⟩
instance fv29_2 : FV Tryd.prog 29 2 2 := ⟨fun cs v w h => by simp [Instr.field, run_underlying' Tryd.underlying29, asAgg, part, Tryd.isAgg3, h]⟩
instance fa29_3 : FA Tryd.prog 29 3 3 := ⟨fun _ _ => by kernel_rfl⟩
instance fv29_3 : FV Tryd.prog 29 3 3 := ⟨fun cs v w h => by simp [Instr.field, run_underlying' Tryd.underlying29, asAgg, part, Tryd.isAgg3, h]⟩
instance fa29_4 : FA Tryd.prog 29 4 4 := ⟨fun _ _ => by kernel_rfl⟩
instance fv29_4 : FV Tryd.prog 29 4 4 := ⟨fun cs v w h => by simp [Instr.field, run_underlying' Tryd.underlying29, asAgg, part, Tryd.isAgg3, h]⟩
instance fa29_5 : FA Tryd.prog 29 5 5 := ⟨fun _ _ => by kernel_rfl⟩
instance fv29_5 : FV Tryd.prog 29 5 5 := ⟨fun cs v w h => by simp [Instr.field, run_underlying' Tryd.underlying29, asAgg, part, Tryd.isAgg3, h]⟩
instance fa29_6 : FA Tryd.prog 29 6 6 := ⟨fun _ _ => by kernel_rfl⟩
instance fv29_6 : FV Tryd.prog 29 6 6 := ⟨fun cs v w h => by simp [Instr.field, run_underlying' Tryd.underlying29, asAgg, part, Tryd.isAgg3, h]⟩
instance fa29_7 : FA Tryd.prog 29 7 7 := ⟨fun _ _ => by kernel_rfl⟩
instance fv29_7 : FV Tryd.prog 29 7 7 := ⟨fun cs v w h => by simp [Instr.field, run_underlying' Tryd.underlying29, asAgg, part, Tryd.isAgg3, h]⟩
instance fa29_8 : FA Tryd.prog 29 8 8 := ⟨fun _ _ => by kernel_rfl⟩
instance fv29_8 : FVA Tryd.prog 29 8 8 7 := ⟨fun cs w => by simp [Instr.field, run_underlying' Tryd.underlying29, asAgg, part, Tryd.isAgg25, Tryd.sizeOf25]⟩
instance fa29_9 : FA Tryd.prog 29 9 15 := ⟨fun _ _ => by kernel_rfl⟩
instance fv29_9 : FVA Tryd.prog 29 9 15 2 := ⟨fun cs w => by simp [Instr.field, run_underlying' Tryd.underlying29, asAgg, part, Tryd.isAgg27, Tryd.sizeOf27]⟩
instance fa30_0 : FA Tryd.prog 30 0 0 := ⟨fun _ _ => by kernel_rfl⟩
instance fv30_0 : FV Tryd.prog 30 0 0 := ⟨fun cs v w h => by simp [Instr.field, run_underlying' Tryd.underlying30, asAgg, part, Tryd.isAgg3, h]⟩
instance fa30_1 : FA Tryd.prog 30 1 1 := ⟨fun _ _ => by kernel_rfl⟩
instance fv30_1 : FV Tryd.prog 30 1 1 := ⟨fun cs v w h => by simp [Instr.field, run_underlying' Tryd.underlying30, asAgg, part, Tryd.isAgg3, h]⟩
instance fa31_0 : FA Tryd.prog 31 0 0 := ⟨fun _ _ => by kernel_rfl⟩
instance fv31_0 : FV Tryd.prog 31 0 0 := ⟨fun cs v w h => by simp [Instr.field, run_underlying' Tryd.underlying31, asAgg, part, Tryd.isAgg3, h]⟩
instance fa31_1 : FA Tryd.prog 31 1 1 := ⟨fun _ _ => by kernel_rfl⟩
instance fv31_1 : FV Tryd.prog 31 1 1 := ⟨fun cs v w h => by simp [Instr.field, run_underlying' Tryd.underlying31, asAgg, part, Tryd.isAgg3, h]⟩
instance fa77_0 : FA Tryd.prog 77 0 0 := ⟨fun _ _ => by kernel_rfl⟩
instance fv77_0 : FV Tryd.prog 77 0 0 := ⟨fun cs v w h => by simp [Instr.field, run_underlying' Tryd.underlying77, asAgg, part, Tryd.isAgg73, h]⟩
instance fa77_1 : FA Tryd.prog 77 1 1 := ⟨fun _ _ => by kernel_rfl⟩
instance fv77_1 : FV Tryd.prog 77 1 1 := ⟨fun cs v w h => by simp [Instr.field, run_underlying' Tryd.underlying77, asAgg, part, Tryd.isAgg74, h]⟩
instance fa77_2 : FA Tryd.prog 77 2 2 := ⟨fun _ _ => by kernel_rfl⟩
instance fv77_2 : FV Tryd.prog 77 2 2 := ⟨fun cs v w h => by simp [Instr.field, run_underlying' Tryd.underlying77, asAgg, part, Tryd.isAgg75, h]⟩
instance fa77_3 : FA Tryd.prog 77 3 3 := ⟨fun _ _ => by kernel_rfl⟩
instance fv77_3 : FV Tryd.prog 77 3 3 := ⟨fun cs v w h => by simp [Instr.field, run_underlying' Tryd.underlying77, asAgg, part, Tryd.isAgg76, h]⟩
instance fa78_0 : FA Tryd.prog 78 0 0 := ⟨fun _ _ => by kernel_rfl⟩
instance fv78_0 : FV Tryd.prog 78 0 0 := ⟨fun cs v w h => by simp [Instr.field, run_underlying' Tryd.underlying78, asAgg, part, Tryd.isAgg73, h]⟩
instance fa78_1 : FA Tryd.prog 78 1 1 := ⟨fun _ _ => by kernel_rfl⟩
instance fv78_1 : FV Tryd.prog 78 1 1 := ⟨fun cs v w h => by simp [Instr.field, run_underlying' Tryd.underlying78, asAgg, part, Tryd.isAgg74, h]⟩
instance fa78_2 : FA Tryd.prog 78 2 2 := ⟨fun _ _ => by kernel_rfl⟩
instance fv78_2 : FV Tryd.prog 78 2 2 := ⟨fun cs v w h => by simp [Instr.field, run_underlying' Tryd.underlying78, asAgg, part, Tryd.isAgg75, h]⟩
instance fa78_3 : FA Tryd.prog 78 3 3 := ⟨fun _ _ => by kernel_rfl⟩
instance fv78_3 : FV Tryd.prog 78 3 3 := ⟨fun cs v w h => by simp [Instr.field, run_underlying' Tryd.underlying78, asAgg, part, Tryd.isAgg76, h]⟩
instance fa83_0 : FA Tryd.prog 83 0 0 := ⟨fun _ _ => by kernel_rfl⟩
instance fv83_0 : FV Tryd.prog 83 0 0 := ⟨fun cs v w h => by simp [Instr.field, run_underlying' Tryd.underlying83, asAgg, part, Tryd.isAgg3, h]⟩
instance fa83_1 : FA Tryd.prog 83 1 1 := ⟨fun _ _ => by kernel_rfl⟩
instance fv83_1 : FV Tryd.prog 83 1 1 := ⟨fun cs v w h => by simp [Instr.field, run_underlying' Tryd.underlying83, asAgg, part, Tryd.isAgg3, h]⟩
instance fa84_0 : FA Tryd.prog 84 0 0 := ⟨fun _ _ => by kernel_rfl⟩
instance fv84_0 : FV Tryd.prog 84 0 0 := ⟨fun cs v w h => by simp [Instr.field, run_underlying' Tryd.underlying84, asAgg, part, Tryd.isAgg3, h]⟩
instance fa84_1 : FA Tryd.prog 84 1 1 := ⟨fun _ _ => by kernel_rfl⟩
instance fv84_1 : FV Tryd.prog 84 1 1 := ⟨fun cs v w h => by simp [Instr.field, run_underlying' Tryd.underlying84, asAgg, part, Tryd.isAgg3, h]⟩
instance en3 : Enters Tryd.prog 3 := Enters.of Tryd.func3 (by rfl) (by decide)   -- aircheck/airchecklaw12.ContractMatchesReference
instance en4 : Enters Tryd.prog 4 := Enters.of Tryd.func4 (by rfl) (by decide)   -- aircheck/airchecklaw12.ContractBounds
instance en5 : Enters Tryd.prog 5 := Enters.of Tryd.func5 (by rfl) (by decide)   -- aircheck/airchecklaw12.ContractNothing
instance en6 : Enters Tryd.prog 6 := Enters.of Tryd.func6 (by rfl) (by decide)   -- aircheck/airchecklaw12.ContractOrder
instance en7 : Enters Tryd.prog 7 := Enters.of Tryd.func7 (by rfl) (by decide)   -- aircheck/airchecklaw12.ContractNext
instance en8 : Enters Tryd.prog 8 := Enters.of Tryd.func8 (by rfl) (by decide)   -- aircheck/airchecklaw12.ContractBefore
instance en9 : Enters Tryd.prog 9 := Enters.of Tryd.func9 (by rfl) (by decide)   -- aircheck/airchecklaw12.ContractMissing
instance en10 : Enters Tryd.prog 10 := Enters.of Tryd.func10 (by rfl) (by decide)   -- aircheck/airchecklaw12.ContractCategories
instance en11 : Enters Tryd.prog 11 := Enters.of Tryd.func11 (by rfl) (by decide)   -- aircheck/airchecklaw12.sane
instance en12 : Enters Tryd.prog 12 := Enters.of Tryd.func12 (by rfl) (by decide)   -- aircheck/aircheckref12.Made
instance en13 : Enters Tryd.prog 13 := Enters.of Tryd.func13 (by rfl) (by decide)   -- aircheck/airchecklaw12.pick
instance en14 : Enters Tryd.prog 14 := Enters.of Tryd.func14 (by rfl) (by decide)   -- aircheck/aircheckref12.Spots
instance en15 : Enters Tryd.prog 15 := Enters.of Tryd.func15 (by rfl) (by decide)   -- aircheck/contract.Valid
instance en16 : Enters Tryd.prog 16 := Enters.of Tryd.func16 (by rfl) (by decide)   -- aircheck/aircheckref12.Valid
instance en17 : Enters Tryd.prog 17 := Enters.of Tryd.func17 (by rfl) (by decide)   -- aircheck/contract.Counted
instance en18 : Enters Tryd.prog 18 := Enters.of Tryd.func18 (by rfl) (by decide)   -- aircheck/aircheckref12.Counted
instance en19 : Enters Tryd.prog 19 := Enters.of Tryd.func19 (by rfl) (by decide)   -- aircheck/contract.ValidSpots
instance en20 : Enters Tryd.prog 20 := Enters.of Tryd.func20 (by rfl) (by decide)   -- aircheck/aircheckref12.ValidSpots
instance en21 : Enters Tryd.prog 21 := Enters.of Tryd.func21 (by rfl) (by decide)   -- aircheck/aircheckref12.Ints
instance en22 : Enters Tryd.prog 22 := Enters.of Tryd.func22 (by rfl) (by decide)   -- aircheck/contract.May
instance en23 : Enters Tryd.prog 23 := Enters.of Tryd.func23 (by rfl) (by decide)   -- aircheck/aircheckref12.May
instance en24 : Enters Tryd.prog 24 := Enters.of Tryd.func24 (by rfl) (by decide)   -- aircheck/contract.Missing
instance en25 : Enters Tryd.prog 25 := Enters.of Tryd.func25 (by rfl) (by decide)   -- aircheck/aircheckref12.Missing
instance en26 : Enters Tryd.prog 26 := Enters.of Tryd.func26 (by rfl) (by decide)   -- aircheck/contract.Reason
instance en27 : Enters Tryd.prog 27 := Enters.of Tryd.func27 (by rfl) (by decide)   -- aircheck/aircheckref12.Reason
instance en28 : Enters Tryd.prog 28 := Enters.of Tryd.func28 (by rfl) (by decide)   -- aircheck/aircheckref12.Find
instance en29 : Enters Tryd.prog 29 := Enters.of Tryd.func29 (by rfl) (by decide)   -- aircheck/week.In
instance en30 : Enters Tryd.prog 30 := Enters.of Tryd.func30 (by rfl) (by decide)   -- aircheck/airchecklaw12.kept
instance en31 : Enters Tryd.prog 31 := Enters.of Tryd.func31 (by rfl) (by decide)   -- aircheck/airchecklaw12.same
instance en32 : Enters Tryd.prog 32 := Enters.of Tryd.func32 (by rfl) (by decide)   -- aircheck/airchecklaw12.example
instance en33 : Enters Tryd.prog 33 := Enters.of Tryd.func33 (by rfl) (by decide)   -- aircheck/aircheckref12.pick
instance en34 : Enters Tryd.prog 34 := Enters.of Tryd.func34 (by rfl) (by decide)   -- aircheck/contract.right
instance en35 : Enters Tryd.prog 35 := Enters.of Tryd.func35 (by rfl) (by decide)   -- aircheck/aircheckref12.one
instance en36 : Enters Tryd.prog 36 := Enters.of Tryd.func36 (by rfl) (by decide)   -- aircheck/contract.count
instance en37 : Enters Tryd.prog 37 := Enters.of Tryd.func37 (by rfl) (by decide)   -- aircheck/aircheckref12.order
instance en38 : Enters Tryd.prog 38 := Enters.of Tryd.func38 (by rfl) (by decide)   -- aircheck/aircheckref12.reason
instance en39 : Enters Tryd.prog 39 := Enters.of Tryd.func39 (by rfl) (by decide)   -- slices.ContainsFunc[[]aircheck/api.Spot,aircheck/api.Spot]
instance en40 : Enters Tryd.prog 40 := Enters.of Tryd.func40 (by rfl) (by decide)   -- aircheck/contract.ValidSpots$1
instance en41 : Enters Tryd.prog 41 := Enters.of Tryd.func41 (by rfl) (by decide)   -- aircheck/contract.good
instance en42 : Enters Tryd.prog 42 := Enters.of Tryd.func42 (by rfl) (by decide)   -- aircheck/aircheckref12.spot
instance en43 : Enters Tryd.prog 43 := Enters.of Tryd.func43 (by rfl) (by decide)   -- aircheck/contract.between
instance en44 : Enters Tryd.prog 44 := Enters.of Tryd.func44 (by rfl) (by decide)   -- (ptr aircheck/contract.tally).reason
instance en45 : Enters Tryd.prog 45 := Enters.of Tryd.func45 (by rfl) (by decide)   -- aircheck/aircheckref12.in
instance en46 : Enters Tryd.prog 46 := Enters.of Tryd.func46 (by rfl) (by decide)   -- aircheck/week.Valid
instance en47 : Enters Tryd.prog 47 := Enters.of Tryd.func47 (by rfl) (by decide)   -- aircheck/week.has
instance en48 : Enters Tryd.prog 48 := Enters.of Tryd.func48 (by rfl) (by decide)   -- aircheck/aircheckref06.Valid
instance en49 : Enters Tryd.prog 49 := Enters.of Tryd.func49 (by rfl) (by decide)   -- aircheck/aircheckref06.ValidSpell
instance en50 : Enters Tryd.prog 50 := Enters.of Tryd.func50 (by rfl) (by decide)   -- slices.SortStableFunc[[]int,int]
instance en51 : Enters Tryd.prog 51 := Enters.of Tryd.func51 (by rfl) (by decide)   -- aircheck/contract.count$1
instance en52 : Enters Tryd.prog 52 := Enters.of Tryd.func52 (by rfl) (by decide)   -- cmp.Or[int]
instance en53 : Enters Tryd.prog 53 := Enters.of Tryd.func53 (by rfl) (by decide)   -- cmp.Compare[int]
instance en54 : Enters Tryd.prog 54 := Enters.of Tryd.func54 (by rfl) (by decide)   -- aircheck/contract.on
instance en55 : Enters Tryd.prog 55 := Enters.of Tryd.func55 (by rfl) (by decide)   -- aircheck/aircheckref06.In
instance en56 : Enters Tryd.prog 56 := Enters.of Tryd.func56 (by rfl) (by decide)   -- aircheck/aircheckref12.near
instance en57 : Enters Tryd.prog 57 := Enters.of Tryd.func57 (by rfl) (by decide)   -- slices.IndexFunc[[]aircheck/api.Spot,aircheck/api.Spot]
instance en58 : Enters Tryd.prog 58 := Enters.of Tryd.func58 (by rfl) (by decide)   -- slices.stableCmpFunc[int]
instance en59 : Enters Tryd.prog 59 := Enters.of Tryd.func59 (by rfl) (by decide)   -- cmp.isNaN[int]
instance en60 : Enters Tryd.prog 60 := Enters.of Tryd.func60 (by rfl) (by decide)   -- aircheck/aircheckref06.has
instance en61 : Enters Tryd.prog 61 := Enters.of Tryd.func61 (by rfl) (by decide)   -- slices.insertionSortCmpFunc[int]
instance en62 : Enters Tryd.prog 62 := Enters.of Tryd.func62 (by rfl) (by decide)   -- slices.symMergeCmpFunc[int]
instance en63 : Enters Tryd.prog 63 := Enters.of Tryd.func63 (by rfl) (by decide)   -- slices.rotateCmpFunc[int]
instance en64 : Enters Tryd.prog 64 := Enters.of Tryd.func64 (by rfl) (by decide)   -- slices.swapRangeCmpFunc[int]
instance en81 : Enters Tryd.prog 81 := Enters.of Tryd.func81 (by rfl) (by decide)   -- aircheck/contract.tests$1
instance en82 : Enters Tryd.prog 82 := Enters.of Tryd.func82 (by rfl) (by decide)   -- aircheck/contract.tests$2
instance en83 : Enters Tryd.prog 83 := Enters.of Tryd.func83 (by rfl) (by decide)   -- aircheck/contract.tests$3
instance en84 : Enters Tryd.prog 84 := Enters.of Tryd.func84 (by rfl) (by decide)   -- aircheck/contract.tests$4
instance en85 : Enters Tryd.prog 85 := Enters.of Tryd.func85 (by rfl) (by decide)   -- aircheck/contract.tests$5
instance en86 : Enters Tryd.prog 86 := Enters.of Tryd.func86 (by rfl) (by decide)   -- aircheck/contract.tests$6
instance en90 : Enters Tryd.prog 90 := Enters.of Tryd.func90 (by rfl) (by decide)   -- gosem.cut.vars
structure GWeek where
  a0 : Int
  a1 : Int
  a2 : Int
  a3 : Int
  a4 : Int
  a5 : Int
  a6 : Int
  deriving DecidableEq, Inhabited
def GWeek.enc (x : GWeek) : List Value := [.int .i64 x.a0, .int .i64 x.a1, .int .i64 x.a2, .int .i64 x.a3, .int .i64 x.a4, .int .i64 x.a5, .int .i64 x.a6]
def fGWeek : Flat GWeek := ⟨7, GWeek.enc, fun _ => rfl⟩
structure GSpell where
  From : Int
  To : Int
  deriving DecidableEq, Inhabited
def GSpell.enc (x : GSpell) : List Value := [.int .i64 x.From, .int .i64 x.To]
def fGSpell : Flat GSpell := ⟨2, GSpell.enc, fun _ => rfl⟩
structure GContract where
  ID : Int
  Sponsor : Int
  Category : Int
  Item : Int
  Count : Int
  PerDay : Int
  Gap : Int
  Price : Int
  Week : GWeek
  Window : GSpell
  deriving DecidableEq, Inhabited
def GContract.enc (x : GContract) : List Value := [.int .i64 x.ID, .int .i64 x.Sponsor, .int .i64 x.Category, .int .i64 x.Item, .int .i64 x.Count, .int .i64 x.PerDay, .int .i64 x.Gap, .int .i64 x.Price, .int .i64 x.Week.a0, .int .i64 x.Week.a1, .int .i64 x.Week.a2, .int .i64 x.Week.a3, .int .i64 x.Week.a4, .int .i64 x.Week.a5, .int .i64 x.Week.a6, .int .i64 x.Window.From, .int .i64 x.Window.To]
def fGContract : Flat GContract := ⟨17, GContract.enc, fun _ => rfl⟩
structure GSpot where
  Contract : Int
  At : Int
  deriving DecidableEq, Inhabited
def GSpot.enc (x : GSpot) : List Value := [.int .i64 x.Contract, .int .i64 x.At]
def fGSpot : Flat GSpot := ⟨2, GSpot.enc, fun _ => rfl⟩
structure GArr8Int where
  a0 : Int
  a1 : Int
  a2 : Int
  a3 : Int
  a4 : Int
  a5 : Int
  a6 : Int
  a7 : Int
  deriving DecidableEq, Inhabited
def GArr8Int.enc (x : GArr8Int) : List Value := [.int .i64 x.a0, .int .i64 x.a1, .int .i64 x.a2, .int .i64 x.a3, .int .i64 x.a4, .int .i64 x.a5, .int .i64 x.a6, .int .i64 x.a7]
def fGArr8Int : Flat GArr8Int := ⟨8, GArr8Int.enc, fun _ => rfl⟩
structure GArr2Int where
  a0 : Int
  a1 : Int
  deriving DecidableEq, Inhabited
def GArr2Int.enc (x : GArr2Int) : List Value := [.int .i64 x.a0, .int .i64 x.a1]
def fGArr2Int : Flat GArr2Int := ⟨2, GArr2Int.enc, fun _ => rfl⟩
structure GDay where
  contract : Int
  day : Int
  deriving DecidableEq, Inhabited
def GDay.enc (x : GDay) : List Value := [.int .i64 x.contract, .int .i64 x.day]
def fGDay : Flat GDay := ⟨2, GDay.enc, fun _ => rfl⟩
theorem bd25_0_1_2_3_4_5_6 {ρ : Operand → Value} {w : World} {d : Option Tmp} {ty : TypeId} {pos : String} {af : Array Edge} {g : Option (Nat × Bool)} {a0 a1 a2 a3 a4 a5 a6 : Operand} {x0 : Int} {x1 : Int} {x2 : Int} {x3 : Int} {x4 : Int} {x5 : Int} {x6 : Int} (h0 : ρ a0 = .int .i64 x0) (h1 : ρ a1 = .int .i64 x1) (h2 : ρ a2 = .int .i64 x2) (h3 : ρ a3 = .int .i64 x3) (h4 : ρ a4 = .int .i64 x4) (h5 : ρ a5 = .int .i64 x5) (h6 : ρ a6 = .int .i64 x6) : Runs Tryd.prog ρ ⟨d, .build 25 #[(0, a0), (1, a1), (2, a2), (3, a3), (4, a4), (5, a5), (6, a6)], ty, pos, af, g⟩ w (.ok (.value (.agg #[.int .i64 x0, .int .i64 x1, .int .i64 x2, .int .i64 x3, .int .i64 x4, .int .i64 x5, .int .i64 x6])) w) := ⟨by
  have e : (Instr.build 25 #[(0, .int .i64 x0), (1, .int .i64 x1), (2, .int .i64 x2), (3, .int .i64 x3), (4, .int .i64 x4), (5, .int .i64 x5), (6, .int .i64 x6)]).run Tryd.prog w = .ok (.agg #[.int .i64 x0, .int .i64 x1, .int .i64 x2, .int .i64 x3, .int .i64 x4, .int .i64 x5, .int .i64 x6]) w := by kernel_rfl
  simp only [execOp, List.map_toArray, List.map_cons, List.map_nil, h0, h1, h2, h3, h4, h5, h6]
  exact run_bind e⟩
-- BUILD 25 bd25_0_1_2_3_4_5_6 7
theorem bd27_1 {ρ : Operand → Value} {w : World} {d : Option Tmp} {ty : TypeId} {pos : String} {af : Array Edge} {g : Option (Nat × Bool)} {a0 : Operand} {x0 : Int} (h0 : ρ a0 = .int .i64 x0) : Runs Tryd.prog ρ ⟨d, .build 27 #[(1, a0)], ty, pos, af, g⟩ w (.ok (.value (.agg #[.int .i64 0, .int .i64 x0])) w) := ⟨by
  have e : (Instr.build 27 #[(1, .int .i64 x0)]).run Tryd.prog w = .ok (.agg #[.int .i64 0, .int .i64 x0]) w := by kernel_rfl
  simp only [execOp, List.map_toArray, List.map_cons, List.map_nil, h0]
  exact run_bind e⟩
-- BUILD 27 bd27_1 1
theorem bd29_ {ρ : Operand → Value} {w : World} {d : Option Tmp} {ty : TypeId} {pos : String} {af : Array Edge} {g : Option (Nat × Bool)}    : Runs Tryd.prog ρ ⟨d, .build 29 #[], ty, pos, af, g⟩ w (.ok (.value (.agg #[.int .i64 0, .int .i64 0, .int .i64 0, .int .i64 0, .int .i64 0, .int .i64 0, .int .i64 0, .int .i64 0, .int .i64 0, .int .i64 0, .int .i64 0, .int .i64 0, .int .i64 0, .int .i64 0, .int .i64 0, .int .i64 0, .int .i64 0])) w) := ⟨by
  have e : (Instr.build 29 #[]).run Tryd.prog w = .ok (.agg #[.int .i64 0, .int .i64 0, .int .i64 0, .int .i64 0, .int .i64 0, .int .i64 0, .int .i64 0, .int .i64 0, .int .i64 0, .int .i64 0, .int .i64 0, .int .i64 0, .int .i64 0, .int .i64 0, .int .i64 0, .int .i64 0, .int .i64 0]) w := by kernel_rfl
  simp only [execOp, List.map_toArray, List.map_cons, List.map_nil]
  exact run_bind e⟩
-- BUILD 29 bd29_ 0
theorem bd29_0_1_2_3_4_6_7 {ρ : Operand → Value} {w : World} {d : Option Tmp} {ty : TypeId} {pos : String} {af : Array Edge} {g : Option (Nat × Bool)} {a0 a1 a2 a3 a4 a5 a6 : Operand} {x0 : Int} {x1 : Int} {x2 : Int} {x3 : Int} {x4 : Int} {x5 : Int} {x6 : Int} (h0 : ρ a0 = .int .i64 x0) (h1 : ρ a1 = .int .i64 x1) (h2 : ρ a2 = .int .i64 x2) (h3 : ρ a3 = .int .i64 x3) (h4 : ρ a4 = .int .i64 x4) (h5 : ρ a5 = .int .i64 x5) (h6 : ρ a6 = .int .i64 x6) : Runs Tryd.prog ρ ⟨d, .build 29 #[(0, a0), (1, a1), (2, a2), (3, a3), (4, a4), (6, a5), (7, a6)], ty, pos, af, g⟩ w (.ok (.value (.agg #[.int .i64 x0, .int .i64 x1, .int .i64 x2, .int .i64 x3, .int .i64 x4, .int .i64 0, .int .i64 x5, .int .i64 x6, .int .i64 0, .int .i64 0, .int .i64 0, .int .i64 0, .int .i64 0, .int .i64 0, .int .i64 0, .int .i64 0, .int .i64 0])) w) := ⟨by
  have e : (Instr.build 29 #[(0, .int .i64 x0), (1, .int .i64 x1), (2, .int .i64 x2), (3, .int .i64 x3), (4, .int .i64 x4), (6, .int .i64 x5), (7, .int .i64 x6)]).run Tryd.prog w = .ok (.agg #[.int .i64 x0, .int .i64 x1, .int .i64 x2, .int .i64 x3, .int .i64 x4, .int .i64 0, .int .i64 x5, .int .i64 x6, .int .i64 0, .int .i64 0, .int .i64 0, .int .i64 0, .int .i64 0, .int .i64 0, .int .i64 0, .int .i64 0, .int .i64 0]) w := by kernel_rfl
  simp only [execOp, List.map_toArray, List.map_cons, List.map_nil, h0, h1, h2, h3, h4, h5, h6]
  exact run_bind e⟩
-- BUILD 29 bd29_0_1_2_3_4_6_7 7
theorem bd29_0_1_2_4_5_6_8_9 {ρ : Operand → Value} {w : World} {d : Option Tmp} {ty : TypeId} {pos : String} {af : Array Edge} {g : Option (Nat × Bool)} {a0 a1 a2 a3 a4 a5 a6 a7 : Operand} {x0 : Int} {x1 : Int} {x2 : Int} {x3 : Int} {x4 : Int} {x5 : Int} {x6 : Int} {x7 : Int} {x8 : Int} {x9 : Int} {x10 : Int} {x11 : Int} {x12 : Int} {x13 : Int} {x14 : Int} (h0 : ρ a0 = .int .i64 x0) (h1 : ρ a1 = .int .i64 x1) (h2 : ρ a2 = .int .i64 x2) (h3 : ρ a3 = .int .i64 x3) (h4 : ρ a4 = .int .i64 x4) (h5 : ρ a5 = .int .i64 x5) (h6 : ρ a6 = .agg #[.int .i64 x6, .int .i64 x7, .int .i64 x8, .int .i64 x9, .int .i64 x10, .int .i64 x11, .int .i64 x12]) (h7 : ρ a7 = .agg #[.int .i64 x13, .int .i64 x14]) : Runs Tryd.prog ρ ⟨d, .build 29 #[(0, a0), (1, a1), (2, a2), (4, a3), (5, a4), (6, a5), (8, a6), (9, a7)], ty, pos, af, g⟩ w (.ok (.value (.agg #[.int .i64 x0, .int .i64 x1, .int .i64 x2, .int .i64 0, .int .i64 x3, .int .i64 x4, .int .i64 x5, .int .i64 0, .int .i64 x6, .int .i64 x7, .int .i64 x8, .int .i64 x9, .int .i64 x10, .int .i64 x11, .int .i64 x12, .int .i64 x13, .int .i64 x14])) w) := ⟨by
  have e : (Instr.build 29 #[(0, .int .i64 x0), (1, .int .i64 x1), (2, .int .i64 x2), (4, .int .i64 x3), (5, .int .i64 x4), (6, .int .i64 x5), (8, .agg #[.int .i64 x6, .int .i64 x7, .int .i64 x8, .int .i64 x9, .int .i64 x10, .int .i64 x11, .int .i64 x12]), (9, .agg #[.int .i64 x13, .int .i64 x14])]).run Tryd.prog w = .ok (.agg #[.int .i64 x0, .int .i64 x1, .int .i64 x2, .int .i64 0, .int .i64 x3, .int .i64 x4, .int .i64 x5, .int .i64 0, .int .i64 x6, .int .i64 x7, .int .i64 x8, .int .i64 x9, .int .i64 x10, .int .i64 x11, .int .i64 x12, .int .i64 x13, .int .i64 x14]) w := by kernel_rfl
  simp only [execOp, List.map_toArray, List.map_cons, List.map_nil, h0, h1, h2, h3, h4, h5, h6, h7]
  exact run_bind e⟩
-- BUILD 29 bd29_0_1_2_4_5_6_8_9 8
theorem bd31_ {ρ : Operand → Value} {w : World} {d : Option Tmp} {ty : TypeId} {pos : String} {af : Array Edge} {g : Option (Nat × Bool)}    : Runs Tryd.prog ρ ⟨d, .build 31 #[], ty, pos, af, g⟩ w (.ok (.value (.agg #[.int .i64 0, .int .i64 0])) w) := ⟨by
  have e : (Instr.build 31 #[]).run Tryd.prog w = .ok (.agg #[.int .i64 0, .int .i64 0]) w := by kernel_rfl
  simp only [execOp, List.map_toArray, List.map_cons, List.map_nil]
  exact run_bind e⟩
-- BUILD 31 bd31_ 0
theorem bd31_0 {ρ : Operand → Value} {w : World} {d : Option Tmp} {ty : TypeId} {pos : String} {af : Array Edge} {g : Option (Nat × Bool)} {a0 : Operand} {x0 : Int} (h0 : ρ a0 = .int .i64 x0) : Runs Tryd.prog ρ ⟨d, .build 31 #[(0, a0)], ty, pos, af, g⟩ w (.ok (.value (.agg #[.int .i64 x0, .int .i64 0])) w) := ⟨by
  have e : (Instr.build 31 #[(0, .int .i64 x0)]).run Tryd.prog w = .ok (.agg #[.int .i64 x0, .int .i64 0]) w := by kernel_rfl
  simp only [execOp, List.map_toArray, List.map_cons, List.map_nil, h0]
  exact run_bind e⟩
-- BUILD 31 bd31_0 1
theorem bd31_0_1 {ρ : Operand → Value} {w : World} {d : Option Tmp} {ty : TypeId} {pos : String} {af : Array Edge} {g : Option (Nat × Bool)} {a0 a1 : Operand} {x0 : Int} {x1 : Int} (h0 : ρ a0 = .int .i64 x0) (h1 : ρ a1 = .int .i64 x1) : Runs Tryd.prog ρ ⟨d, .build 31 #[(0, a0), (1, a1)], ty, pos, af, g⟩ w (.ok (.value (.agg #[.int .i64 x0, .int .i64 x1])) w) := ⟨by
  have e : (Instr.build 31 #[(0, .int .i64 x0), (1, .int .i64 x1)]).run Tryd.prog w = .ok (.agg #[.int .i64 x0, .int .i64 x1]) w := by kernel_rfl
  simp only [execOp, List.map_toArray, List.map_cons, List.map_nil, h0, h1]
  exact run_bind e⟩
-- BUILD 31 bd31_0_1 2
theorem bd78_0_1_2_3 {ρ : Operand → Value} {w : World} {d : Option Tmp} {ty : TypeId} {pos : String} {af : Array Edge} {g : Option (Nat × Bool)} {a0 a1 a2 a3 : Operand} {x0A : Option Nat} {x1A : Option Nat} {x2A : Option Nat} {x3A : Option Nat} (h0 : ρ a0 = .map x0A) (h1 : ρ a1 = .map x1A) (h2 : ρ a2 = .map x2A) (h3 : ρ a3 = .map x3A) : Runs Tryd.prog ρ ⟨d, .build 78 #[(0, a0), (1, a1), (2, a2), (3, a3)], ty, pos, af, g⟩ w (.ok (.value (.agg #[.map x0A, .map x1A, .map x2A, .map x3A])) w) := ⟨by
  have e : (Instr.build 78 #[(0, .map x0A), (1, .map x1A), (2, .map x2A), (3, .map x3A)]).run Tryd.prog w = .ok (.agg #[.map x0A, .map x1A, .map x2A, .map x3A]) w := by kernel_rfl
  simp only [execOp, List.map_toArray, List.map_cons, List.map_nil, h0, h1, h2, h3]
  exact run_bind e⟩
-- BUILD 78 bd78_0_1_2_3 4
theorem bd84_0_1 {ρ : Operand → Value} {w : World} {d : Option Tmp} {ty : TypeId} {pos : String} {af : Array Edge} {g : Option (Nat × Bool)} {a0 a1 : Operand} {x0 : Int} {x1 : Int} (h0 : ρ a0 = .int .i64 x0) (h1 : ρ a1 = .int .i64 x1) : Runs Tryd.prog ρ ⟨d, .build 84 #[(0, a0), (1, a1)], ty, pos, af, g⟩ w (.ok (.value (.agg #[.int .i64 x0, .int .i64 x1])) w) := ⟨by
  have e : (Instr.build 84 #[(0, .int .i64 x0), (1, .int .i64 x1)]).run Tryd.prog w = .ok (.agg #[.int .i64 x0, .int .i64 x1]) w := by kernel_rfl
  simp only [execOp, List.map_toArray, List.map_cons, List.map_nil, h0, h1]
  exact run_bind e⟩
-- BUILD 84 bd84_0_1 2
theorem eqv31 {d : Nat} {w : World} {x0 y0 : Int} {x1 y1 : Int} (hd : 2 ≤ d) : (Op.equalIn d 31 (.agg #[.int .i64 x0, .int .i64 x1]) (.agg #[.int .i64 y0, .int .i64 y1])).run Tryd.prog w = .ok (decide ((GSpot.mk x0 x1) = (GSpot.mk y0 y1))) w := by
  have h := eqStruct (P := Tryd.prog) (T := 31) (w := w) (xs := #[.int .i64 x0, .int .i64 x1]) (ys := #[.int .i64 y0, .int .i64 y1]) Tryd.underlying31 (by kernel_rfl) (by omega : 1 ≤ d) (ef_cons rfl (part1 rfl) (part1 rfl) (eqInt (by omega)) (ef_cons rfl (part1 rfl) (part1 rfl) (eqInt (by omega)) ef_nil))
  rw [h]
  congr 1
  rw [Bool.eq_iff_iff]
  simp
theorem eql31 {ρ : Operand → Value} {w : World} {d : Option Tmp} {ty T' : TypeId} {pos : String} {af : Array Edge} {g : Option (Nat × Bool)} {s t : Operand} {x0 y0 : Int} {x1 y1 : Int} (h1 : ρ s = .agg #[.int .i64 x0, .int .i64 x1]) (h2 : ρ t = .agg #[.int .i64 y0, .int .i64 y1]) :
    Runs Tryd.prog ρ ⟨d, .binOp .eql 31 s t T', ty, pos, af, g⟩ w (.ok (.value (.bool (decide ((GSpot.mk x0 x1) = (GSpot.mk y0 y1))))) w) := r_eqlAgg h1 h2 (by kernel_rfl) (eqv31 (by decide))
theorem neq31 {ρ : Operand → Value} {w : World} {d : Option Tmp} {ty T' : TypeId} {pos : String} {af : Array Edge} {g : Option (Nat × Bool)} {s t : Operand} {x0 y0 : Int} {x1 y1 : Int} (h1 : ρ s = .agg #[.int .i64 x0, .int .i64 x1]) (h2 : ρ t = .agg #[.int .i64 y0, .int .i64 y1]) :
    Runs Tryd.prog ρ ⟨d, .binOp .neq 31 s t T', ty, pos, af, g⟩ w (.ok (.value (.bool (!decide ((GSpot.mk x0 x1) = (GSpot.mk y0 y1))))) w) := r_neqAgg h1 h2 (by kernel_rfl) (eqv31 (by decide))
instance im73 : IsMap Tryd.prog 73 3 29 := ⟨Tryd.underlying73⟩
instance im74 : IsMap Tryd.prog 74 31 4 := ⟨Tryd.underlying74⟩
instance im75 : IsMap Tryd.prog 75 3 3 := ⟨Tryd.underlying75⟩
instance im76 : IsMap Tryd.prog 76 84 3 := ⟨Tryd.underlying76⟩
instance mk3 : MKey Tryd.prog 3 (fun x : Int => Value.int .i64 x) := MKey.int Tryd.underlying3
instance mk31 : MKey Tryd.prog 31 (fun x : GSpot => Value.agg x.enc.toArray) := MKey.agg Tryd.underlying31 (fun k => ⟨_, rfl⟩) (fun a b w => by cases a; cases b; exact eqv31 (by decide)) (fun e k w => by cases k; kernel_rfl) (fun k => by cases k; simp [GSpot.enc, Instr.sameBits])
theorem eqv84 {d : Nat} {w : World} {x0 y0 : Int} {x1 y1 : Int} (hd : 2 ≤ d) : (Op.equalIn d 84 (.agg #[.int .i64 x0, .int .i64 x1]) (.agg #[.int .i64 y0, .int .i64 y1])).run Tryd.prog w = .ok (decide ((GDay.mk x0 x1) = (GDay.mk y0 y1))) w := by
  have h := eqStruct (P := Tryd.prog) (T := 84) (w := w) (xs := #[.int .i64 x0, .int .i64 x1]) (ys := #[.int .i64 y0, .int .i64 y1]) Tryd.underlying84 (by kernel_rfl) (by omega : 1 ≤ d) (ef_cons rfl (part1 rfl) (part1 rfl) (eqInt (by omega)) (ef_cons rfl (part1 rfl) (part1 rfl) (eqInt (by omega)) ef_nil))
  rw [h]
  congr 1
  rw [Bool.eq_iff_iff]
  simp
instance mk84 : MKey Tryd.prog 84 (fun x : GDay => Value.agg x.enc.toArray) := MKey.agg Tryd.underlying84 (fun k => ⟨_, rfl⟩) (fun a b w => by cases a; cases b; exact eqv84 (by decide)) (fun e k w => by cases k; kernel_rfl) (fun k => by cases k; simp [GDay.enc, Instr.sameBits])

end Go.Proofs.YteplelijhkmbkaaDoor

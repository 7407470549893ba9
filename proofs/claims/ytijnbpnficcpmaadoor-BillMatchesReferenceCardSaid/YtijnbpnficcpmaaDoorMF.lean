/- Merged texts: Facts. -/
import Derived.Test.YtijnbpnficcpmaaDoorProg
import Derived.Test.YtijnbpnficcpmaaDoorMG1
import Derived.KernelRfl
set_option linter.unusedVariables false
set_option linter.unusedSimpArgs false
namespace Go.Proofs.YtijnbpnficcpmaaDoor
open Go Go.Gx

instance tf1 : TF Tryd.prog 1 false 1 := ⟨Tryd.isAgg1, Tryd.sizeOf1⟩
instance ti1 : TI Tryd.prog 1 (.nilFunc) 1 8 := TI.of (by kernel_rfl)
instance tf2 : TF Tryd.prog 2 false 1 := ⟨Tryd.isAgg2, Tryd.sizeOf2⟩
instance ti2 : TI Tryd.prog 2 (.int .i64 0) 1 8 := TI.of (by kernel_rfl)
instance is2 : IsInt Tryd.prog 2 .i64 := ⟨Tryd.underlying2⟩
instance tf3 : TF Tryd.prog 3 false 1 := ⟨Tryd.isAgg3, Tryd.sizeOf3⟩
instance ti3 : TI Tryd.prog 3 (.int .i64 0) 1 8 := TI.of (by kernel_rfl)
instance is3 : IsInt Tryd.prog 3 .i64 := ⟨Tryd.underlying3⟩
instance tf4 : TF Tryd.prog 4 false 1 := ⟨Tryd.isAgg4, Tryd.sizeOf4⟩
instance ti4 : TI Tryd.prog 4 (.bool false) 1 1 := TI.of (by kernel_rfl)
instance is4 : IsBool Tryd.prog 4 := ⟨Tryd.underlying4⟩
instance tf5 : TF Tryd.prog 5 false 1 := ⟨Tryd.isAgg5, Tryd.sizeOf5⟩
instance ti5 : TI Tryd.prog 5 (.int .u8 0) 1 1 := TI.of (by kernel_rfl)
instance is5 : IsInt Tryd.prog 5 .u8 := ⟨Tryd.underlying5⟩
instance tf9 : TF Tryd.prog 9 false 1 := ⟨Tryd.isAgg9, Tryd.sizeOf9⟩
instance ti9 : TI Tryd.prog 9 (.string ⟨#[]⟩) 1 16 := TI.of (by kernel_rfl)
instance is9 : IsStr Tryd.prog 9 := ⟨Tryd.underlying9⟩
instance tf12 : TF Tryd.prog 12 false 1 := ⟨Tryd.isAgg12, Tryd.sizeOf12⟩
instance ti12 : TI Tryd.prog 12 (.int .u64 0) 1 8 := TI.of (by kernel_rfl)
instance is12 : IsInt Tryd.prog 12 .u64 := ⟨Tryd.underlying12⟩
instance tf21 : TF Tryd.prog 21 false 1 := ⟨Tryd.isAgg21, Tryd.sizeOf21⟩
instance ti21 : TI Tryd.prog 21 (.int .i32 0) 1 4 := TI.of (by kernel_rfl)
instance is21 : IsInt Tryd.prog 21 .i32 := ⟨Tryd.underlying21⟩
instance tf22 : TF Tryd.prog 22 false 1 := ⟨Tryd.isAgg22, Tryd.sizeOf22⟩
instance ti22 : TI Tryd.prog 22 (.slice none 0 0) 1 24 := TI.of (by kernel_rfl)
instance is22 : IsSlice Tryd.prog 22 70 := ⟨Tryd.underlying22⟩
instance tf23 : TF Tryd.prog 23 false 1 := ⟨Tryd.isAgg23, Tryd.sizeOf23⟩
instance ti23 : TI Tryd.prog 23 (.slice none 0 0) 1 24 := TI.of (by kernel_rfl)
instance is23 : IsSlice Tryd.prog 23 63 := ⟨Tryd.underlying23⟩
instance tf24 : TF Tryd.prog 24 false 1 := ⟨Tryd.isAgg24, Tryd.sizeOf24⟩
instance ti24 : TI Tryd.prog 24 (.slice none 0 0) 1 24 := TI.of (by kernel_rfl)
instance is24 : IsSlice Tryd.prog 24 60 := ⟨Tryd.underlying24⟩
instance tf25 : TF Tryd.prog 25 false 1 := ⟨Tryd.isAgg25, Tryd.sizeOf25⟩
instance ti25 : TI Tryd.prog 25 (.slice none 0 0) 1 24 := TI.of (by kernel_rfl)
instance is25 : IsSlice Tryd.prog 25 84 := ⟨Tryd.underlying25⟩
instance tf26 : TF Tryd.prog 26 true 3 := ⟨Tryd.isAgg26, Tryd.sizeOf26⟩
instance ti26 : TI Tryd.prog 26 (.agg #[.int .i64 0, .slice none 0 0, .int .i64 0]) 3 40 := TI.of (by kernel_rfl)
instance tf27 : TF Tryd.prog 27 true 3 := ⟨Tryd.isAgg27, Tryd.sizeOf27⟩
instance ti27 : TI Tryd.prog 27 (.agg #[.int .i64 0, .slice none 0 0, .int .i64 0]) 3 40 := TI.of (by kernel_rfl)
instance tf28 : TF Tryd.prog 28 false 1 := ⟨Tryd.isAgg28, Tryd.sizeOf28⟩
instance ti28 : TI Tryd.prog 28 (.slice none 0 0) 1 24 := TI.of (by kernel_rfl)
instance is28 : IsSlice Tryd.prog 28 3 := ⟨Tryd.underlying28⟩
instance tf29 : TF Tryd.prog 29 true 8 := ⟨Tryd.isAgg29, Tryd.sizeOf29⟩
instance ti29 : TI Tryd.prog 29 (.agg #[.slice none 0 0, .slice none 0 0, .slice none 0 0, .int .i64 0, .slice none 0 0, .int .i64 0, .slice none 0 0, .slice none 0 0]) 8 160 := TI.of (by kernel_rfl)
instance tf30 : TF Tryd.prog 30 true 8 := ⟨Tryd.isAgg30, Tryd.sizeOf30⟩
instance ti30 : TI Tryd.prog 30 (.agg #[.slice none 0 0, .slice none 0 0, .slice none 0 0, .int .i64 0, .slice none 0 0, .int .i64 0, .slice none 0 0, .slice none 0 0]) 8 160 := TI.of (by kernel_rfl)
instance tf31 : TF Tryd.prog 31 false 1 := ⟨Tryd.isAgg31, Tryd.sizeOf31⟩
instance ti31 : TI Tryd.prog 31 (.slice none 0 0) 1 24 := TI.of (by kernel_rfl)
instance is31 : IsSlice Tryd.prog 31 85 := ⟨Tryd.underlying31⟩
instance tf32 : TF Tryd.prog 32 false 1 := ⟨Tryd.isAgg32, Tryd.sizeOf32⟩
instance ti32 : TI Tryd.prog 32 (.slice none 0 0) 1 24 := TI.of (by kernel_rfl)
instance is32 : IsSlice Tryd.prog 32 86 := ⟨Tryd.underlying32⟩
instance tf33 : TF Tryd.prog 33 false 1 := ⟨Tryd.isAgg33, Tryd.sizeOf33⟩
instance ti33 : TI Tryd.prog 33 (.slice none 0 0) 1 24 := TI.of (by kernel_rfl)
instance is33 : IsSlice Tryd.prog 33 87 := ⟨Tryd.underlying33⟩
instance tf34 : TF Tryd.prog 34 false 1 := ⟨Tryd.isAgg34, Tryd.sizeOf34⟩
instance ti34 : TI Tryd.prog 34 (.nilFunc) 1 8 := TI.of (by kernel_rfl)
instance tf35 : TF Tryd.prog 35 false 1 := ⟨Tryd.isAgg35, Tryd.sizeOf35⟩
instance ti35 : TI Tryd.prog 35 (.nilFunc) 1 8 := TI.of (by kernel_rfl)
instance tf36 : TF Tryd.prog 36 false 1 := ⟨Tryd.isAgg36, Tryd.sizeOf36⟩
instance ti36 : TI Tryd.prog 36 (.nilFunc) 1 8 := TI.of (by kernel_rfl)
instance tf38 : TF Tryd.prog 38 false 1 := ⟨Tryd.isAgg38, Tryd.sizeOf38⟩
instance ti38 : TI Tryd.prog 38 (.nilFunc) 1 8 := TI.of (by kernel_rfl)
instance tf39 : TF Tryd.prog 39 false 1 := ⟨Tryd.isAgg39, Tryd.sizeOf39⟩
instance ti39 : TI Tryd.prog 39 (.slice none 0 0) 1 24 := TI.of (by kernel_rfl)
instance is39 : IsSlice Tryd.prog 39 22 := ⟨Tryd.underlying39⟩
instance tf40 : TF Tryd.prog 40 false 1 := ⟨Tryd.isAgg40, Tryd.sizeOf40⟩
instance ti40 : TI Tryd.prog 40 (.slice none 0 0) 1 24 := TI.of (by kernel_rfl)
instance is40 : IsSlice Tryd.prog 40 23 := ⟨Tryd.underlying40⟩
instance tf41 : TF Tryd.prog 41 false 1 := ⟨Tryd.isAgg41, Tryd.sizeOf41⟩
instance ti41 : TI Tryd.prog 41 (.slice none 0 0) 1 24 := TI.of (by kernel_rfl)
instance is41 : IsSlice Tryd.prog 41 24 := ⟨Tryd.underlying41⟩
instance tf42 : TF Tryd.prog 42 false 1 := ⟨Tryd.isAgg42, Tryd.sizeOf42⟩
instance ti42 : TI Tryd.prog 42 (.nilFunc) 1 8 := TI.of (by kernel_rfl)
instance tf43 : TF Tryd.prog 43 false 1 := ⟨Tryd.isAgg43, Tryd.sizeOf43⟩
instance ti43 : TI Tryd.prog 43 (.slice none 0 0) 1 24 := TI.of (by kernel_rfl)
instance is43 : IsSlice Tryd.prog 43 27 := ⟨Tryd.underlying43⟩
instance tf44 : TF Tryd.prog 44 false 1 := ⟨Tryd.isAgg44, Tryd.sizeOf44⟩
instance ti44 : TI Tryd.prog 44 (.nilFunc) 1 8 := TI.of (by kernel_rfl)
instance tf45 : TF Tryd.prog 45 false 1 := ⟨Tryd.isAgg45, Tryd.sizeOf45⟩
instance ti45 : TI Tryd.prog 45 (.int .i64 0) 1 8 := TI.of (by kernel_rfl)
instance is45 : IsInt Tryd.prog 45 .i64 := ⟨Tryd.underlying45⟩
instance tf47 : TF Tryd.prog 47 false 1 := ⟨Tryd.isAgg47, Tryd.sizeOf47⟩
instance ti47 : TI Tryd.prog 47 (.nilFunc) 1 8 := TI.of (by kernel_rfl)
instance tf49 : TF Tryd.prog 49 false 1 := ⟨Tryd.isAgg49, Tryd.sizeOf49⟩
instance ti49 : TI Tryd.prog 49 (.nilFunc) 1 8 := TI.of (by kernel_rfl)
instance tf50 : TF Tryd.prog 50 false 1 := ⟨Tryd.isAgg50, Tryd.sizeOf50⟩
instance ti50 : TI Tryd.prog 50 (.nilFunc) 1 8 := TI.of (by kernel_rfl)
instance tf51 : TF Tryd.prog 51 false 1 := ⟨Tryd.isAgg51, Tryd.sizeOf51⟩
instance ti51 : TI Tryd.prog 51 (.nilFunc) 1 8 := TI.of (by kernel_rfl)
instance tf53 : TF Tryd.prog 53 false 1 := ⟨Tryd.isAgg53, Tryd.sizeOf53⟩
instance ti53 : TI Tryd.prog 53 (.nilFunc) 1 8 := TI.of (by kernel_rfl)
instance tf54 : TF Tryd.prog 54 false 1 := ⟨Tryd.isAgg54, Tryd.sizeOf54⟩
instance ti54 : TI Tryd.prog 54 (.nilFunc) 1 8 := TI.of (by kernel_rfl)
instance tf55 : TF Tryd.prog 55 false 1 := ⟨Tryd.isAgg55, Tryd.sizeOf55⟩
instance ti55 : TI Tryd.prog 55 (.nilFunc) 1 8 := TI.of (by kernel_rfl)
instance tf56 : TF Tryd.prog 56 false 1 := ⟨Tryd.isAgg56, Tryd.sizeOf56⟩
instance ti56 : TI Tryd.prog 56 (.nilFunc) 1 8 := TI.of (by kernel_rfl)
instance tf57 : TF Tryd.prog 57 false 1 := ⟨Tryd.isAgg57, Tryd.sizeOf57⟩
instance ti57 : TI Tryd.prog 57 (.nilFunc) 1 8 := TI.of (by kernel_rfl)
instance tf58 : TF Tryd.prog 58 false 1 := ⟨Tryd.isAgg58, Tryd.sizeOf58⟩
instance ti58 : TI Tryd.prog 58 (.nilFunc) 1 8 := TI.of (by kernel_rfl)
instance tf59 : TF Tryd.prog 59 true 2 := ⟨Tryd.isAgg59, Tryd.sizeOf59⟩
instance ti59 : TI Tryd.prog 59 (.agg #[.int .i64 0, .int .i64 0]) 2 16 := TI.of (by kernel_rfl)
instance tf60 : TF Tryd.prog 60 true 2 := ⟨Tryd.isAgg60, Tryd.sizeOf60⟩
instance ti60 : TI Tryd.prog 60 (.agg #[.int .i64 0, .int .i64 0]) 2 16 := TI.of (by kernel_rfl)
instance tf61 : TF Tryd.prog 61 false 1 := ⟨Tryd.isAgg61, Tryd.sizeOf61⟩
instance ti61 : TI Tryd.prog 61 (.nilFunc) 1 8 := TI.of (by kernel_rfl)
instance tf62 : TF Tryd.prog 62 true 2 := ⟨Tryd.isAgg62, Tryd.sizeOf62⟩
instance ti62 : TI Tryd.prog 62 (.agg #[.int .i64 0, .int .i64 0]) 2 16 := TI.of (by kernel_rfl)
instance tf63 : TF Tryd.prog 63 true 2 := ⟨Tryd.isAgg63, Tryd.sizeOf63⟩
instance ti63 : TI Tryd.prog 63 (.agg #[.int .i64 0, .int .i64 0]) 2 16 := TI.of (by kernel_rfl)
instance tf64 : TF Tryd.prog 64 false 1 := ⟨Tryd.isAgg64, Tryd.sizeOf64⟩
instance ti64 : TI Tryd.prog 64 (.nilFunc) 1 8 := TI.of (by kernel_rfl)
instance tf65 : TF Tryd.prog 65 true 7 := ⟨Tryd.isAgg65, Tryd.sizeOf65⟩
instance ti65 : TI Tryd.prog 65 (.agg #[.int .i64 0, .int .i64 0, .int .i64 0, .int .i64 0, .int .i64 0, .int .i64 0, .int .i64 0]) 7 56 := TI.of (by kernel_rfl)
instance is65 : IsArr Tryd.prog 65 7 3 := ⟨Tryd.underlying65⟩
instance tf66 : TF Tryd.prog 66 true 7 := ⟨Tryd.isAgg66, Tryd.sizeOf66⟩
instance ti66 : TI Tryd.prog 66 (.agg #[.int .i64 0, .int .i64 0, .int .i64 0, .int .i64 0, .int .i64 0, .int .i64 0, .int .i64 0]) 7 56 := TI.of (by kernel_rfl)
instance is66 : IsArr Tryd.prog 66 7 3 := ⟨Tryd.underlying66⟩
instance tf67 : TF Tryd.prog 67 true 2 := ⟨Tryd.isAgg67, Tryd.sizeOf67⟩
instance ti67 : TI Tryd.prog 67 (.agg #[.int .i64 0, .int .i64 0]) 2 16 := TI.of (by kernel_rfl)
instance tf68 : TF Tryd.prog 68 true 2 := ⟨Tryd.isAgg68, Tryd.sizeOf68⟩
instance ti68 : TI Tryd.prog 68 (.agg #[.int .i64 0, .int .i64 0]) 2 16 := TI.of (by kernel_rfl)
instance tf69 : TF Tryd.prog 69 true 17 := ⟨Tryd.isAgg69, Tryd.sizeOf69⟩
instance ti69 : TI Tryd.prog 69 (.agg #[.int .i64 0, .int .i64 0, .int .i64 0, .int .i64 0, .int .i64 0, .int .i64 0, .int .i64 0, .int .i64 0, .int .i64 0, .int .i64 0, .int .i64 0, .int .i64 0, .int .i64 0, .int .i64 0, .int .i64 0, .int .i64 0, .int .i64 0]) 17 136 := TI.of (by kernel_rfl)
instance tf70 : TF Tryd.prog 70 true 17 := ⟨Tryd.isAgg70, Tryd.sizeOf70⟩
instance ti70 : TI Tryd.prog 70 (.agg #[.int .i64 0, .int .i64 0, .int .i64 0, .int .i64 0, .int .i64 0, .int .i64 0, .int .i64 0, .int .i64 0, .int .i64 0, .int .i64 0, .int .i64 0, .int .i64 0, .int .i64 0, .int .i64 0, .int .i64 0, .int .i64 0, .int .i64 0]) 17 136 := TI.of (by kernel_rfl)
instance tf71 : TF Tryd.prog 71 false 1 := ⟨Tryd.isAgg71, Tryd.sizeOf71⟩
instance ti71 : TI Tryd.prog 71 (.nilFunc) 1 8 := TI.of (by kernel_rfl)
instance tf72 : TF Tryd.prog 72 false 1 := ⟨Tryd.isAgg72, Tryd.sizeOf72⟩
instance ti72 : TI Tryd.prog 72 (.nilFunc) 1 8 := TI.of (by kernel_rfl)
instance tf73 : TF Tryd.prog 73 false 1 := ⟨Tryd.isAgg73, Tryd.sizeOf73⟩
instance ti73 : TI Tryd.prog 73 (.nilFunc) 1 8 := TI.of (by kernel_rfl)
instance tf74 : TF Tryd.prog 74 false 1 := ⟨Tryd.isAgg74, Tryd.sizeOf74⟩
instance ti74 : TI Tryd.prog 74 (.nilFunc) 1 8 := TI.of (by kernel_rfl)
instance tf75 : TF Tryd.prog 75 false 1 := ⟨Tryd.isAgg75, Tryd.sizeOf75⟩
instance ti75 : TI Tryd.prog 75 (.nilFunc) 1 8 := TI.of (by kernel_rfl)
instance tf76 : TF Tryd.prog 76 true 3 := ⟨Tryd.isAgg76, Tryd.sizeOf76⟩
instance ti76 : TI Tryd.prog 76 (.agg #[.int .i64 0, .int .i64 0, .int .i64 0]) 3 24 := TI.of (by kernel_rfl)
instance is76 : IsArr Tryd.prog 76 3 3 := ⟨Tryd.underlying76⟩
instance tf77 : TF Tryd.prog 77 false 1 := ⟨Tryd.isAgg77, Tryd.sizeOf77⟩
instance ti77 : TI Tryd.prog 77 (.nilFunc) 1 8 := TI.of (by kernel_rfl)
instance tf78 : TF Tryd.prog 78 false 1 := ⟨Tryd.isAgg78, Tryd.sizeOf78⟩
instance ti78 : TI Tryd.prog 78 (.nilFunc) 1 8 := TI.of (by kernel_rfl)
instance tf79 : TF Tryd.prog 79 false 1 := ⟨Tryd.isAgg79, Tryd.sizeOf79⟩
instance ti79 : TI Tryd.prog 79 (.nilFunc) 1 8 := TI.of (by kernel_rfl)
instance tf80 : TF Tryd.prog 80 false 1 := ⟨Tryd.isAgg80, Tryd.sizeOf80⟩
instance ti80 : TI Tryd.prog 80 (.nilFunc) 1 8 := TI.of (by kernel_rfl)
instance tf81 : TF Tryd.prog 81 false 1 := ⟨Tryd.isAgg81, Tryd.sizeOf81⟩
instance ti81 : TI Tryd.prog 81 (.nilFunc) 1 8 := TI.of (by kernel_rfl)
instance tf82 : TF Tryd.prog 82 false 1 := ⟨Tryd.isAgg82, Tryd.sizeOf82⟩
instance ti82 : TI Tryd.prog 82 (.nilFunc) 1 8 := TI.of (by kernel_rfl)
instance tf83 : TF Tryd.prog 83 true 7 := ⟨Tryd.isAgg83, Tryd.sizeOf83⟩
instance ti83 : TI Tryd.prog 83 (.agg #[.int .i64 0, .int .i64 0, .int .i64 0, .int .i64 0, .int .i64 0, .int .i64 0, .int .i64 0]) 7 56 := TI.of (by kernel_rfl)
instance tf84 : TF Tryd.prog 84 true 7 := ⟨Tryd.isAgg84, Tryd.sizeOf84⟩
instance ti84 : TI Tryd.prog 84 (.agg #[.int .i64 0, .int .i64 0, .int .i64 0, .int .i64 0, .int .i64 0, .int .i64 0, .int .i64 0]) 7 56 := TI.of (by kernel_rfl)
instance tf85 : TF Tryd.prog 85 true 8 := ⟨Tryd.isAgg85, Tryd.sizeOf85⟩
instance ti85 : TI Tryd.prog 85 (.agg #[.int .i64 0, .int .i64 0, .int .i64 0, .int .i64 0, .int .i64 0, .int .i64 0, .int .i64 0, .int .i64 0]) 8 64 := TI.of (by kernel_rfl)
instance is85 : IsArr Tryd.prog 85 8 3 := ⟨Tryd.underlying85⟩
instance tf86 : TF Tryd.prog 86 true 2 := ⟨Tryd.isAgg86, Tryd.sizeOf86⟩
instance ti86 : TI Tryd.prog 86 (.agg #[.int .i64 0, .int .i64 0]) 2 16 := TI.of (by kernel_rfl)
instance is86 : IsArr Tryd.prog 86 2 3 := ⟨Tryd.underlying86⟩
instance tf87 : TF Tryd.prog 87 true 5 := ⟨Tryd.isAgg87, Tryd.sizeOf87⟩
instance ti87 : TI Tryd.prog 87 (.agg #[.int .i64 0, .int .i64 0, .int .i64 0, .int .i64 0, .int .i64 0]) 5 40 := TI.of (by kernel_rfl)
instance is87 : IsArr Tryd.prog 87 5 3 := ⟨Tryd.underlying87⟩
instance tf89 : TF Tryd.prog 89 false 1 := ⟨Tryd.isAgg89, Tryd.sizeOf89⟩
instance ti89 : TI Tryd.prog 89 (.nilFunc) 1 8 := TI.of (by kernel_rfl)
instance tf90 : TF Tryd.prog 90 false 1 := ⟨Tryd.isAgg90, Tryd.sizeOf90⟩
instance ti90 : TI Tryd.prog 90 (.nilFunc) 1 8 := TI.of (by kernel_rfl)
instance tf91 : TF Tryd.prog 91 false 1 := ⟨Tryd.isAgg91, Tryd.sizeOf91⟩
instance ti91 : TI Tryd.prog 91 (.nilFunc) 1 8 := TI.of (by kernel_rfl)
instance tf92 : TF Tryd.prog 92 false 1 := ⟨Tryd.isAgg92, Tryd.sizeOf92⟩
instance ti92 : TI Tryd.prog 92 (.nilFunc) 1 8 := TI.of (by kernel_rfl)
instance tf93 : TF Tryd.prog 93 false 1 := ⟨Tryd.isAgg93, Tryd.sizeOf93⟩
instance ti93 : TI Tryd.prog 93 (.nilFunc) 1 8 := TI.of (by kernel_rfl)
instance tf94 : TF Tryd.prog 94 false 1 := ⟨Tryd.isAgg94, Tryd.sizeOf94⟩
instance ti94 : TI Tryd.prog 94 (.map none) 1 8 := TI.of (by kernel_rfl)
instance tf96 : TF Tryd.prog 96 false 1 := ⟨Tryd.isAgg96, Tryd.sizeOf96⟩
instance ti96 : TI Tryd.prog 96 (.nilFunc) 1 8 := TI.of (by kernel_rfl)
instance tf97 : TF Tryd.prog 97 false 1 := ⟨Tryd.isAgg97, Tryd.sizeOf97⟩
instance ti97 : TI Tryd.prog 97 (.nilFunc) 1 8 := TI.of (by kernel_rfl)
instance tf98 : TF Tryd.prog 98 false 1 := ⟨Tryd.isAgg98, Tryd.sizeOf98⟩
instance ti98 : TI Tryd.prog 98 (.nilFunc) 1 8 := TI.of (by kernel_rfl)
instance tf99 : TF Tryd.prog 99 false 1 := ⟨Tryd.isAgg99, Tryd.sizeOf99⟩
instance ti99 : TI Tryd.prog 99 (.nilFunc) 1 8 := TI.of (by kernel_rfl)
instance tf100 : TF Tryd.prog 100 false 1 := ⟨Tryd.isAgg100, Tryd.sizeOf100⟩
instance ti100 : TI Tryd.prog 100 (.pointer none) 1 8 := TI.of (by kernel_rfl)
instance tf101 : TF Tryd.prog 101 false 1 := ⟨Tryd.isAgg101, Tryd.sizeOf101⟩
instance ti101 : TI Tryd.prog 101 (.nilFunc) 1 8 := TI.of (by kernel_rfl)
instance tf102 : TF Tryd.prog 102 true 4 := ⟨Tryd.isAgg102, Tryd.sizeOf102⟩
instance ti102 : TI Tryd.prog 102 (.agg #[.int .i64 0, .slice none 0 0, .int .i64 0, .bool false]) 4 48 := TI.of (by kernel_rfl)
instance tf103 : TF Tryd.prog 103 true 4 := ⟨Tryd.isAgg103, Tryd.sizeOf103⟩
instance ti103 : TI Tryd.prog 103 (.agg #[.int .i64 0, .slice none 0 0, .int .i64 0, .bool false]) 4 48 := TI.of (by kernel_rfl)
instance tf104 : TF Tryd.prog 104 false 1 := ⟨Tryd.isAgg104, Tryd.sizeOf104⟩
instance ti104 : TI Tryd.prog 104 (.nilFunc) 1 8 := TI.of (by kernel_rfl)
instance tf105 : TF Tryd.prog 105 false 1 := ⟨Tryd.isAgg105, Tryd.sizeOf105⟩
instance ti105 : TI Tryd.prog 105 (.nilFunc) 1 8 := TI.of (by kernel_rfl)
instance tf106 : TF Tryd.prog 106 false 1 := ⟨Tryd.isAgg106, Tryd.sizeOf106⟩
instance ti106 : TI Tryd.prog 106 (.nilFunc) 1 8 := TI.of (by kernel_rfl)
instance tf107 : TF Tryd.prog 107 false 1 := ⟨Tryd.isAgg107, Tryd.sizeOf107⟩
instance ti107 : TI Tryd.prog 107 (.nilFunc) 1 8 := TI.of (by kernel_rfl)
instance tf108 : TF Tryd.prog 108 false 1 := ⟨Tryd.isAgg108, Tryd.sizeOf108⟩
instance ti108 : TI Tryd.prog 108 (.nilFunc) 1 8 := TI.of (by kernel_rfl)
instance tf109 : TF Tryd.prog 109 false 1 := ⟨Tryd.isAgg109, Tryd.sizeOf109⟩
instance ti109 : TI Tryd.prog 109 (.slice none 0 0) 1 24 := TI.of (by kernel_rfl)
instance is109 : IsSlice Tryd.prog 109 4 := ⟨Tryd.underlying109⟩
instance tf110 : TF Tryd.prog 110 false 1 := ⟨Tryd.isAgg110, Tryd.sizeOf110⟩
instance ti110 : TI Tryd.prog 110 (.nilFunc) 1 8 := TI.of (by kernel_rfl)
instance tf111 : TF Tryd.prog 111 false 1 := ⟨Tryd.isAgg111, Tryd.sizeOf111⟩
instance ti111 : TI Tryd.prog 111 (.pointer none) 1 8 := TI.of (by kernel_rfl)
instance tf113 : TF Tryd.prog 113 false 1 := ⟨Tryd.isAgg113, Tryd.sizeOf113⟩
instance ti113 : TI Tryd.prog 113 (.nilFunc) 1 8 := TI.of (by kernel_rfl)
instance tf114 : TF Tryd.prog 114 false 1 := ⟨Tryd.isAgg114, Tryd.sizeOf114⟩
instance ti114 : TI Tryd.prog 114 (.pointer none) 1 8 := TI.of (by kernel_rfl)
instance tf116 : TF Tryd.prog 116 false 1 := ⟨Tryd.isAgg116, Tryd.sizeOf116⟩
instance ti116 : TI Tryd.prog 116 (.nilFunc) 1 8 := TI.of (by kernel_rfl)
instance tf117 : TF Tryd.prog 117 true 200 := ⟨Tryd.isAgg117, Tryd.sizeOf117⟩
instance ti117 : TI Tryd.prog 117 (.agg #[.bool false, .bool false, .bool false, .bool false, .bool false, .bool false, .bool false, .bool false, .bool false, .bool false, .bool false, .bool false, .bool false, .bool false, .bool false, .bool false, .bool false, .bool false, .bool false, .bool false, .bool false, .bool false, .bool false, .bool false, .bool false, .bool false, .bool false, .bool false, .bool false, .bool false, .bool false, .bool false, .bool false, .bool false, .bool false, .bool false, .bool false, .bool false, .bool false, .bool false, .bool false, .bool false, .bool false, .bool false, .bool false, .bool false, .bool false, .bool false, .bool false, .bool false, .bool false, .bool false, .bool false, .bool false, .bool false, .bool false, .bool false, .bool false, .bool false, .bool false, .bool false, .bool false, .bool false, .bool false, .bool false, .bool false, .bool false, .bool false, .bool false, .bool false, .bool false, .bool false, .bool false, .bool false, .bool false, .bool false, .bool false, .bool false, .bool false, .bool false, .bool false, .bool false, .bool false, .bool false, .bool false, .bool false, .bool false, .bool false, .bool false, .bool false, .bool false, .bool false, .bool false, .bool false, .bool false, .bool false, .bool false, .bool false, .bool false, .bool false, .bool false, .bool false, .bool false, .bool false, .bool false, .bool false, .bool false, .bool false, .bool false, .bool false, .bool false, .bool false, .bool false, .bool false, .bool false, .bool false, .bool false, .bool false, .bool false, .bool false, .bool false, .bool false, .bool false, .bool false, .bool false, .bool false, .bool false, .bool false, .bool false, .bool false, .bool false, .bool false, .bool false, .bool false, .bool false, .bool false, .bool false, .bool false, .bool false, .bool false, .bool false, .bool false, .bool false, .bool false, .bool false, .bool false, .bool false, .bool false, .bool false, .bool false, .bool false, .bool false, .bool false, .bool false, .bool false, .bool false, .bool false, .bool false, .bool false, .bool false, .bool false, .bool false, .bool false, .bool false, .bool false, .bool false, .bool false, .bool false, .bool false, .bool false, .bool false, .bool false, .bool false, .bool false, .bool false, .bool false, .bool false, .bool false, .bool false, .bool false, .bool false, .bool false, .bool false, .bool false, .bool false, .bool false, .bool false, .bool false, .bool false, .bool false, .bool false, .bool false, .bool false, .bool false, .bool false, .bool false, .bool false, .bool false, .bool false, .bool false]) 200 200 := TI.of (by kernel_rfl)
instance is117 : IsArr Tryd.prog 117 200 4 := ⟨Tryd.underlying117⟩
instance tf118 : TF Tryd.prog 118 true 203 := ⟨Tryd.isAgg118, Tryd.sizeOf118⟩
instance ti118 : TI Tryd.prog 118 (.agg #[.int .i64 0, .slice none 0 0, .int .i64 0, .bool false, .bool false, .bool false, .bool false, .bool false, .bool false, .bool false, .bool false, .bool false, .bool false, .bool false, .bool false, .bool false, .bool false, .bool false, .bool false, .bool false, .bool false, .bool false, .bool false, .bool false, .bool false, .bool false, .bool false, .bool false, .bool false, .bool false, .bool false, .bool false, .bool false, .bool false, .bool false, .bool false, .bool false, .bool false, .bool false, .bool false, .bool false, .bool false, .bool false, .bool false, .bool false, .bool false, .bool false, .bool false, .bool false, .bool false, .bool false, .bool false, .bool false, .bool false, .bool false, .bool false, .bool false, .bool false, .bool false, .bool false, .bool false, .bool false, .bool false, .bool false, .bool false, .bool false, .bool false, .bool false, .bool false, .bool false, .bool false, .bool false, .bool false, .bool false, .bool false, .bool false, .bool false, .bool false, .bool false, .bool false, .bool false, .bool false, .bool false, .bool false, .bool false, .bool false, .bool false, .bool false, .bool false, .bool false, .bool false, .bool false, .bool false, .bool false, .bool false, .bool false, .bool false, .bool false, .bool false, .bool false, .bool false, .bool false, .bool false, .bool false, .bool false, .bool false, .bool false, .bool false, .bool false, .bool false, .bool false, .bool false, .bool false, .bool false, .bool false, .bool false, .bool false, .bool false, .bool false, .bool false, .bool false, .bool false, .bool false, .bool false, .bool false, .bool false, .bool false, .bool false, .bool false, .bool false, .bool false, .bool false, .bool false, .bool false, .bool false, .bool false, .bool false, .bool false, .bool false, .bool false, .bool false, .bool false, .bool false, .bool false, .bool false, .bool false, .bool false, .bool false, .bool false, .bool false, .bool false, .bool false, .bool false, .bool false, .bool false, .bool false, .bool false, .bool false, .bool false, .bool false, .bool false, .bool false, .bool false, .bool false, .bool false, .bool false, .bool false, .bool false, .bool false, .bool false, .bool false, .bool false, .bool false, .bool false, .bool false, .bool false, .bool false, .bool false, .bool false, .bool false, .bool false, .bool false, .bool false, .bool false, .bool false, .bool false, .bool false, .bool false, .bool false, .bool false, .bool false, .bool false, .bool false, .bool false, .bool false, .bool false, .bool false, .bool false, .bool false, .bool false, .bool false, .bool false, .bool false]) 203 240 := TI.of (by kernel_rfl)
instance tf119 : TF Tryd.prog 119 true 203 := ⟨Tryd.isAgg119, Tryd.sizeOf119⟩
instance ti119 : TI Tryd.prog 119 (.agg #[.int .i64 0, .slice none 0 0, .int .i64 0, .bool false, .bool false, .bool false, .bool false, .bool false, .bool false, .bool false, .bool false, .bool false, .bool false, .bool false, .bool false, .bool false, .bool false, .bool false, .bool false, .bool false, .bool false, .bool false, .bool false, .bool false, .bool false, .bool false, .bool false, .bool false, .bool false, .bool false, .bool false, .bool false, .bool false, .bool false, .bool false, .bool false, .bool false, .bool false, .bool false, .bool false, .bool false, .bool false, .bool false, .bool false, .bool false, .bool false, .bool false, .bool false, .bool false, .bool false, .bool false, .bool false, .bool false, .bool false, .bool false, .bool false, .bool false, .bool false, .bool false, .bool false, .bool false, .bool false, .bool false, .bool false, .bool false, .bool false, .bool false, .bool false, .bool false, .bool false, .bool false, .bool false, .bool false, .bool false, .bool false, .bool false, .bool false, .bool false, .bool false, .bool false, .bool false, .bool false, .bool false, .bool false, .bool false, .bool false, .bool false, .bool false, .bool false, .bool false, .bool false, .bool false, .bool false, .bool false, .bool false, .bool false, .bool false, .bool false, .bool false, .bool false, .bool false, .bool false, .bool false, .bool false, .bool false, .bool false, .bool false, .bool false, .bool false, .bool false, .bool false, .bool false, .bool false, .bool false, .bool false, .bool false, .bool false, .bool false, .bool false, .bool false, .bool false, .bool false, .bool false, .bool false, .bool false, .bool false, .bool false, .bool false, .bool false, .bool false, .bool false, .bool false, .bool false, .bool false, .bool false, .bool false, .bool false, .bool false, .bool false, .bool false, .bool false, .bool false, .bool false, .bool false, .bool false, .bool false, .bool false, .bool false, .bool false, .bool false, .bool false, .bool false, .bool false, .bool false, .bool false, .bool false, .bool false, .bool false, .bool false, .bool false, .bool false, .bool false, .bool false, .bool false, .bool false, .bool false, .bool false, .bool false, .bool false, .bool false, .bool false, .bool false, .bool false, .bool false, .bool false, .bool false, .bool false, .bool false, .bool false, .bool false, .bool false, .bool false, .bool false, .bool false, .bool false, .bool false, .bool false, .bool false, .bool false, .bool false, .bool false, .bool false, .bool false, .bool false, .bool false, .bool false, .bool false, .bool false, .bool false, .bool false, .bool false, .bool false, .bool false]) 203 240 := TI.of (by kernel_rfl)
instance tf120 : TF Tryd.prog 120 true 16 := ⟨Tryd.isAgg120, Tryd.sizeOf120⟩
instance ti120 : TI Tryd.prog 120 (.agg #[.int .i64 0, .int .i64 0, .int .i64 0, .int .i64 0, .int .i64 0, .int .i64 0, .int .i64 0, .int .i64 0, .int .i64 0, .int .i64 0, .int .i64 0, .int .i64 0, .int .i64 0, .int .i64 0, .int .i64 0, .int .i64 0]) 16 128 := TI.of (by kernel_rfl)
instance is120 : IsArr Tryd.prog 120 16 3 := ⟨Tryd.underlying120⟩
instance tf121 : TF Tryd.prog 121 true 16 := ⟨Tryd.isAgg121, Tryd.sizeOf121⟩
instance ti121 : TI Tryd.prog 121 (.agg #[.int .i64 0, .int .i64 0, .int .i64 0, .int .i64 0, .int .i64 0, .int .i64 0, .int .i64 0, .int .i64 0, .int .i64 0, .int .i64 0, .int .i64 0, .int .i64 0, .int .i64 0, .int .i64 0, .int .i64 0, .int .i64 0]) 16 128 := TI.of (by kernel_rfl)
instance is121 : IsArr Tryd.prog 121 16 3 := ⟨Tryd.underlying121⟩
instance tf122 : TF Tryd.prog 122 false 1 := ⟨Tryd.isAgg122, Tryd.sizeOf122⟩
instance ti122 : TI Tryd.prog 122 (.nilFunc) 1 8 := TI.of (by kernel_rfl)
instance tf123 : TF Tryd.prog 123 false 1 := ⟨Tryd.isAgg123, Tryd.sizeOf123⟩
instance ti123 : TI Tryd.prog 123 (.nilFunc) 1 8 := TI.of (by kernel_rfl)
instance tf124 : TF Tryd.prog 124 false 1 := ⟨Tryd.isAgg124, Tryd.sizeOf124⟩
instance ti124 : TI Tryd.prog 124 (.nilFunc) 1 8 := TI.of (by kernel_rfl)
instance tf125 : TF Tryd.prog 125 false 1 := ⟨Tryd.isAgg125, Tryd.sizeOf125⟩
instance ti125 : TI Tryd.prog 125 (.nilFunc) 1 8 := TI.of (by kernel_rfl)
instance tf126 : TF Tryd.prog 126 false 1 := ⟨Tryd.isAgg126, Tryd.sizeOf126⟩
instance ti126 : TI Tryd.prog 126 (.nilFunc) 1 8 := TI.of (by kernel_rfl)
instance tf127 : TF Tryd.prog 127 false 1 := ⟨Tryd.isAgg127, Tryd.sizeOf127⟩
instance ti127 : TI Tryd.prog 127 (.nilFunc) 1 8 := TI.of (by kernel_rfl)
instance tf128 : TF Tryd.prog 128 false 1 := ⟨Tryd.isAgg128, Tryd.sizeOf128⟩
instance ti128 : TI Tryd.prog 128 (.nilFunc) 1 8 := TI.of (by kernel_rfl)
instance tf129 : TF Tryd.prog 129 false 1 := ⟨Tryd.isAgg129, Tryd.sizeOf129⟩
instance ti129 : TI Tryd.prog 129 (.nilFunc) 1 8 := TI.of (by kernel_rfl)
instance tf130 : TF Tryd.prog 130 false 1 := ⟨Tryd.isAgg130, Tryd.sizeOf130⟩
instance ti130 : TI Tryd.prog 130 (.nilFunc) 1 8 := TI.of (by kernel_rfl)
instance tf131 : TF Tryd.prog 131 false 1 := ⟨Tryd.isAgg131, Tryd.sizeOf131⟩
instance ti131 : TI Tryd.prog 131 (.nilFunc) 1 8 := TI.of (by kernel_rfl)
instance tf132 : TF Tryd.prog 132 false 1 := ⟨Tryd.isAgg132, Tryd.sizeOf132⟩
instance ti132 : TI Tryd.prog 132 (.nilFunc) 1 8 := TI.of (by kernel_rfl)
instance tf133 : TF Tryd.prog 133 false 1 := ⟨Tryd.isAgg133, Tryd.sizeOf133⟩
instance ti133 : TI Tryd.prog 133 (.nilFunc) 1 8 := TI.of (by kernel_rfl)
instance tf134 : TF Tryd.prog 134 false 1 := ⟨Tryd.isAgg134, Tryd.sizeOf134⟩
instance ti134 : TI Tryd.prog 134 (.nilFunc) 1 8 := TI.of (by kernel_rfl)
instance tf135 : TF Tryd.prog 135 false 1 := ⟨Tryd.isAgg135, Tryd.sizeOf135⟩
instance ti135 : TI Tryd.prog 135 (.nilFunc) 1 8 := TI.of (by kernel_rfl)
instance tf136 : TF Tryd.prog 136 false 1 := ⟨Tryd.isAgg136, Tryd.sizeOf136⟩
instance ti136 : TI Tryd.prog 136 (.nilFunc) 1 8 := TI.of (by kernel_rfl)
instance tf137 : TF Tryd.prog 137 false 1 := ⟨Tryd.isAgg137, Tryd.sizeOf137⟩
instance ti137 : TI Tryd.prog 137 (.nilFunc) 1 8 := TI.of (by kernel_rfl)
instance tf138 : TF Tryd.prog 138 false 1 := ⟨Tryd.isAgg138, Tryd.sizeOf138⟩
instance ti138 : TI Tryd.prog 138 (.map none) 1 8 := TI.of (by kernel_rfl)
instance tf139 : TF Tryd.prog 139 false 1 := ⟨Tryd.isAgg139, Tryd.sizeOf139⟩
instance ti139 : TI Tryd.prog 139 (.map none) 1 8 := TI.of (by kernel_rfl)
instance tf140 : TF Tryd.prog 140 false 1 := ⟨Tryd.isAgg140, Tryd.sizeOf140⟩
instance ti140 : TI Tryd.prog 140 (.map none) 1 8 := TI.of (by kernel_rfl)
instance tf141 : TF Tryd.prog 141 true 4 := ⟨Tryd.isAgg141, Tryd.sizeOf141⟩
instance ti141 : TI Tryd.prog 141 (.agg #[.map none, .map none, .map none, .map none]) 4 32 := TI.of (by kernel_rfl)
instance tf142 : TF Tryd.prog 142 true 4 := ⟨Tryd.isAgg142, Tryd.sizeOf142⟩
instance ti142 : TI Tryd.prog 142 (.agg #[.map none, .map none, .map none, .map none]) 4 32 := TI.of (by kernel_rfl)
instance tf143 : TF Tryd.prog 143 false 1 := ⟨Tryd.isAgg143, Tryd.sizeOf143⟩
instance ti143 : TI Tryd.prog 143 (.nilFunc) 1 8 := TI.of (by kernel_rfl)
instance tf144 : TF Tryd.prog 144 false 1 := ⟨Tryd.isAgg144, Tryd.sizeOf144⟩
instance ti144 : TI Tryd.prog 144 (.nilFunc) 1 8 := TI.of (by kernel_rfl)
instance tf145 : TF Tryd.prog 145 true 2 := ⟨Tryd.isAgg145, Tryd.sizeOf145⟩
instance ti145 : TI Tryd.prog 145 (.agg #[.int .i64 0, .int .i64 0]) 2 16 := TI.of (by kernel_rfl)
instance tf146 : TF Tryd.prog 146 true 2 := ⟨Tryd.isAgg146, Tryd.sizeOf146⟩
instance ti146 : TI Tryd.prog 146 (.agg #[.int .i64 0, .int .i64 0]) 2 16 := TI.of (by kernel_rfl)
instance tf147 : TF Tryd.prog 147 false 1 := ⟨Tryd.isAgg147, Tryd.sizeOf147⟩
instance ti147 : TI Tryd.prog 147 (.nilFunc) 1 8 := TI.of (by kernel_rfl)
instance tf148 : TF Tryd.prog 148 false 1 := ⟨Tryd.isAgg148, Tryd.sizeOf148⟩
instance ti148 : TI Tryd.prog 148 (.nilFunc) 1 8 := TI.of (by kernel_rfl)
instance tf149 : TF Tryd.prog 149 false 1 := ⟨Tryd.isAgg149, Tryd.sizeOf149⟩
instance ti149 : TI Tryd.prog 149 (.pointer none) 1 8 := TI.of (by kernel_rfl)
instance tf150 : TF Tryd.prog 150 false 1 := ⟨Tryd.isAgg150, Tryd.sizeOf150⟩
instance ti150 : TI Tryd.prog 150 (.nilFunc) 1 8 := TI.of (by kernel_rfl)
instance tf151 : TF Tryd.prog 151 false 1 := ⟨Tryd.isAgg151, Tryd.sizeOf151⟩
instance ti151 : TI Tryd.prog 151 (.nilFunc) 1 8 := TI.of (by kernel_rfl)
instance tf152 : TF Tryd.prog 152 false 1 := ⟨Tryd.isAgg152, Tryd.sizeOf152⟩
instance ti152 : TI Tryd.prog 152 (.nilFunc) 1 8 := TI.of (by kernel_rfl)
instance tf153 : TF Tryd.prog 153 false 1 := ⟨Tryd.isAgg153, Tryd.sizeOf153⟩
instance ti153 : TI Tryd.prog 153 (.nilFunc) 1 8 := TI.of (by kernel_rfl)
instance tf154 : TF Tryd.prog 154 false 1 := ⟨Tryd.isAgg154, Tryd.sizeOf154⟩
instance ti154 : TI Tryd.prog 154 (.nilFunc) 1 8 := TI.of (by kernel_rfl)
instance tf155 : TF Tryd.prog 155 false 1 := ⟨Tryd.isAgg155, Tryd.sizeOf155⟩
instance ti155 : TI Tryd.prog 155 (.map none) 1 8 := TI.of (by kernel_rfl)
instance tf156 : TF Tryd.prog 156 false 1 := ⟨Tryd.isAgg156, Tryd.sizeOf156⟩
instance ti156 : TI Tryd.prog 156 (.nilFunc) 1 8 := TI.of (by kernel_rfl)
instance tf157 : TF Tryd.prog 157 false 1 := ⟨Tryd.isAgg157, Tryd.sizeOf157⟩
instance ti157 : TI Tryd.prog 157 (.nilFunc) 1 8 := TI.of (by kernel_rfl)
instance tf158 : TF Tryd.prog 158 false 1 := ⟨Tryd.isAgg158, Tryd.sizeOf158⟩
instance ti158 : TI Tryd.prog 158 (.nilFunc) 1 8 := TI.of (by kernel_rfl)
instance tf159 : TF Tryd.prog 159 false 1 := ⟨Tryd.isAgg159, Tryd.sizeOf159⟩
instance ti159 : TI Tryd.prog 159 (.nilFunc) 1 8 := TI.of (by kernel_rfl)
instance tf160 : TF Tryd.prog 160 false 1 := ⟨Tryd.isAgg160, Tryd.sizeOf160⟩
instance ti160 : TI Tryd.prog 160 (.nilFunc) 1 8 := TI.of (by kernel_rfl)
instance tf162 : TF Tryd.prog 162 false 1 := ⟨Tryd.isAgg162, Tryd.sizeOf162⟩
instance ti162 : TI Tryd.prog 162 (.nilFunc) 1 8 := TI.of (by kernel_rfl)
instance tf163 : TF Tryd.prog 163 true 8 := ⟨Tryd.isAgg163, Tryd.sizeOf163⟩
instance ti163 : TI Tryd.prog 163 (.agg #[.nilFunc, .nilFunc, .nilFunc, .nilFunc, .nilFunc, .nilFunc, .nilFunc, .nilFunc]) 8 64 := TI.of (by kernel_rfl)
instance is163 : IsArr Tryd.prog 163 8 162 := ⟨Tryd.underlying163⟩
instance tf164 : TF Tryd.prog 164 false 1 := ⟨Tryd.isAgg164, Tryd.sizeOf164⟩
instance ti164 : TI Tryd.prog 164 (.nilFunc) 1 8 := TI.of (by kernel_rfl)
instance tf165 : TF Tryd.prog 165 false 1 := ⟨Tryd.isAgg165, Tryd.sizeOf165⟩
instance ti165 : TI Tryd.prog 165 (.int .u64 0) 1 8 := TI.of (by kernel_rfl)
instance is165 : IsInt Tryd.prog 165 .u64 := ⟨Tryd.underlying165⟩
instance tf166 : TF Tryd.prog 166 false 1 := ⟨Tryd.isAgg166, Tryd.sizeOf166⟩
instance ti166 : TI Tryd.prog 166 (.nilFunc) 1 8 := TI.of (by kernel_rfl)
instance tf172 : TF Tryd.prog 172 false 1 := ⟨Tryd.isAgg172, Tryd.sizeOf172⟩
instance ti172 : TI Tryd.prog 172 (.nilFunc) 1 8 := TI.of (by kernel_rfl)
instance tf173 : TF Tryd.prog 173 false 1 := ⟨Tryd.isAgg173, Tryd.sizeOf173⟩
instance ti173 : TI Tryd.prog 173 (.int .u32 0) 1 4 := TI.of (by kernel_rfl)
instance is173 : IsInt Tryd.prog 173 .u32 := ⟨Tryd.underlying173⟩
instance tf176 : TF Tryd.prog 176 false 1 := ⟨Tryd.isAgg176, Tryd.sizeOf176⟩
instance ti176 : TI Tryd.prog 176 (.nilFunc) 1 8 := TI.of (by kernel_rfl)
instance tf177 : TF Tryd.prog 177 false 1 := ⟨Tryd.isAgg177, Tryd.sizeOf177⟩
instance ti177 : TI Tryd.prog 177 (.pointer none) 1 8 := TI.of (by kernel_rfl)
instance fa26_0 : FA Tryd.prog 26 0 0 := ⟨fun _ _ => by kernel_rfl⟩
instance fv26_0 : FV Tryd.prog 26 0 0 := ⟨fun cs v w h => by simp [Instr.field, Z0d Tryd.underlying26, asAgg, part, Tryd.isAgg3, h]⟩
instance fa26_1 : FA Tryd.prog 26 1 1 := ⟨fun _ _ => by kernel_rfl⟩
instance fv26_1 : FV Tryd.prog 26 1 1 := ⟨fun cs v w h => by simp [Instr.field, Z0d Tryd.underlying26, asAgg, part, Tryd.isAgg25, h]⟩
instance fa26_2 : FA Tryd.prog 26 2 2 := ⟨fun _ _ => by kernel_rfl⟩
instance fv26_2 : FV Tryd.prog 26 2 2 := ⟨fun cs v w h => by simp [Instr.field, Z0d Tryd.underlying26, asAgg, part, Tryd.isAgg3, h]⟩
instance fa27_0 : FA Tryd.prog 27 0 0 := ⟨fun _ _ => by kernel_rfl⟩
instance fv27_0 : FV Tryd.prog 27 0 0 := ⟨fun cs v w h => by simp [Instr.field, Z0d Tryd.underlying27, asAgg, part, Tryd.isAgg3, h]⟩
instance fa27_1 : FA Tryd.prog 27 1 1 := ⟨fun _ _ => by kernel_rfl⟩
instance fv27_1 : FV Tryd.prog 27 1 1 := ⟨fun cs v w h => by simp [Instr.field, Z0d Tryd.underlying27, asAgg, part, Tryd.isAgg25, h]⟩
instance fa27_2 : FA Tryd.prog 27 2 2 := ⟨fun _ _ => by kernel_rfl⟩
instance fv27_2 : FV Tryd.prog 27 2 2 := ⟨fun cs v w h => by simp [Instr.field, Z0d Tryd.underlying27, asAgg, part, Tryd.isAgg3, h]⟩
instance fa29_0 : FA Tryd.prog 29 0 0 := ⟨fun _ _ => by kernel_rfl⟩
instance fv29_0 : FV Tryd.prog 29 0 0 := ⟨fun cs v w h => by simp [Instr.field, Z0d Tryd.underlying29, asAgg, part, Tryd.isAgg22, h]⟩
instance fa29_1 : FA Tryd.prog 29 1 1 := ⟨fun _ _ => by kernel_rfl⟩
instance fv29_1 : FV Tryd.prog 29 1 1 := ⟨fun cs v w h => by simp [Instr.field, Z0d Tryd.underlying29, asAgg, part, Tryd.isAgg23, h]⟩
instance fa29_2 : FA Tryd.prog 29 2 2 := ⟨fun _ _ => by kernel_rfl⟩
instance fv29_2 : FV Tryd.prog 29 2 2 := ⟨fun cs v w h => by simp [Instr.field, Z0d Tryd.underlying29, asAgg, part, Tryd.isAgg24, h]⟩
instance fa29_3 : FA Tryd.prog 29 3 3 := ⟨fun _ _ => by kernel_rfl⟩
instance fv29_3 : FVA Tryd.prog 29 3 3 3 := ⟨fun cs w => by simp [Instr.field, Z0d Tryd.underlying29, asAgg, part, Tryd.isAgg27, Tryd.sizeOf27]⟩
instance fa29_4 : FA Tryd.prog 29 4 6 := ⟨fun _ _ => by kernel_rfl⟩
instance fv29_4 : FV Tryd.prog 29 4 6 := ⟨fun cs v w h => by simp [Instr.field, Z0d Tryd.underlying29, asAgg, part, Tryd.isAgg28, h]⟩
instance fa29_5 : FA Tryd.prog 29 5 7 := ⟨fun _ _ => by kernel_rfl⟩
instance fv29_5 : FV Tryd.prog 29 5 7 := ⟨fun cs v w h => by simp [Instr.field, Z0d Tryd.underlying29, asAgg, part, Tryd.isAgg28, h]⟩
instance fa30_0 : FA Tryd.prog 30 0 0 := ⟨fun _ _ => by kernel_rfl⟩
instance fv30_0 : FV Tryd.prog 30 0 0 := ⟨fun cs v w h => by simp [Instr.field, Z0d Tryd.underlying30, asAgg, part, Tryd.isAgg22, h]⟩
instance fa30_1 : FA Tryd.prog 30 1 1 := ⟨fun _ _ => by kernel_rfl⟩
instance fv30_1 : FV Tryd.prog 30 1 1 := ⟨fun cs v w h => by simp [Instr.field, Z0d Tryd.underlying30, asAgg, part, Tryd.isAgg23, h]⟩
instance fa30_2 : FA Tryd.prog 30 2 2 := ⟨fun _ _ => by kernel_rfl⟩
instance fv30_2 : FV Tryd.prog 30 2 2 := ⟨fun cs v w h => by simp [Instr.field, Z0d Tryd.underlying30, asAgg, part, Tryd.isAgg24, h]⟩
instance fa30_3 : FA Tryd.prog 30 3 3 := ⟨fun _ _ => by kernel_rfl⟩
instance fv30_3 : FVA Tryd.prog 30 3 3 3 := ⟨fun cs w => by simp [Instr.field, Z0d Tryd.underlying30, asAgg, part, Tryd.isAgg27, Tryd.sizeOf27]⟩
instance fa30_4 : FA Tryd.prog 30 4 6 := ⟨fun _ _ => by kernel_rfl⟩
instance fv30_4 : FV Tryd.prog 30 4 6 := ⟨fun cs v w h => by simp [Instr.field, Z0d Tryd.underlying30, asAgg, part, Tryd.isAgg28, h]⟩
instance fa30_5 : FA Tryd.prog 30 5 7 := ⟨fun _ _ => by kernel_rfl⟩
instance fv30_5 : FV Tryd.prog 30 5 7 := ⟨fun cs v w h => by simp [Instr.field, Z0d Tryd.underlying30, asAgg, part, Tryd.isAgg28, h]⟩
instance fa59_0 : FA Tryd.prog 59 0 0 := ⟨fun _ _ => by kernel_rfl⟩
instance fv59_0 : FV Tryd.prog 59 0 0 := ⟨fun cs v w h => by simp [Instr.field, Z0d Tryd.underlying59, asAgg, part, Tryd.isAgg3, h]⟩
instance fa59_1 : FA Tryd.prog 59 1 1 := ⟨fun _ _ => by kernel_rfl⟩
instance fv59_1 : FV Tryd.prog 59 1 1 := ⟨fun cs v w h => by simp [Instr.field, Z0d Tryd.underlying59, asAgg, part, Tryd.isAgg3, h]⟩
instance fa60_0 : FA Tryd.prog 60 0 0 := ⟨fun _ _ => by kernel_rfl⟩
instance fv60_0 : FV Tryd.prog 60 0 0 := ⟨fun cs v w h => by simp [Instr.field, Z0d Tryd.underlying60, asAgg, part, Tryd.isAgg3, h]⟩
instance fa60_1 : FA Tryd.prog 60 1 1 := ⟨fun _ _ => by kernel_rfl⟩
instance fv60_1 : FV Tryd.prog 60 1 1 := ⟨fun cs v w h => by simp [Instr.field, Z0d Tryd.underlying60, asAgg, part, Tryd.isAgg3, h]⟩
instance fa62_0 : FA Tryd.prog 62 0 0 := ⟨fun _ _ => by kernel_rfl⟩
instance fv62_0 : FV Tryd.prog 62 0 0 := ⟨fun cs v w h => by simp [Instr.field, Z0d Tryd.underlying62, asAgg, part, Tryd.isAgg3, h]⟩
instance fa62_1 : FA Tryd.prog 62 1 1 := ⟨fun _ _ => by kernel_rfl⟩
instance fv62_1 : FV Tryd.prog 62 1 1 := ⟨fun cs v w h => by simp [Instr.field, Z0d Tryd.underlying62, asAgg, part, Tryd.isAgg3, h]⟩
instance fa63_0 : FA Tryd.prog 63 0 0 := ⟨fun _ _ => by kernel_rfl⟩
instance fv63_0 : FV Tryd.prog 63 0 0 := ⟨fun cs v w h => by simp [Instr.field, Z0d Tryd.underlying63, asAgg, part, Tryd.isAgg3, h]⟩
instance fa63_1 : FA Tryd.prog 63 1 1 := ⟨fun _ _ => by kernel_rfl⟩
instance fv63_1 : FV Tryd.prog 63 1 1 := ⟨fun cs v w h => by simp [Instr.field, Z0d Tryd.underlying63, asAgg, part, Tryd.isAgg3, h]⟩
instance fa67_0 : FA Tryd.prog 67 0 0 := ⟨fun _ _ => by kernel_rfl⟩
instance fv67_0 : FV Tryd.prog 67 0 0 := ⟨fun cs v w h => by simp [Instr.field, Z0d Tryd.underlying67, asAgg, part, Tryd.isAgg3, h]⟩
instance fa67_1 : FA Tryd.prog 67 1 1 := ⟨fun _ _ => by kernel_rfl⟩
instance fv67_1 : FV Tryd.prog 67 1 1 := ⟨fun cs v w h => by simp [Instr.field, Z0d Tryd.underlying67, asAgg, part, Tryd.isAgg3, h]⟩
instance fa68_0 : FA Tryd.prog 68 0 0 := ⟨fun _ _ => by kernel_rfl⟩
instance fv68_0 : FV Tryd.prog 68 0 0 := ⟨fun cs v w h => by simp [Instr.field, Z0d Tryd.underlying68, asAgg, part, Tryd.isAgg3, h]⟩
instance fa68_1 : FA Tryd.prog 68 1 1 := ⟨fun _ _ => by kernel_rfl⟩
instance fv68_1 : FV Tryd.prog 68 1 1 := ⟨fun cs v w h => by simp [Instr.field, Z0d Tryd.underlying68, asAgg, part, Tryd.isAgg3, h]⟩
instance fa69_0 : FA Tryd.prog 69 0 0 := ⟨fun _ _ => by kernel_rfl⟩
instance fv69_0 : FV Tryd.prog 69 0 0 := ⟨fun cs v w h => by simp [Instr.field, Z0d Tryd.underlying69, asAgg, part, Tryd.isAgg3, h]⟩
instance fa69_1 : FA Tryd.prog 69 1 1 := ⟨fun _ _ => by kernel_rfl⟩
instance fv69_1 : FV Tryd.prog 69 1 1 := ⟨fun cs v w h => by simp [Instr.field, Z0d Tryd.underlying69, asAgg, part, Tryd.isAgg3, h]⟩
instance fa69_2 : FA Tryd.prog 69 2 2 := ⟨fun _ _ => by kernel_rfl⟩
instance fv69_2 : FV Tryd.prog 69 2 2 := ⟨fun cs v w h => by simp [Instr.field, Z0d Tryd.underlying69, asAgg, part, Tryd.isAgg3, h]⟩
instance fa69_3 : FA Tryd.prog 69 3 3 := ⟨fun _ _ => by kernel_rfl⟩
instance fv69_3 : FV Tryd.prog 69 3 3 := ⟨fun cs v w h => by simp [Instr.field, Z0d Tryd.underlying69, asAgg, part, Tryd.isAgg3, h]⟩
instance fa69_4 : FA Tryd.prog 69 4 4 := ⟨fun _ _ => by kernel_rfl⟩
instance fv69_4 : FV Tryd.prog 69 4 4 := ⟨fun cs v w h => by simp [Instr.field, Z0d Tryd.underlying69, asAgg, part, Tryd.isAgg3, h]⟩
instance fa69_5 : FA Tryd.prog 69 5 5 := ⟨fun _ _ => by kernel_rfl⟩
instance fv69_5 : FV Tryd.prog 69 5 5 := ⟨fun cs v w h => by simp [Instr.field, Z0d Tryd.underlying69, asAgg, part, Tryd.isAgg3, h]⟩
instance fa69_6 : FA Tryd.prog 69 6 6 := ⟨fun _ _ => by kernel_rfl⟩
instance fv69_6 : FV Tryd.prog 69 6 6 := ⟨fun cs v w h => by simp [Instr.field, Z0d Tryd.underlying69, asAgg, part, Tryd.isAgg3, h]⟩
instance fa69_7 : FA Tryd.prog 69 7 7 := ⟨fun _ _ => by kernel_rfl⟩
instance fv69_7 : FV Tryd.prog 69 7 7 := ⟨fun cs v w h => by simp [Instr.field, Z0d Tryd.underlying69, asAgg, part, Tryd.isAgg3, h]⟩
instance fa69_8 : FA Tryd.prog 69 8 8 := ⟨fun _ _ => by kernel_rfl⟩
instance fv69_8 : FVA Tryd.prog 69 8 8 7 := ⟨fun cs w => by simp [Instr.field, Z0d Tryd.underlying69, asAgg, part, Tryd.isAgg66, Tryd.sizeOf66]⟩
instance fa69_9 : FA Tryd.prog 69 9 15 := ⟨fun _ _ => by kernel_rfl⟩
instance fv69_9 : FVA Tryd.prog 69 9 15 2 := ⟨fun cs w => by simp [Instr.field, Z0d Tryd.underlying69, asAgg, part, Tryd.isAgg68, Tryd.sizeOf68]⟩
instance fa70_0 : FA Tryd.prog 70 0 0 := ⟨fun _ _ => by kernel_rfl⟩
instance fv70_0 : FV Tryd.prog 70 0 0 := ⟨fun cs v w h => by simp [Instr.field, Z0d Tryd.underlying70, asAgg, part, Tryd.isAgg3, h]⟩
instance fa70_1 : FA Tryd.prog 70 1 1 := ⟨fun _ _ => by kernel_rfl⟩
instance fv70_1 : FV Tryd.prog 70 1 1 := ⟨fun cs v w h => by simp [Instr.field, Z0d Tryd.underlying70, asAgg, part, Tryd.isAgg3, h]⟩
instance fa70_2 : FA Tryd.prog 70 2 2 := ⟨fun _ _ => by kernel_rfl⟩
instance fv70_2 : FV Tryd.prog 70 2 2 := ⟨fun cs v w h => by simp [Instr.field, Z0d Tryd.underlying70, asAgg, part, Tryd.isAgg3, h]⟩
instance fa70_3 : FA Tryd.prog 70 3 3 := ⟨fun _ _ => by kernel_rfl⟩
instance fv70_3 : FV Tryd.prog 70 3 3 := ⟨fun cs v w h => by simp [Instr.field, Z0d Tryd.underlying70, asAgg, part, Tryd.isAgg3, h]⟩
instance fa70_4 : FA Tryd.prog 70 4 4 := ⟨fun _ _ => by kernel_rfl⟩
instance fv70_4 : FV Tryd.prog 70 4 4 := ⟨fun cs v w h => by simp [Instr.field, Z0d Tryd.underlying70, asAgg, part, Tryd.isAgg3, h]⟩
instance fa70_5 : FA Tryd.prog 70 5 5 := ⟨fun _ _ => by kernel_rfl⟩
instance fv70_5 : FV Tryd.prog 70 5 5 := ⟨fun cs v w h => by simp [Instr.field, Z0d Tryd.underlying70, asAgg, part, Tryd.isAgg3, h]⟩
instance fa70_6 : FA Tryd.prog 70 6 6 := ⟨fun _ _ => by kernel_rfl⟩
instance fv70_6 : FV Tryd.prog 70 6 6 := ⟨fun cs v w h => by simp [Instr.field, Z0d Tryd.underlying70, asAgg, part, Tryd.isAgg3, h]⟩
instance fa70_7 : FA Tryd.prog 70 7 7 := ⟨fun _ _ => by kernel_rfl⟩
instance fv70_7 : FV Tryd.prog 70 7 7 := ⟨fun cs v w h => by simp [Instr.field, Z0d Tryd.underlying70, asAgg, part, Tryd.isAgg3, h]⟩
instance fa70_8 : FA Tryd.prog 70 8 8 := ⟨fun _ _ => by kernel_rfl⟩
instance fv70_8 : FVA Tryd.prog 70 8 8 7 := ⟨fun cs w => by simp [Instr.field, Z0d Tryd.underlying70, asAgg, part, Tryd.isAgg66, Tryd.sizeOf66]⟩
instance fa70_9 : FA Tryd.prog 70 9 15 := ⟨fun _ _ => by kernel_rfl⟩
instance fv70_9 : FVA Tryd.prog 70 9 15 2 := ⟨fun cs w => by simp [Instr.field, Z0d Tryd.underlying70, asAgg, part, Tryd.isAgg68, Tryd.sizeOf68]⟩
instance fa83_0 : FA Tryd.prog 83 0 0 := ⟨fun _ _ => by kernel_rfl⟩
instance fv83_0 : FV Tryd.prog 83 0 0 := ⟨fun cs v w h => by simp [Instr.field, Z0d Tryd.underlying83, asAgg, part, Tryd.isAgg3, h]⟩
instance fa83_1 : FA Tryd.prog 83 1 1 := ⟨fun _ _ => by kernel_rfl⟩
instance fv83_1 : FV Tryd.prog 83 1 1 := ⟨fun cs v w h => by simp [Instr.field, Z0d Tryd.underlying83, asAgg, part, Tryd.isAgg3, h]⟩
instance fa83_2 : FA Tryd.prog 83 2 2 := ⟨fun _ _ => by kernel_rfl⟩
instance fv83_2 : FV Tryd.prog 83 2 2 := ⟨fun cs v w h => by simp [Instr.field, Z0d Tryd.underlying83, asAgg, part, Tryd.isAgg3, h]⟩
instance fa83_3 : FA Tryd.prog 83 3 3 := ⟨fun _ _ => by kernel_rfl⟩
instance fv83_3 : FV Tryd.prog 83 3 3 := ⟨fun cs v w h => by simp [Instr.field, Z0d Tryd.underlying83, asAgg, part, Tryd.isAgg3, h]⟩
instance fa83_4 : FA Tryd.prog 83 4 4 := ⟨fun _ _ => by kernel_rfl⟩
instance fv83_4 : FV Tryd.prog 83 4 4 := ⟨fun cs v w h => by simp [Instr.field, Z0d Tryd.underlying83, asAgg, part, Tryd.isAgg3, h]⟩
instance fa83_5 : FA Tryd.prog 83 5 5 := ⟨fun _ _ => by kernel_rfl⟩
instance fv83_5 : FV Tryd.prog 83 5 5 := ⟨fun cs v w h => by simp [Instr.field, Z0d Tryd.underlying83, asAgg, part, Tryd.isAgg3, h]⟩
instance fa83_6 : FA Tryd.prog 83 6 6 := ⟨fun _ _ => by kernel_rfl⟩
instance fv83_6 : FV Tryd.prog 83 6 6 := ⟨fun cs v w h => by simp [Instr.field, Z0d Tryd.underlying83, asAgg, part, Tryd.isAgg3, h]⟩
instance fa84_0 : FA Tryd.prog 84 0 0 := ⟨fun _ _ => by kernel_rfl⟩
instance fv84_0 : FV Tryd.prog 84 0 0 := ⟨fun cs v w h => by simp [Instr.field, Z0d Tryd.underlying84, asAgg, part, Tryd.isAgg3, h]⟩
instance fa84_1 : FA Tryd.prog 84 1 1 := ⟨fun _ _ => by kernel_rfl⟩
instance fv84_1 : FV Tryd.prog 84 1 1 := ⟨fun cs v w h => by simp [Instr.field, Z0d Tryd.underlying84, asAgg, part, Tryd.isAgg3, h]⟩
instance fa84_2 : FA Tryd.prog 84 2 2 := ⟨fun _ _ => by kernel_rfl⟩
instance fv84_2 : FV Tryd.prog 84 2 2 := ⟨fun cs v w h => by simp [Instr.field, Z0d Tryd.underlying84, asAgg, part, Tryd.isAgg3, h]⟩
instance fa84_3 : FA Tryd.prog 84 3 3 := ⟨fun _ _ => by kernel_rfl⟩
instance fv84_3 : FV Tryd.prog 84 3 3 := ⟨fun cs v w h => by simp [Instr.field, Z0d Tryd.underlying84, asAgg, part, Tryd.isAgg3, h]⟩
instance fa84_4 : FA Tryd.prog 84 4 4 := ⟨fun _ _ => by kernel_rfl⟩
instance fv84_4 : FV Tryd.prog 84 4 4 := ⟨fun cs v w h => by simp [Instr.field, Z0d Tryd.underlying84, asAgg, part, Tryd.isAgg3, h]⟩
instance fa84_5 : FA Tryd.prog 84 5 5 := ⟨fun _ _ => by kernel_rfl⟩
instance fv84_5 : FV Tryd.prog 84 5 5 := ⟨fun cs v w h => by simp [Instr.field, Z0d Tryd.underlying84, asAgg, part, Tryd.isAgg3, h]⟩
instance fa84_6 : FA Tryd.prog 84 6 6 := ⟨fun _ _ => by kernel_rfl⟩
instance fv84_6 : FV Tryd.prog 84 6 6 := ⟨fun cs v w h => by simp [Instr.field, Z0d Tryd.underlying84, asAgg, part, Tryd.isAgg3, h]⟩
instance fa102_0 : FA Tryd.prog 102 0 0 := ⟨fun _ _ => by kernel_rfl⟩
instance fv102_0 : FVA Tryd.prog 102 0 0 3 := ⟨fun cs w => by simp [Instr.field, Z0d Tryd.underlying102, asAgg, part, Tryd.isAgg27, Tryd.sizeOf27]⟩
instance fa102_1 : FA Tryd.prog 102 1 3 := ⟨fun _ _ => by kernel_rfl⟩
instance fv102_1 : FV Tryd.prog 102 1 3 := ⟨fun cs v w h => by simp [Instr.field, Z0d Tryd.underlying102, asAgg, part, Tryd.isAgg4, h]⟩
instance fa103_0 : FA Tryd.prog 103 0 0 := ⟨fun _ _ => by kernel_rfl⟩
instance fv103_0 : FVA Tryd.prog 103 0 0 3 := ⟨fun cs w => by simp [Instr.field, Z0d Tryd.underlying103, asAgg, part, Tryd.isAgg27, Tryd.sizeOf27]⟩
instance fa103_1 : FA Tryd.prog 103 1 3 := ⟨fun _ _ => by kernel_rfl⟩
instance fv103_1 : FV Tryd.prog 103 1 3 := ⟨fun cs v w h => by simp [Instr.field, Z0d Tryd.underlying103, asAgg, part, Tryd.isAgg4, h]⟩
instance fa118_0 : FA Tryd.prog 118 0 0 := ⟨fun _ _ => by kernel_rfl⟩
instance fv118_0 : FVA Tryd.prog 118 0 0 3 := ⟨fun cs w => by simp [Instr.field, Z0d Tryd.underlying118, asAgg, part, Tryd.isAgg27, Tryd.sizeOf27]⟩
instance fa118_1 : FA Tryd.prog 118 1 3 := ⟨fun _ _ => by kernel_rfl⟩
instance fv118_1 : FVA Tryd.prog 118 1 3 200 := ⟨fun cs w => by simp [Instr.field, Z0d Tryd.underlying118, asAgg, part, Tryd.isAgg117, Tryd.sizeOf117]⟩
instance fa119_0 : FA Tryd.prog 119 0 0 := ⟨fun _ _ => by kernel_rfl⟩
instance fv119_0 : FVA Tryd.prog 119 0 0 3 := ⟨fun cs w => by simp [Instr.field, Z0d Tryd.underlying119, asAgg, part, Tryd.isAgg27, Tryd.sizeOf27]⟩
instance fa119_1 : FA Tryd.prog 119 1 3 := ⟨fun _ _ => by kernel_rfl⟩
instance fv119_1 : FVA Tryd.prog 119 1 3 200 := ⟨fun cs w => by simp [Instr.field, Z0d Tryd.underlying119, asAgg, part, Tryd.isAgg117, Tryd.sizeOf117]⟩
instance fa141_0 : FA Tryd.prog 141 0 0 := ⟨fun _ _ => by kernel_rfl⟩
instance fv141_0 : FV Tryd.prog 141 0 0 := ⟨fun cs v w h => by simp [Instr.field, Z0d Tryd.underlying141, asAgg, part, Tryd.isAgg138, h]⟩
instance fa141_1 : FA Tryd.prog 141 1 1 := ⟨fun _ _ => by kernel_rfl⟩
instance fv141_1 : FV Tryd.prog 141 1 1 := ⟨fun cs v w h => by simp [Instr.field, Z0d Tryd.underlying141, asAgg, part, Tryd.isAgg139, h]⟩
instance fa141_2 : FA Tryd.prog 141 2 2 := ⟨fun _ _ => by kernel_rfl⟩
instance fv141_2 : FV Tryd.prog 141 2 2 := ⟨fun cs v w h => by simp [Instr.field, Z0d Tryd.underlying141, asAgg, part, Tryd.isAgg94, h]⟩
instance fa141_3 : FA Tryd.prog 141 3 3 := ⟨fun _ _ => by kernel_rfl⟩
instance fv141_3 : FV Tryd.prog 141 3 3 := ⟨fun cs v w h => by simp [Instr.field, Z0d Tryd.underlying141, asAgg, part, Tryd.isAgg140, h]⟩
instance fa142_0 : FA Tryd.prog 142 0 0 := ⟨fun _ _ => by kernel_rfl⟩
instance fv142_0 : FV Tryd.prog 142 0 0 := ⟨fun cs v w h => by simp [Instr.field, Z0d Tryd.underlying142, asAgg, part, Tryd.isAgg138, h]⟩
instance fa142_1 : FA Tryd.prog 142 1 1 := ⟨fun _ _ => by kernel_rfl⟩
instance fv142_1 : FV Tryd.prog 142 1 1 := ⟨fun cs v w h => by simp [Instr.field, Z0d Tryd.underlying142, asAgg, part, Tryd.isAgg139, h]⟩
instance fa142_2 : FA Tryd.prog 142 2 2 := ⟨fun _ _ => by kernel_rfl⟩
instance fv142_2 : FV Tryd.prog 142 2 2 := ⟨fun cs v w h => by simp [Instr.field, Z0d Tryd.underlying142, asAgg, part, Tryd.isAgg94, h]⟩
instance fa142_3 : FA Tryd.prog 142 3 3 := ⟨fun _ _ => by kernel_rfl⟩
instance fv142_3 : FV Tryd.prog 142 3 3 := ⟨fun cs v w h => by simp [Instr.field, Z0d Tryd.underlying142, asAgg, part, Tryd.isAgg140, h]⟩
instance fa145_0 : FA Tryd.prog 145 0 0 := ⟨fun _ _ => by kernel_rfl⟩
instance fv145_0 : FV Tryd.prog 145 0 0 := ⟨fun cs v w h => by simp [Instr.field, Z0d Tryd.underlying145, asAgg, part, Tryd.isAgg3, h]⟩
instance fa145_1 : FA Tryd.prog 145 1 1 := ⟨fun _ _ => by kernel_rfl⟩
instance fv145_1 : FV Tryd.prog 145 1 1 := ⟨fun cs v w h => by simp [Instr.field, Z0d Tryd.underlying145, asAgg, part, Tryd.isAgg3, h]⟩
instance fa146_0 : FA Tryd.prog 146 0 0 := ⟨fun _ _ => by kernel_rfl⟩
instance fv146_0 : FV Tryd.prog 146 0 0 := ⟨fun cs v w h => by simp [Instr.field, Z0d Tryd.underlying146, asAgg, part, Tryd.isAgg3, h]⟩
instance fa146_1 : FA Tryd.prog 146 1 1 := ⟨fun _ _ => by kernel_rfl⟩
instance fv146_1 : FV Tryd.prog 146 1 1 := ⟨fun cs v w h => by simp [Instr.field, Z0d Tryd.underlying146, asAgg, part, Tryd.isAgg3, h]⟩
instance en3 : Enters Tryd.prog 3 := Enters.of Tryd.func3 (by rfl) (by decide)   -- aircheck/airchecklaw39.BillMatchesReference
instance en4 : Enters Tryd.prog 4 := Enters.of Tryd.func4 (by rfl) (by decide)   -- aircheck/airchecklaw39.BillDelivers
instance en5 : Enters Tryd.prog 5 := Enters.of Tryd.func5 (by rfl) (by decide)   -- aircheck/airchecklaw39.BillShares
instance en6 : Enters Tryd.prog 6 := Enters.of Tryd.func6 (by rfl) (by decide)   -- aircheck/airchecklaw39.BillRoyalties
instance en7 : Enters Tryd.prog 7 := Enters.of Tryd.func7 (by rfl) (by decide)   -- aircheck/airchecklaw39.BillSettles
instance en8 : Enters Tryd.prog 8 := Enters.of Tryd.func8 (by rfl) (by decide)   -- aircheck/airchecklaw39.BillFollows
instance en9 : Enters Tryd.prog 9 := Enters.of Tryd.func9 (by rfl) (by decide)   -- aircheck/airchecklaw39.BillKeeps
instance en10 : Enters Tryd.prog 10 := Enters.of Tryd.func10 (by rfl) (by decide)   -- aircheck/airchecklaw39.sane
instance en11 : Enters Tryd.prog 11 := Enters.of Tryd.func11 (by rfl) (by decide)   -- aircheck/aircheckref12.Made
instance en12 : Enters Tryd.prog 12 := Enters.of Tryd.func12 (by rfl) (by decide)   -- aircheck/aircheckref12.Spots
instance en13 : Enters Tryd.prog 13 := Enters.of Tryd.func13 (by rfl) (by decide)   -- aircheck/aircheckref39.Verdicts
instance en14 : Enters Tryd.prog 14 := Enters.of Tryd.func14 (by rfl) (by decide)   -- aircheck/aircheckref24.Made
instance en15 : Enters Tryd.prog 15 := Enters.of Tryd.func15 (by rfl) (by decide)   -- aircheck/airchecklaw39.pick
instance en16 : Enters Tryd.prog 16 := Enters.of Tryd.func16 (by rfl) (by decide)   -- aircheck/bill.Delivered
instance en17 : Enters Tryd.prog 17 := Enters.of Tryd.func17 (by rfl) (by decide)   -- aircheck/aircheckref39.Delivered
instance en18 : Enters Tryd.prog 18 := Enters.of Tryd.func18 (by rfl) (by decide)   -- aircheck/bill.Due
instance en19 : Enters Tryd.prog 19 := Enters.of Tryd.func19 (by rfl) (by decide)   -- aircheck/aircheckref39.Due
instance en20 : Enters Tryd.prog 20 := Enters.of Tryd.func20 (by rfl) (by decide)   -- aircheck/aircheckref39.SameSpots
instance en21 : Enters Tryd.prog 21 := Enters.of Tryd.func21 (by rfl) (by decide)   -- aircheck/aircheckref24.Ints
instance en22 : Enters Tryd.prog 22 := Enters.of Tryd.func22 (by rfl) (by decide)   -- aircheck/bill.Settle
instance en23 : Enters Tryd.prog 23 := Enters.of Tryd.func23 (by rfl) (by decide)   -- aircheck/aircheckref39.Settle
instance en24 : Enters Tryd.prog 24 := Enters.of Tryd.func24 (by rfl) (by decide)   -- aircheck/aircheckref24.Same
instance en25 : Enters Tryd.prog 25 := Enters.of Tryd.func25 (by rfl) (by decide)   -- aircheck/bill.ValidVerdicts
instance en26 : Enters Tryd.prog 26 := Enters.of Tryd.func26 (by rfl) (by decide)   -- aircheck/aircheckref39.ValidVerdicts
instance en27 : Enters Tryd.prog 27 := Enters.of Tryd.func27 (by rfl) (by decide)   -- aircheck/bill.Shares
instance en28 : Enters Tryd.prog 28 := Enters.of Tryd.func28 (by rfl) (by decide)   -- aircheck/aircheckref39.Shares
instance en29 : Enters Tryd.prog 29 := Enters.of Tryd.func29 (by rfl) (by decide)   -- aircheck/bill.Royalties
instance en30 : Enters Tryd.prog 30 := Enters.of Tryd.func30 (by rfl) (by decide)   -- aircheck/aircheckref39.Royalties
instance en31 : Enters Tryd.prog 31 := Enters.of Tryd.func31 (by rfl) (by decide)   -- aircheck/aircheckref12.Find
instance en32 : Enters Tryd.prog 32 := Enters.of Tryd.func32 (by rfl) (by decide)   -- aircheck/aircheckref39.Heard
instance en33 : Enters Tryd.prog 33 := Enters.of Tryd.func33 (by rfl) (by decide)   -- aircheck/contract.Counted
instance en34 : Enters Tryd.prog 34 := Enters.of Tryd.func34 (by rfl) (by decide)   -- aircheck/airchecklaw39.owes
instance en35 : Enters Tryd.prog 35 := Enters.of Tryd.func35 (by rfl) (by decide)   -- aircheck/book.Close
instance en36 : Enters Tryd.prog 36 := Enters.of Tryd.func36 (by rfl) (by decide)   -- aircheck/book.Statement
instance en37 : Enters Tryd.prog 37 := Enters.of Tryd.func37 (by rfl) (by decide)   -- aircheck/aircheckref24.SamePostings
instance en38 : Enters Tryd.prog 38 := Enters.of Tryd.func38 (by rfl) (by decide)   -- aircheck/airchecklaw39.every
instance en39 : Enters Tryd.prog 39 := Enters.of Tryd.func39 (by rfl) (by decide)   -- aircheck/aircheckref12.pick
instance en40 : Enters Tryd.prog 40 := Enters.of Tryd.func40 (by rfl) (by decide)   -- aircheck/aircheckref39.pick
instance en41 : Enters Tryd.prog 41 := Enters.of Tryd.func41 (by rfl) (by decide)   -- aircheck/aircheckref24.pick
instance en42 : Enters Tryd.prog 42 := Enters.of Tryd.func42 (by rfl) (by decide)   -- aircheck/aircheckref24.Post
instance en43 : Enters Tryd.prog 43 := Enters.of Tryd.func43 (by rfl) (by decide)   -- aircheck/aircheckref24.Dispute
instance en44 : Enters Tryd.prog 44 := Enters.of Tryd.func44 (by rfl) (by decide)   -- aircheck/aircheckref24.Close
instance en45 : Enters Tryd.prog 45 := Enters.of Tryd.func45 (by rfl) (by decide)   -- aircheck/contract.Valid
instance en46 : Enters Tryd.prog 46 := Enters.of Tryd.func46 (by rfl) (by decide)   -- aircheck/contract.ValidSpots
instance en47 : Enters Tryd.prog 47 := Enters.of Tryd.func47 (by rfl) (by decide)   -- aircheck/bill.within
instance en48 : Enters Tryd.prog 48 := Enters.of Tryd.func48 (by rfl) (by decide)   -- slices.Contains[[]aircheck/api.Verdict,aircheck/api.Verdict]
instance en49 : Enters Tryd.prog 49 := Enters.of Tryd.func49 (by rfl) (by decide)   -- aircheck/aircheckref12.Valid
instance en50 : Enters Tryd.prog 50 := Enters.of Tryd.func50 (by rfl) (by decide)   -- aircheck/aircheckref12.ValidSpots
instance en51 : Enters Tryd.prog 51 := Enters.of Tryd.func51 (by rfl) (by decide)   -- aircheck/aircheckref39.in
instance en52 : Enters Tryd.prog 52 := Enters.of Tryd.func52 (by rfl) (by decide)   -- aircheck/aircheckref12.Counted
instance en53 : Enters Tryd.prog 53 := Enters.of Tryd.func53 (by rfl) (by decide)   -- aircheck/bill.Settle$1
instance en54 : Enters Tryd.prog 54 := Enters.of Tryd.func54 (by rfl) (by decide)   -- aircheck/book.Valid
instance en55 : Enters Tryd.prog 55 := Enters.of Tryd.func55 (by rfl) (by decide)   -- slices.ContainsFunc[[]aircheck/api.Contract,aircheck/api.Contract]
instance en56 : Enters Tryd.prog 56 := Enters.of Tryd.func56 (by rfl) (by decide)   -- slices.Clone[[]aircheck/api.Posting,aircheck/api.Posting]
instance en57 : Enters Tryd.prog 57 := Enters.of Tryd.func57 (by rfl) (by decide)   -- (ptr aircheck/bill.ledger).settle
instance en58 : Enters Tryd.prog 58 := Enters.of Tryd.func58 (by rfl) (by decide)   -- aircheck/aircheckref24.Valid
instance en59 : Enters Tryd.prog 59 := Enters.of Tryd.func59 (by rfl) (by decide)   -- aircheck/aircheckref39.charge
instance en60 : Enters Tryd.prog 60 := Enters.of Tryd.func60 (by rfl) (by decide)   -- slices.ContainsFunc[[]aircheck/api.Verdict,aircheck/api.Verdict]
instance en61 : Enters Tryd.prog 61 := Enters.of Tryd.func61 (by rfl) (by decide)   -- aircheck/bill.ValidVerdicts$1
instance en62 : Enters Tryd.prog 62 := Enters.of Tryd.func62 (by rfl) (by decide)   -- slices.SortStableFunc[[]int,int]
instance en63 : Enters Tryd.prog 63 := Enters.of Tryd.func63 (by rfl) (by decide)   -- aircheck/bill.Shares$1
instance en64 : Enters Tryd.prog 64 := Enters.of Tryd.func64 (by rfl) (by decide)   -- cmp.Compare[int]
instance en65 : Enters Tryd.prog 65 := Enters.of Tryd.func65 (by rfl) (by decide)   -- slices.Max[[]int,int]
instance en66 : Enters Tryd.prog 66 := Enters.of Tryd.func66 (by rfl) (by decide)   -- aircheck/contract.count
instance en67 : Enters Tryd.prog 67 := Enters.of Tryd.func67 (by rfl) (by decide)   -- aircheck/book.Owed
instance en68 : Enters Tryd.prog 68 := Enters.of Tryd.func68 (by rfl) (by decide)   -- aircheck/book.open
instance en69 : Enters Tryd.prog 69 := Enters.of Tryd.func69 (by rfl) (by decide)   -- aircheck/book.isIn
instance en70 : Enters Tryd.prog 70 := Enters.of Tryd.func70 (by rfl) (by decide)   -- (ptr aircheck/book.ledger).those
instance en71 : Enters Tryd.prog 71 := Enters.of Tryd.func71 (by rfl) (by decide)   -- aircheck/book.Statement$1
instance en72 : Enters Tryd.prog 72 := Enters.of Tryd.func72 (by rfl) (by decide)   -- (ptr aircheck/book.balances).add
instance en73 : Enters Tryd.prog 73 := Enters.of Tryd.func73 (by rfl) (by decide)   -- (aircheck/book.balances).list
instance en74 : Enters Tryd.prog 74 := Enters.of Tryd.func74 (by rfl) (by decide)   -- aircheck/aircheckref24.in
instance en75 : Enters Tryd.prog 75 := Enters.of Tryd.func75 (by rfl) (by decide)   -- aircheck/contract.right
instance en76 : Enters Tryd.prog 76 := Enters.of Tryd.func76 (by rfl) (by decide)   -- slices.ContainsFunc[[]aircheck/api.Spot,aircheck/api.Spot]
instance en77 : Enters Tryd.prog 77 := Enters.of Tryd.func77 (by rfl) (by decide)   -- aircheck/contract.ValidSpots$1
instance en78 : Enters Tryd.prog 78 := Enters.of Tryd.func78 (by rfl) (by decide)   -- aircheck/contract.good
instance en79 : Enters Tryd.prog 79 := Enters.of Tryd.func79 (by rfl) (by decide)   -- slices.Index[[]aircheck/api.Verdict,aircheck/api.Verdict]
instance en80 : Enters Tryd.prog 80 := Enters.of Tryd.func80 (by rfl) (by decide)   -- aircheck/aircheckref12.one
instance en81 : Enters Tryd.prog 81 := Enters.of Tryd.func81 (by rfl) (by decide)   -- aircheck/aircheckref12.spot
instance en82 : Enters Tryd.prog 82 := Enters.of Tryd.func82 (by rfl) (by decide)   -- aircheck/aircheckref12.order
instance en83 : Enters Tryd.prog 83 := Enters.of Tryd.func83 (by rfl) (by decide)   -- aircheck/aircheckref12.reason
instance en84 : Enters Tryd.prog 84 := Enters.of Tryd.func84 (by rfl) (by decide)   -- slices.IndexFunc[[]aircheck/api.Contract,aircheck/api.Contract]
instance en85 : Enters Tryd.prog 85 := Enters.of Tryd.func85 (by rfl) (by decide)   -- (ptr aircheck/bill.ledger).charge
instance en86 : Enters Tryd.prog 86 := Enters.of Tryd.func86 (by rfl) (by decide)   -- aircheck/book.Dispute
instance en87 : Enters Tryd.prog 87 := Enters.of Tryd.func87 (by rfl) (by decide)   -- aircheck/book.Post
instance en88 : Enters Tryd.prog 88 := Enters.of Tryd.func88 (by rfl) (by decide)   -- aircheck/aircheckref24.formed
instance en89 : Enters Tryd.prog 89 := Enters.of Tryd.func89 (by rfl) (by decide)   -- slices.IndexFunc[[]aircheck/api.Verdict,aircheck/api.Verdict]
instance en90 : Enters Tryd.prog 90 := Enters.of Tryd.func90 (by rfl) (by decide)   -- slices.stableCmpFunc[int]
instance en91 : Enters Tryd.prog 91 := Enters.of Tryd.func91 (by rfl) (by decide)   -- cmp.isNaN[int]
instance en92 : Enters Tryd.prog 92 := Enters.of Tryd.func92 (by rfl) (by decide)   -- aircheck/contract.count$1
instance en93 : Enters Tryd.prog 93 := Enters.of Tryd.func93 (by rfl) (by decide)   -- cmp.Or[int]
instance en94 : Enters Tryd.prog 94 := Enters.of Tryd.func94 (by rfl) (by decide)   -- (ptr aircheck/contract.tally).reason
instance en95 : Enters Tryd.prog 95 := Enters.of Tryd.func95 (by rfl) (by decide)   -- aircheck/contract.on
instance en96 : Enters Tryd.prog 96 := Enters.of Tryd.func96 (by rfl) (by decide)   -- aircheck/book.Owed$1
instance en97 : Enters Tryd.prog 97 := Enters.of Tryd.func97 (by rfl) (by decide)   -- (ptr aircheck/book.ledger).takes
instance en98 : Enters Tryd.prog 98 := Enters.of Tryd.func98 (by rfl) (by decide)   -- (ptr aircheck/book.ledger).those$1
instance en99 : Enters Tryd.prog 99 := Enters.of Tryd.func99 (by rfl) (by decide)   -- aircheck/contract.between
instance en100 : Enters Tryd.prog 100 := Enters.of Tryd.func100 (by rfl) (by decide)   -- aircheck/week.Valid
instance en101 : Enters Tryd.prog 101 := Enters.of Tryd.func101 (by rfl) (by decide)   -- slices.IndexFunc[[]aircheck/api.Spot,aircheck/api.Spot]
instance en102 : Enters Tryd.prog 102 := Enters.of Tryd.func102 (by rfl) (by decide)   -- aircheck/aircheckref12.in
instance en103 : Enters Tryd.prog 103 := Enters.of Tryd.func103 (by rfl) (by decide)   -- aircheck/aircheckref06.Valid
instance en104 : Enters Tryd.prog 104 := Enters.of Tryd.func104 (by rfl) (by decide)   -- aircheck/aircheckref06.ValidSpell
instance en105 : Enters Tryd.prog 105 := Enters.of Tryd.func105 (by rfl) (by decide)   -- aircheck/aircheckref06.In
instance en106 : Enters Tryd.prog 106 := Enters.of Tryd.func106 (by rfl) (by decide)   -- aircheck/aircheckref12.near
instance en107 : Enters Tryd.prog 107 := Enters.of Tryd.func107 (by rfl) (by decide)   -- slices.Backward[[]aircheck/api.Posting,aircheck/api.Posting]
instance en108 : Enters Tryd.prog 108 := Enters.of Tryd.func108 (by rfl) (by decide)   -- (ptr aircheck/book.ledger).post
instance en109 : Enters Tryd.prog 109 := Enters.of Tryd.func109 (by rfl) (by decide)   -- slices.insertionSortCmpFunc[int]
instance en110 : Enters Tryd.prog 110 := Enters.of Tryd.func110 (by rfl) (by decide)   -- slices.symMergeCmpFunc[int]
instance en111 : Enters Tryd.prog 111 := Enters.of Tryd.func111 (by rfl) (by decide)   -- aircheck/book.isFormed
instance en112 : Enters Tryd.prog 112 := Enters.of Tryd.func112 (by rfl) (by decide)   -- aircheck/book.isBack
instance en113 : Enters Tryd.prog 113 := Enters.of Tryd.func113 (by rfl) (by decide)   -- aircheck/aircheckref06.has
instance en114 : Enters Tryd.prog 114 := Enters.of Tryd.func114 (by rfl) (by decide)   -- slices.Backward[[]aircheck/api.Posting,aircheck/api.Posting]$1
instance en115 : Enters Tryd.prog 115 := Enters.of Tryd.func115 (by rfl) (by decide)   -- slices.rotateCmpFunc[int]
instance en116 : Enters Tryd.prog 116 := Enters.of Tryd.func116 (by rfl) (by decide)   -- slices.swapRangeCmpFunc[int]
instance en133 : Enters Tryd.prog 133 := Enters.of Tryd.func133 (by rfl) (by decide)   -- aircheck/contract.tests$1
instance en134 : Enters Tryd.prog 134 := Enters.of Tryd.func134 (by rfl) (by decide)   -- aircheck/contract.tests$2
instance en135 : Enters Tryd.prog 135 := Enters.of Tryd.func135 (by rfl) (by decide)   -- aircheck/week.In
instance en136 : Enters Tryd.prog 136 := Enters.of Tryd.func136 (by rfl) (by decide)   -- aircheck/contract.tests$3
instance en137 : Enters Tryd.prog 137 := Enters.of Tryd.func137 (by rfl) (by decide)   -- aircheck/contract.tests$4
instance en138 : Enters Tryd.prog 138 := Enters.of Tryd.func138 (by rfl) (by decide)   -- aircheck/contract.tests$5
instance en139 : Enters Tryd.prog 139 := Enters.of Tryd.func139 (by rfl) (by decide)   -- aircheck/contract.tests$6
instance en140 : Enters Tryd.prog 140 := Enters.of Tryd.func140 (by rfl) (by decide)   -- aircheck/week.has
instance en144 : Enters Tryd.prog 144 := Enters.of Tryd.func144 (by rfl) (by decide)   -- gosem.cut.vars
structure GVerdict where
 Kind : Int
 Item : Int
 deriving DecidableEq, Inhabited
def GVerdict.enc (x : GVerdict) : List Value := [.int .i64 x.Kind, .int .i64 x.Item]
def Z1j : Flat GVerdict := ⟨2, GVerdict.enc, fun _ => rfl⟩
structure GSpot where
 Contract : Int
 At : Int
 deriving DecidableEq, Inhabited
def GSpot.enc (x : GSpot) : List Value := [.int .i64 x.Contract, .int .i64 x.At]
def Z1d : Flat GSpot := ⟨2, GSpot.enc, fun _ => rfl⟩
structure GWeek where
 a0 : Int
 a1 : Int
 a2 : Int
 a3 : Int
 a4 : Int
 a5 : Int
 a6 : Int
 deriving DecidableEq, Inhabited
def GWeek.enc (x : GWeek) : List Value := [.int .i64 x.a0, .int .i64 x.a1, .int .i64 x.a2, .int .i64 x.a3, .int .i64 x.a4, .int .i64 x.a5, .int .i64 x.a6]
structure GSpell where
 From : Int
 To : Int
 deriving DecidableEq, Inhabited
def GSpell.enc (x : GSpell) : List Value := [.int .i64 x.From, .int .i64 x.To]
structure GContract where
 ID : Int
 Sponsor : Int
 Category : Int
 Item : Int
 Count : Int
 PerDay : Int
 Gap : Int
 Price : Int
 Week : GWeek
 Window : GSpell
 deriving DecidableEq, Inhabited
def GContract.enc (x : GContract) : List Value := [.int .i64 x.ID, .int .i64 x.Sponsor, .int .i64 x.Category, .int .i64 x.Item, .int .i64 x.Count, .int .i64 x.PerDay, .int .i64 x.Gap, .int .i64 x.Price, .int .i64 x.Week.a0, .int .i64 x.Week.a1, .int .i64 x.Week.a2, .int .i64 x.Week.a3, .int .i64 x.Week.a4, .int .i64 x.Week.a5, .int .i64 x.Week.a6, .int .i64 x.Window.From, .int .i64 x.Window.To]
def Z14 : Flat GContract := ⟨17, GContract.enc, fun _ => rfl⟩
structure GArr3Int where
 a0 : Int
 a1 : Int
 a2 : Int
 deriving DecidableEq, Inhabited
def GArr3Int.enc (x : GArr3Int) : List Value := [.int .i64 x.a0, .int .i64 x.a1, .int .i64 x.a2]
structure GPosting where
 Kind : Int
 Day : Int
 Debtor : Int
 Creditor : Int
 Amount : Int
 Subject : Int
 Of : Int
 deriving DecidableEq, Inhabited
def GPosting.enc (x : GPosting) : List Value := [.int .i64 x.Kind, .int .i64 x.Day, .int .i64 x.Debtor, .int .i64 x.Creditor, .int .i64 x.Amount, .int .i64 x.Subject, .int .i64 x.Of]
def Z0o : Flat GPosting := ⟨7, GPosting.enc, fun _ => rfl⟩
structure GArr8Int where
 a0 : Int
 a1 : Int
 a2 : Int
 a3 : Int
 a4 : Int
 a5 : Int
 a6 : Int
 a7 : Int
 deriving DecidableEq, Inhabited
def GArr8Int.enc (x : GArr8Int) : List Value := [.int .i64 x.a0, .int .i64 x.a1, .int .i64 x.a2, .int .i64 x.a3, .int .i64 x.a4, .int .i64 x.a5, .int .i64 x.a6, .int .i64 x.a7]
def Zaq : Flat GArr8Int := ⟨8, GArr8Int.enc, fun _ => rfl⟩
structure GArr2Int where
 a0 : Int
 a1 : Int
 deriving DecidableEq, Inhabited
def GArr2Int.enc (x : GArr2Int) : List Value := [.int .i64 x.a0, .int .i64 x.a1]
def Zar : Flat GArr2Int := ⟨2, GArr2Int.enc, fun _ => rfl⟩
structure GArr5Int where
 a0 : Int
 a1 : Int
 a2 : Int
 a3 : Int
 a4 : Int
 deriving DecidableEq, Inhabited
def GArr5Int.enc (x : GArr5Int) : List Value := [.int .i64 x.a0, .int .i64 x.a1, .int .i64 x.a2, .int .i64 x.a3, .int .i64 x.a4]
def Zas : Flat GArr5Int := ⟨5, GArr5Int.enc, fun _ => rfl⟩
structure GBalances where
 a0 : Int
 a1 : Int
 a2 : Int
 a3 : Int
 a4 : Int
 a5 : Int
 a6 : Int
 a7 : Int
 a8 : Int
 a9 : Int
 a10 : Int
 a11 : Int
 a12 : Int
 a13 : Int
 a14 : Int
 a15 : Int
 deriving DecidableEq, Inhabited
def GBalances.enc (x : GBalances) : List Value := [.int .i64 x.a0, .int .i64 x.a1, .int .i64 x.a2, .int .i64 x.a3, .int .i64 x.a4, .int .i64 x.a5, .int .i64 x.a6, .int .i64 x.a7, .int .i64 x.a8, .int .i64 x.a9, .int .i64 x.a10, .int .i64 x.a11, .int .i64 x.a12, .int .i64 x.a13, .int .i64 x.a14, .int .i64 x.a15]
structure GDay where
 contract : Int
 day : Int
 deriving DecidableEq, Inhabited
def GDay.enc (x : GDay) : List Value := [.int .i64 x.contract, .int .i64 x.day]
theorem Z59 {ρ : Operand → Value} {w : World} {d : Option Tmp} {ty : TypeId} {pos : String} {af : Array Edge} {g : Option (Nat × Bool)}    : Runs Tryd.prog ρ ⟨d, .build 27 #[], ty, pos, af, g⟩ w (.ok (.value (.agg #[.int .i64 0, .slice none 0 0, .int .i64 0])) w) := ⟨by
 have e : (Instr.build 27 #[]).run Tryd.prog w = .ok (.agg #[.int .i64 0, .slice none 0 0, .int .i64 0]) w := by kernel_rfl
 simp only [execOp, List.map_toArray, List.map_cons, List.map_nil]
 exact run_bind e⟩
-- BUILD 27 Z59 0
theorem Zgd {ρ : Operand → Value} {w : World} {d : Option Tmp} {ty : TypeId} {pos : String} {af : Array Edge} {g : Option (Nat × Bool)} {a0 : Operand} {x0 : Int} (h0 : ρ a0 = .int .i64 x0) : Runs Tryd.prog ρ ⟨d, .build 27 #[(0, a0)], ty, pos, af, g⟩ w (.ok (.value (.agg #[.int .i64 x0, .slice none 0 0, .int .i64 0])) w) := ⟨by
 have e : (Instr.build 27 #[(0, .int .i64 x0)]).run Tryd.prog w = .ok (.agg #[.int .i64 x0, .slice none 0 0, .int .i64 0]) w := by kernel_rfl
 simp only [execOp, List.map_toArray, List.map_cons, List.map_nil, h0]
 exact run_bind e⟩
-- BUILD 27 Zgd 1
theorem Z5i {ρ : Operand → Value} {w : World} {d : Option Tmp} {ty : TypeId} {pos : String} {af : Array Edge} {g : Option (Nat × Bool)} {a0 a1 a2 : Operand} {x0 : Int} {x1A : Option Addr} {x1n x1c : Nat} {x2 : Int} (h0 : ρ a0 = .int .i64 x0) (h1 : ρ a1 = .slice x1A x1n x1c) (h2 : ρ a2 = .int .i64 x2) : Runs Tryd.prog ρ ⟨d, .build 27 #[(0, a0), (1, a1), (2, a2)], ty, pos, af, g⟩ w (.ok (.value (.agg #[.int .i64 x0, .slice x1A x1n x1c, .int .i64 x2])) w) := ⟨by
 have e : (Instr.build 27 #[(0, .int .i64 x0), (1, .slice x1A x1n x1c), (2, .int .i64 x2)]).run Tryd.prog w = .ok (.agg #[.int .i64 x0, .slice x1A x1n x1c, .int .i64 x2]) w := by kernel_rfl
 simp only [execOp, List.map_toArray, List.map_cons, List.map_nil, h0, h1, h2]
 exact run_bind e⟩
-- BUILD 27 Z5i 3
theorem Zge {ρ : Operand → Value} {w : World} {d : Option Tmp} {ty : TypeId} {pos : String} {af : Array Edge} {g : Option (Nat × Bool)} {a0 a1 : Operand} {x0 : Int} {x1 : Int} (h0 : ρ a0 = .int .i64 x0) (h1 : ρ a1 = .int .i64 x1) : Runs Tryd.prog ρ ⟨d, .build 27 #[(0, a0), (2, a1)], ty, pos, af, g⟩ w (.ok (.value (.agg #[.int .i64 x0, .slice none 0 0, .int .i64 x1])) w) := ⟨by
 have e : (Instr.build 27 #[(0, .int .i64 x0), (2, .int .i64 x1)]).run Tryd.prog w = .ok (.agg #[.int .i64 x0, .slice none 0 0, .int .i64 x1]) w := by kernel_rfl
 simp only [execOp, List.map_toArray, List.map_cons, List.map_nil, h0, h1]
 exact run_bind e⟩
-- BUILD 27 Zge 2
theorem Ziy {ρ : Operand → Value} {w : World} {d : Option Tmp} {ty : TypeId} {pos : String} {af : Array Edge} {g : Option (Nat × Bool)} {a0 : Operand} {x0 : Int} (h0 : ρ a0 = .int .i64 x0) : Runs Tryd.prog ρ ⟨d, .build 60 #[(0, a0)], ty, pos, af, g⟩ w (.ok (.value (.agg #[.int .i64 x0, .int .i64 0])) w) := ⟨by
 have e : (Instr.build 60 #[(0, .int .i64 x0)]).run Tryd.prog w = .ok (.agg #[.int .i64 x0, .int .i64 0]) w := by kernel_rfl
 simp only [execOp, List.map_toArray, List.map_cons, List.map_nil, h0]
 exact run_bind e⟩
-- BUILD 60 Ziy 1
theorem Z4j {ρ : Operand → Value} {w : World} {d : Option Tmp} {ty : TypeId} {pos : String} {af : Array Edge} {g : Option (Nat × Bool)} {a0 a1 : Operand} {x0 : Int} {x1 : Int} (h0 : ρ a0 = .int .i64 x0) (h1 : ρ a1 = .int .i64 x1) : Runs Tryd.prog ρ ⟨d, .build 60 #[(0, a0), (1, a1)], ty, pos, af, g⟩ w (.ok (.value (.agg #[.int .i64 x0, .int .i64 x1])) w) := ⟨by
 have e : (Instr.build 60 #[(0, .int .i64 x0), (1, .int .i64 x1)]).run Tryd.prog w = .ok (.agg #[.int .i64 x0, .int .i64 x1]) w := by kernel_rfl
 simp only [execOp, List.map_toArray, List.map_cons, List.map_nil, h0, h1]
 exact run_bind e⟩
-- BUILD 60 Z4j 2
theorem Z9w {ρ : Operand → Value} {w : World} {d : Option Tmp} {ty : TypeId} {pos : String} {af : Array Edge} {g : Option (Nat × Bool)} {a0 a1 : Operand} {x0 : Int} {x1 : Int} (h0 : ρ a0 = .int .i64 x0) (h1 : ρ a1 = .int .i64 x1) : Runs Tryd.prog ρ ⟨d, .build 63 #[(0, a0), (1, a1)], ty, pos, af, g⟩ w (.ok (.value (.agg #[.int .i64 x0, .int .i64 x1])) w) := ⟨by
 have e : (Instr.build 63 #[(0, .int .i64 x0), (1, .int .i64 x1)]).run Tryd.prog w = .ok (.agg #[.int .i64 x0, .int .i64 x1]) w := by kernel_rfl
 simp only [execOp, List.map_toArray, List.map_cons, List.map_nil, h0, h1]
 exact run_bind e⟩
-- BUILD 63 Z9w 2
theorem Zgf {ρ : Operand → Value} {w : World} {d : Option Tmp} {ty : TypeId} {pos : String} {af : Array Edge} {g : Option (Nat × Bool)} {a0 a1 : Operand} {x0 : Int} {x1 : Int} (h0 : ρ a0 = .int .i64 x0) (h1 : ρ a1 = .int .i64 x1) : Runs Tryd.prog ρ ⟨d, .build 68 #[(0, a0), (1, a1)], ty, pos, af, g⟩ w (.ok (.value (.agg #[.int .i64 x0, .int .i64 x1])) w) := ⟨by
 have e : (Instr.build 68 #[(0, .int .i64 x0), (1, .int .i64 x1)]).run Tryd.prog w = .ok (.agg #[.int .i64 x0, .int .i64 x1]) w := by kernel_rfl
 simp only [execOp, List.map_toArray, List.map_cons, List.map_nil, h0, h1]
 exact run_bind e⟩
-- BUILD 68 Zgf 2
theorem Z5v {ρ : Operand → Value} {w : World} {d : Option Tmp} {ty : TypeId} {pos : String} {af : Array Edge} {g : Option (Nat × Bool)} {a0 a1 a2 a3 a4 a5 a6 : Operand} {x0 : Int} {x1 : Int} {x2 : Int} {x3 : Int} {x4 : Int} {x5 : Int} {x6 : Int} (h0 : ρ a0 = .int .i64 x0) (h1 : ρ a1 = .int .i64 x1) (h2 : ρ a2 = .int .i64 x2) (h3 : ρ a3 = .int .i64 x3) (h4 : ρ a4 = .int .i64 x4) (h5 : ρ a5 = .int .i64 x5) (h6 : ρ a6 = .int .i64 x6) : Runs Tryd.prog ρ ⟨d, .build 70 #[(0, a0), (1, a1), (2, a2), (3, a3), (4, a4), (6, a5), (7, a6)], ty, pos, af, g⟩ w (.ok (.value (.agg #[.int .i64 x0, .int .i64 x1, .int .i64 x2, .int .i64 x3, .int .i64 x4, .int .i64 0, .int .i64 x5, .int .i64 x6, .int .i64 0, .int .i64 0, .int .i64 0, .int .i64 0, .int .i64 0, .int .i64 0, .int .i64 0, .int .i64 0, .int .i64 0])) w) := ⟨by
 have e : (Instr.build 70 #[(0, .int .i64 x0), (1, .int .i64 x1), (2, .int .i64 x2), (3, .int .i64 x3), (4, .int .i64 x4), (6, .int .i64 x5), (7, .int .i64 x6)]).run Tryd.prog w = .ok (.agg #[.int .i64 x0, .int .i64 x1, .int .i64 x2, .int .i64 x3, .int .i64 x4, .int .i64 0, .int .i64 x5, .int .i64 x6, .int .i64 0, .int .i64 0, .int .i64 0, .int .i64 0, .int .i64 0, .int .i64 0, .int .i64 0, .int .i64 0, .int .i64 0]) w := by kernel_rfl
 simp only [execOp, List.map_toArray, List.map_cons, List.map_nil, h0, h1, h2, h3, h4, h5, h6]
 exact run_bind e⟩
-- BUILD 70 Z5v 7
theorem Z5h {ρ : Operand → Value} {w : World} {d : Option Tmp} {ty : TypeId} {pos : String} {af : Array Edge} {g : Option (Nat × Bool)} {a0 a1 a2 a3 a4 a5 a6 a7 : Operand} {x0 : Int} {x1 : Int} {x2 : Int} {x3 : Int} {x4 : Int} {x5 : Int} {x6 : Int} {x7 : Int} {x8 : Int} {x9 : Int} {x10 : Int} {x11 : Int} {x12 : Int} {x13 : Int} {x14 : Int} (h0 : ρ a0 = .int .i64 x0) (h1 : ρ a1 = .int .i64 x1) (h2 : ρ a2 = .int .i64 x2) (h3 : ρ a3 = .int .i64 x3) (h4 : ρ a4 = .int .i64 x4) (h5 : ρ a5 = .int .i64 x5) (h6 : ρ a6 = .agg #[.int .i64 x6, .int .i64 x7, .int .i64 x8, .int .i64 x9, .int .i64 x10, .int .i64 x11, .int .i64 x12]) (h7 : ρ a7 = .agg #[.int .i64 x13, .int .i64 x14]) : Runs Tryd.prog ρ ⟨d, .build 70 #[(0, a0), (1, a1), (3, a2), (4, a3), (5, a4), (7, a5), (8, a6), (9, a7)], ty, pos, af, g⟩ w (.ok (.value (.agg #[.int .i64 x0, .int .i64 x1, .int .i64 0, .int .i64 x2, .int .i64 x3, .int .i64 x4, .int .i64 0, .int .i64 x5, .int .i64 x6, .int .i64 x7, .int .i64 x8, .int .i64 x9, .int .i64 x10, .int .i64 x11, .int .i64 x12, .int .i64 x13, .int .i64 x14])) w) := ⟨by
 have e : (Instr.build 70 #[(0, .int .i64 x0), (1, .int .i64 x1), (3, .int .i64 x2), (4, .int .i64 x3), (5, .int .i64 x4), (7, .int .i64 x5), (8, .agg #[.int .i64 x6, .int .i64 x7, .int .i64 x8, .int .i64 x9, .int .i64 x10, .int .i64 x11, .int .i64 x12]), (9, .agg #[.int .i64 x13, .int .i64 x14])]).run Tryd.prog w = .ok (.agg #[.int .i64 x0, .int .i64 x1, .int .i64 0, .int .i64 x2, .int .i64 x3, .int .i64 x4, .int .i64 0, .int .i64 x5, .int .i64 x6, .int .i64 x7, .int .i64 x8, .int .i64 x9, .int .i64 x10, .int .i64 x11, .int .i64 x12, .int .i64 x13, .int .i64 x14]) w := by kernel_rfl
 simp only [execOp, List.map_toArray, List.map_cons, List.map_nil, h0, h1, h2, h3, h4, h5, h6, h7]
 exact run_bind e⟩
-- BUILD 70 Z5h 8
theorem Z3l {ρ : Operand → Value} {w : World} {d : Option Tmp} {ty : TypeId} {pos : String} {af : Array Edge} {g : Option (Nat × Bool)} {a0 a1 a2 a3 a4 a5 a6 : Operand} {x0 : Int} {x1 : Int} {x2 : Int} {x3 : Int} {x4 : Int} {x5 : Int} {x6 : Int} (h0 : ρ a0 = .int .i64 x0) (h1 : ρ a1 = .int .i64 x1) (h2 : ρ a2 = .int .i64 x2) (h3 : ρ a3 = .int .i64 x3) (h4 : ρ a4 = .int .i64 x4) (h5 : ρ a5 = .int .i64 x5) (h6 : ρ a6 = .int .i64 x6) : Runs Tryd.prog ρ ⟨d, .build 84 #[(0, a0), (1, a1), (2, a2), (3, a3), (4, a4), (5, a5), (6, a6)], ty, pos, af, g⟩ w (.ok (.value (.agg #[.int .i64 x0, .int .i64 x1, .int .i64 x2, .int .i64 x3, .int .i64 x4, .int .i64 x5, .int .i64 x6])) w) := ⟨by
 have e : (Instr.build 84 #[(0, .int .i64 x0), (1, .int .i64 x1), (2, .int .i64 x2), (3, .int .i64 x3), (4, .int .i64 x4), (5, .int .i64 x5), (6, .int .i64 x6)]).run Tryd.prog w = .ok (.agg #[.int .i64 x0, .int .i64 x1, .int .i64 x2, .int .i64 x3, .int .i64 x4, .int .i64 x5, .int .i64 x6]) w := by kernel_rfl
 simp only [execOp, List.map_toArray, List.map_cons, List.map_nil, h0, h1, h2, h3, h4, h5, h6]
 exact run_bind e⟩
-- BUILD 84 Z3l 7
theorem Z5a {ρ : Operand → Value} {w : World} {d : Option Tmp} {ty : TypeId} {pos : String} {af : Array Edge} {g : Option (Nat × Bool)} {a0 a1 a2 a3 a4 a5 : Operand} {x0 : Int} {x1 : Int} {x2 : Int} {x3 : Int} {x4 : Int} {x5 : Int} (h0 : ρ a0 = .int .i64 x0) (h1 : ρ a1 = .int .i64 x1) (h2 : ρ a2 = .int .i64 x2) (h3 : ρ a3 = .int .i64 x3) (h4 : ρ a4 = .int .i64 x4) (h5 : ρ a5 = .int .i64 x5) : Runs Tryd.prog ρ ⟨d, .build 84 #[(0, a0), (1, a1), (2, a2), (4, a3), (5, a4), (6, a5)], ty, pos, af, g⟩ w (.ok (.value (.agg #[.int .i64 x0, .int .i64 x1, .int .i64 x2, .int .i64 0, .int .i64 x3, .int .i64 x4, .int .i64 x5])) w) := ⟨by
 have e : (Instr.build 84 #[(0, .int .i64 x0), (1, .int .i64 x1), (2, .int .i64 x2), (4, .int .i64 x3), (5, .int .i64 x4), (6, .int .i64 x5)]).run Tryd.prog w = .ok (.agg #[.int .i64 x0, .int .i64 x1, .int .i64 x2, .int .i64 0, .int .i64 x3, .int .i64 x4, .int .i64 x5]) w := by kernel_rfl
 simp only [execOp, List.map_toArray, List.map_cons, List.map_nil, h0, h1, h2, h3, h4, h5]
 exact run_bind e⟩
-- BUILD 84 Z5a 6
theorem Z7q {ρ : Operand → Value} {w : World} {d : Option Tmp} {ty : TypeId} {pos : String} {af : Array Edge} {g : Option (Nat × Bool)} {a0 a1 a2 a3 a4 : Operand} {x0 : Int} {x1 : Int} {x2 : Int} {x3 : Int} {x4 : Int} (h0 : ρ a0 = .int .i64 x0) (h1 : ρ a1 = .int .i64 x1) (h2 : ρ a2 = .int .i64 x2) (h3 : ρ a3 = .int .i64 x3) (h4 : ρ a4 = .int .i64 x4) : Runs Tryd.prog ρ ⟨d, .build 84 #[(0, a0), (1, a1), (3, a2), (4, a3), (5, a4)], ty, pos, af, g⟩ w (.ok (.value (.agg #[.int .i64 x0, .int .i64 x1, .int .i64 0, .int .i64 x2, .int .i64 x3, .int .i64 x4, .int .i64 0])) w) := ⟨by
 have e : (Instr.build 84 #[(0, .int .i64 x0), (1, .int .i64 x1), (3, .int .i64 x2), (4, .int .i64 x3), (5, .int .i64 x4)]).run Tryd.prog w = .ok (.agg #[.int .i64 x0, .int .i64 x1, .int .i64 0, .int .i64 x2, .int .i64 x3, .int .i64 x4, .int .i64 0]) w := by kernel_rfl
 simp only [execOp, List.map_toArray, List.map_cons, List.map_nil, h0, h1, h2, h3, h4]
 exact run_bind e⟩
-- BUILD 84 Z7q 5
theorem Z8b {ρ : Operand → Value} {w : World} {d : Option Tmp} {ty : TypeId} {pos : String} {af : Array Edge} {g : Option (Nat × Bool)} {a0 a1 a2 a3 : Operand} {x0A : Option Nat} {x1A : Option Nat} {x2A : Option Nat} {x3A : Option Nat} (h0 : ρ a0 = .map x0A) (h1 : ρ a1 = .map x1A) (h2 : ρ a2 = .map x2A) (h3 : ρ a3 = .map x3A) : Runs Tryd.prog ρ ⟨d, .build 142 #[(0, a0), (1, a1), (2, a2), (3, a3)], ty, pos, af, g⟩ w (.ok (.value (.agg #[.map x0A, .map x1A, .map x2A, .map x3A])) w) := ⟨by
 have e : (Instr.build 142 #[(0, .map x0A), (1, .map x1A), (2, .map x2A), (3, .map x3A)]).run Tryd.prog w = .ok (.agg #[.map x0A, .map x1A, .map x2A, .map x3A]) w := by kernel_rfl
 simp only [execOp, List.map_toArray, List.map_cons, List.map_nil, h0, h1, h2, h3]
 exact run_bind e⟩
-- BUILD 142 Z8b 4
theorem Ze3 {ρ : Operand → Value} {w : World} {d : Option Tmp} {ty : TypeId} {pos : String} {af : Array Edge} {g : Option (Nat × Bool)} {a0 a1 : Operand} {x0 : Int} {x1 : Int} (h0 : ρ a0 = .int .i64 x0) (h1 : ρ a1 = .int .i64 x1) : Runs Tryd.prog ρ ⟨d, .build 146 #[(0, a0), (1, a1)], ty, pos, af, g⟩ w (.ok (.value (.agg #[.int .i64 x0, .int .i64 x1])) w) := ⟨by
 have e : (Instr.build 146 #[(0, .int .i64 x0), (1, .int .i64 x1)]).run Tryd.prog w = .ok (.agg #[.int .i64 x0, .int .i64 x1]) w := by kernel_rfl
 simp only [execOp, List.map_toArray, List.map_cons, List.map_nil, h0, h1]
 exact run_bind e⟩
-- BUILD 146 Ze3 2
theorem eqv60 {d : Nat} {w : World} {x0 y0 : Int} {x1 y1 : Int} (hd : 2 ≤ d) : (Op.equalIn d 60 (.agg #[.int .i64 x0, .int .i64 x1]) (.agg #[.int .i64 y0, .int .i64 y1])).run Tryd.prog w = .ok (decide ((GVerdict.mk x0 x1) = (GVerdict.mk y0 y1))) w := by
 have h := Z9v (P := Tryd.prog) (T := 60) (w := w) (xs := #[.int .i64 x0, .int .i64 x1]) (ys := #[.int .i64 y0, .int .i64 y1]) Tryd.underlying60 (by kernel_rfl) (by omega : 1 ≤ d) (Z4r rfl (Z51 rfl) (Z51 rfl) (Z8v (by omega)) (Z4r rfl (Z51 rfl) (Z51 rfl) (Z8v (by omega)) Zg4))
 rw [h]
 congr 1
 rw [Bool.eq_iff_iff]
 simp
theorem eql60 {ρ : Operand → Value} {w : World} {d : Option Tmp} {ty T' : TypeId} {pos : String} {af : Array Edge} {g : Option (Nat × Bool)} {s t : Operand} {x0 y0 : Int} {x1 y1 : Int} (h1 : ρ s = .agg #[.int .i64 x0, .int .i64 x1]) (h2 : ρ t = .agg #[.int .i64 y0, .int .i64 y1]) :
  Runs Tryd.prog ρ ⟨d, .binOp .eql 60 s t T', ty, pos, af, g⟩ w (.ok (.value (.bool (decide ((GVerdict.mk x0 x1) = (GVerdict.mk y0 y1))))) w) := Zg5 h1 h2 (by kernel_rfl) (eqv60 (by decide))
theorem eqv63 {d : Nat} {w : World} {x0 y0 : Int} {x1 y1 : Int} (hd : 2 ≤ d) : (Op.equalIn d 63 (.agg #[.int .i64 x0, .int .i64 x1]) (.agg #[.int .i64 y0, .int .i64 y1])).run Tryd.prog w = .ok (decide ((GSpot.mk x0 x1) = (GSpot.mk y0 y1))) w := by
 have h := Z9v (P := Tryd.prog) (T := 63) (w := w) (xs := #[.int .i64 x0, .int .i64 x1]) (ys := #[.int .i64 y0, .int .i64 y1]) Tryd.underlying63 (by kernel_rfl) (by omega : 1 ≤ d) (Z4r rfl (Z51 rfl) (Z51 rfl) (Z8v (by omega)) (Z4r rfl (Z51 rfl) (Z51 rfl) (Z8v (by omega)) Zg4))
 rw [h]
 congr 1
 rw [Bool.eq_iff_iff]
 simp
theorem neq63 {ρ : Operand → Value} {w : World} {d : Option Tmp} {ty T' : TypeId} {pos : String} {af : Array Edge} {g : Option (Nat × Bool)} {s t : Operand} {x0 y0 : Int} {x1 y1 : Int} (h1 : ρ s = .agg #[.int .i64 x0, .int .i64 x1]) (h2 : ρ t = .agg #[.int .i64 y0, .int .i64 y1]) :
  Runs Tryd.prog ρ ⟨d, .binOp .neq 63 s t T', ty, pos, af, g⟩ w (.ok (.value (.bool (!decide ((GSpot.mk x0 x1) = (GSpot.mk y0 y1))))) w) := Zg6 h1 h2 (by kernel_rfl) (eqv63 (by decide))
theorem eqv84 {d : Nat} {w : World} {x0 y0 : Int} {x1 y1 : Int} {x2 y2 : Int} {x3 y3 : Int} {x4 y4 : Int} {x5 y5 : Int} {x6 y6 : Int} (hd : 2 ≤ d) : (Op.equalIn d 84 (.agg #[.int .i64 x0, .int .i64 x1, .int .i64 x2, .int .i64 x3, .int .i64 x4, .int .i64 x5, .int .i64 x6]) (.agg #[.int .i64 y0, .int .i64 y1, .int .i64 y2, .int .i64 y3, .int .i64 y4, .int .i64 y5, .int .i64 y6])).run Tryd.prog w = .ok (decide ((GPosting.mk x0 x1 x2 x3 x4 x5 x6) = (GPosting.mk y0 y1 y2 y3 y4 y5 y6))) w := by
 have h := Z9v (P := Tryd.prog) (T := 84) (w := w) (xs := #[.int .i64 x0, .int .i64 x1, .int .i64 x2, .int .i64 x3, .int .i64 x4, .int .i64 x5, .int .i64 x6]) (ys := #[.int .i64 y0, .int .i64 y1, .int .i64 y2, .int .i64 y3, .int .i64 y4, .int .i64 y5, .int .i64 y6]) Tryd.underlying84 (by kernel_rfl) (by omega : 1 ≤ d) (Z4r rfl (Z51 rfl) (Z51 rfl) (Z8v (by omega)) (Z4r rfl (Z51 rfl) (Z51 rfl) (Z8v (by omega)) (Z4r rfl (Z51 rfl) (Z51 rfl) (Z8v (by omega)) (Z4r rfl (Z51 rfl) (Z51 rfl) (Z8v (by omega)) (Z4r rfl (Z51 rfl) (Z51 rfl) (Z8v (by omega)) (Z4r rfl (Z51 rfl) (Z51 rfl) (Z8v (by omega)) (Z4r rfl (Z51 rfl) (Z51 rfl) (Z8v (by omega)) Zg4)))))))
 rw [h]
 congr 1
 rw [Bool.eq_iff_iff]
 simp
theorem eql84 {ρ : Operand → Value} {w : World} {d : Option Tmp} {ty T' : TypeId} {pos : String} {af : Array Edge} {g : Option (Nat × Bool)} {s t : Operand} {x0 y0 : Int} {x1 y1 : Int} {x2 y2 : Int} {x3 y3 : Int} {x4 y4 : Int} {x5 y5 : Int} {x6 y6 : Int} (h1 : ρ s = .agg #[.int .i64 x0, .int .i64 x1, .int .i64 x2, .int .i64 x3, .int .i64 x4, .int .i64 x5, .int .i64 x6]) (h2 : ρ t = .agg #[.int .i64 y0, .int .i64 y1, .int .i64 y2, .int .i64 y3, .int .i64 y4, .int .i64 y5, .int .i64 y6]) :
  Runs Tryd.prog ρ ⟨d, .binOp .eql 84 s t T', ty, pos, af, g⟩ w (.ok (.value (.bool (decide ((GPosting.mk x0 x1 x2 x3 x4 x5 x6) = (GPosting.mk y0 y1 y2 y3 y4 y5 y6))))) w) := Zg5 h1 h2 (by kernel_rfl) (eqv84 (by decide))
theorem neq84 {ρ : Operand → Value} {w : World} {d : Option Tmp} {ty T' : TypeId} {pos : String} {af : Array Edge} {g : Option (Nat × Bool)} {s t : Operand} {x0 y0 : Int} {x1 y1 : Int} {x2 y2 : Int} {x3 y3 : Int} {x4 y4 : Int} {x5 y5 : Int} {x6 y6 : Int} (h1 : ρ s = .agg #[.int .i64 x0, .int .i64 x1, .int .i64 x2, .int .i64 x3, .int .i64 x4, .int .i64 x5, .int .i64 x6]) (h2 : ρ t = .agg #[.int .i64 y0, .int .i64 y1, .int .i64 y2, .int .i64 y3, .int .i64 y4, .int .i64 y5, .int .i64 y6]) :
  Runs Tryd.prog ρ ⟨d, .binOp .neq 84 s t T', ty, pos, af, g⟩ w (.ok (.value (.bool (!decide ((GPosting.mk x0 x1 x2 x3 x4 x5 x6) = (GPosting.mk y0 y1 y2 y3 y4 y5 y6))))) w) := Zg6 h1 h2 (by kernel_rfl) (eqv84 (by decide))
instance im94 : IsMap Tryd.prog 94 3 3 := ⟨Tryd.underlying94⟩
instance im138 : IsMap Tryd.prog 138 3 70 := ⟨Tryd.underlying138⟩
instance im139 : IsMap Tryd.prog 139 63 4 := ⟨Tryd.underlying139⟩
instance im140 : IsMap Tryd.prog 140 146 3 := ⟨Tryd.underlying140⟩
instance im155 : IsMap Tryd.prog 155 3 4 := ⟨Tryd.underlying155⟩
instance mk3 : MKey Tryd.prog 3 (fun x : Int => Value.int .i64 x) := MKey.int Tryd.underlying3
instance mk63 : MKey Tryd.prog 63 (fun x : GSpot => Value.agg x.enc.toArray) := MKey.agg Tryd.underlying63 (fun k => ⟨_, rfl⟩) (fun a b w => by cases a; cases b; exact eqv63 (by decide)) (fun e k w => by cases k; kernel_rfl) (fun k => by cases k; simp [GSpot.enc, Instr.sameBits])
theorem eqv146 {d : Nat} {w : World} {x0 y0 : Int} {x1 y1 : Int} (hd : 2 ≤ d) : (Op.equalIn d 146 (.agg #[.int .i64 x0, .int .i64 x1]) (.agg #[.int .i64 y0, .int .i64 y1])).run Tryd.prog w = .ok (decide ((GDay.mk x0 x1) = (GDay.mk y0 y1))) w := by
 have h := Z9v (P := Tryd.prog) (T := 146) (w := w) (xs := #[.int .i64 x0, .int .i64 x1]) (ys := #[.int .i64 y0, .int .i64 y1]) Tryd.underlying146 (by kernel_rfl) (by omega : 1 ≤ d) (Z4r rfl (Z51 rfl) (Z51 rfl) (Z8v (by omega)) (Z4r rfl (Z51 rfl) (Z51 rfl) (Z8v (by omega)) Zg4))
 rw [h]
 congr 1
 rw [Bool.eq_iff_iff]
 simp
instance mk146 : MKey Tryd.prog 146 (fun x : GDay => Value.agg x.enc.toArray) := MKey.agg Tryd.underlying146 (fun k => ⟨_, rfl⟩) (fun a b w => by cases a; cases b; exact eqv146 (by decide)) (fun e k w => by cases k; kernel_rfl) (fun k => by cases k; simp [GDay.enc, Instr.sameBits])

end Go.Proofs.YtijnbpnficcpmaaDoor

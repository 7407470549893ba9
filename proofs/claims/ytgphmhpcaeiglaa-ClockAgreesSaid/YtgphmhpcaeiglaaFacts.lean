/- What the dump says of its types and functions: written by facts.py (a program of this claim). -/
import Derived.Test.YtgphmhpcaeiglaaProg
import Derived.Test.YtgphmhpcaeiglaaGxEqS
import Derived.KernelRfl
namespace Go.Proofs.Ytgphmhpcaeiglaa
open Go Go.Gx
set_option linter.unusedSimpArgs false
set_option linter.unusedVariables false

instance tf1 : TF Try.prog 1 false 1 := ⟨Try.isAgg1, Try.sizeOf1⟩
instance ti1 : TI Try.prog 1 (.nilFunc) 1 8 := TI.of (by kernel_rfl)
instance tf2 : TF Try.prog 2 false 1 := ⟨Try.isAgg2, Try.sizeOf2⟩
instance ti2 : TI Try.prog 2 (.int .i64 0) 1 8 := TI.of (by kernel_rfl)
instance is2 : IsInt Try.prog 2 .i64 := ⟨Try.underlying2⟩
instance tf3 : TF Try.prog 3 false 1 := ⟨Try.isAgg3, Try.sizeOf3⟩
instance ti3 : TI Try.prog 3 (.int .i64 0) 1 8 := TI.of (by kernel_rfl)
instance is3 : IsInt Try.prog 3 .i64 := ⟨Try.underlying3⟩
instance tf4 : TF Try.prog 4 false 1 := ⟨Try.isAgg4, Try.sizeOf4⟩
instance ti4 : TI Try.prog 4 (.bool false) 1 1 := TI.of (by kernel_rfl)
instance is4 : IsBool Try.prog 4 := ⟨Try.underlying4⟩
instance tf5 : TF Try.prog 5 false 1 := ⟨Try.isAgg5, Try.sizeOf5⟩
instance ti5 : TI Try.prog 5 (.int .u8 0) 1 1 := TI.of (by kernel_rfl)
instance is5 : IsInt Try.prog 5 .u8 := ⟨Try.underlying5⟩
instance tf9 : TF Try.prog 9 false 1 := ⟨Try.isAgg9, Try.sizeOf9⟩
instance ti9 : TI Try.prog 9 (.string ⟨#[]⟩) 1 16 := TI.of (by kernel_rfl)
instance is9 : IsStr Try.prog 9 := ⟨Try.underlying9⟩
instance tf12 : TF Try.prog 12 false 1 := ⟨Try.isAgg12, Try.sizeOf12⟩
instance ti12 : TI Try.prog 12 (.int .u64 0) 1 8 := TI.of (by kernel_rfl)
instance is12 : IsInt Try.prog 12 .u64 := ⟨Try.underlying12⟩
instance tf21 : TF Try.prog 21 false 1 := ⟨Try.isAgg21, Try.sizeOf21⟩
instance ti21 : TI Try.prog 21 (.int .i32 0) 1 4 := TI.of (by kernel_rfl)
instance is21 : IsInt Try.prog 21 .i32 := ⟨Try.underlying21⟩
instance tf22 : TF Try.prog 22 false 1 := ⟨Try.isAgg22, Try.sizeOf22⟩
instance ti22 : TI Try.prog 22 (.slice none 0 0) 1 24 := TI.of (by kernel_rfl)
instance is22 : IsSlice Try.prog 22 48 := ⟨Try.underlying22⟩
instance tf23 : TF Try.prog 23 true 2 := ⟨Try.isAgg23, Try.sizeOf23⟩
instance ti23 : TI Try.prog 23 (.agg #[.int .i64 0, .slice none 0 0]) 2 32 := TI.of (by kernel_rfl)
instance tf24 : TF Try.prog 24 true 2 := ⟨Try.isAgg24, Try.sizeOf24⟩
instance ti24 : TI Try.prog 24 (.agg #[.int .i64 0, .slice none 0 0]) 2 32 := TI.of (by kernel_rfl)
instance tf25 : TF Try.prog 25 false 1 := ⟨Try.isAgg25, Try.sizeOf25⟩
instance ti25 : TI Try.prog 25 (.slice none 0 0) 1 24 := TI.of (by kernel_rfl)
instance is25 : IsSlice Try.prog 25 3 := ⟨Try.underlying25⟩
instance tf26 : TF Try.prog 26 false 1 := ⟨Try.isAgg26, Try.sizeOf26⟩
instance ti26 : TI Try.prog 26 (.slice none 0 0) 1 24 := TI.of (by kernel_rfl)
instance is26 : IsSlice Try.prog 26 60 := ⟨Try.underlying26⟩
instance tf27 : TF Try.prog 27 false 1 := ⟨Try.isAgg27, Try.sizeOf27⟩
instance ti27 : TI Try.prog 27 (.slice none 0 0) 1 24 := TI.of (by kernel_rfl)
instance is27 : IsSlice Try.prog 27 32 := ⟨Try.underlying27⟩
instance tf28 : TF Try.prog 28 false 1 := ⟨Try.isAgg28, Try.sizeOf28⟩
instance ti28 : TI Try.prog 28 (.nilFunc) 1 8 := TI.of (by kernel_rfl)
instance tf30 : TF Try.prog 30 false 1 := ⟨Try.isAgg30, Try.sizeOf30⟩
instance ti30 : TI Try.prog 30 (.nilFunc) 1 8 := TI.of (by kernel_rfl)
instance tf31 : TF Try.prog 31 true 2 := ⟨Try.isAgg31, Try.sizeOf31⟩
instance ti31 : TI Try.prog 31 (.agg #[.int .i64 0, .int .i64 0]) 2 16 := TI.of (by kernel_rfl)
instance tf32 : TF Try.prog 32 true 2 := ⟨Try.isAgg32, Try.sizeOf32⟩
instance ti32 : TI Try.prog 32 (.agg #[.int .i64 0, .int .i64 0]) 2 16 := TI.of (by kernel_rfl)
instance tf34 : TF Try.prog 34 false 1 := ⟨Try.isAgg34, Try.sizeOf34⟩
instance ti34 : TI Try.prog 34 (.nilFunc) 1 8 := TI.of (by kernel_rfl)
instance tf35 : TF Try.prog 35 false 1 := ⟨Try.isAgg35, Try.sizeOf35⟩
instance ti35 : TI Try.prog 35 (.nilFunc) 1 8 := TI.of (by kernel_rfl)
instance tf36 : TF Try.prog 36 false 1 := ⟨Try.isAgg36, Try.sizeOf36⟩
instance ti36 : TI Try.prog 36 (.nilFunc) 1 8 := TI.of (by kernel_rfl)
instance tf37 : TF Try.prog 37 false 1 := ⟨Try.isAgg37, Try.sizeOf37⟩
instance ti37 : TI Try.prog 37 (.slice none 0 0) 1 24 := TI.of (by kernel_rfl)
instance is37 : IsSlice Try.prog 37 24 := ⟨Try.underlying37⟩
instance tf38 : TF Try.prog 38 false 1 := ⟨Try.isAgg38, Try.sizeOf38⟩
instance ti38 : TI Try.prog 38 (.nilFunc) 1 8 := TI.of (by kernel_rfl)
instance tf39 : TF Try.prog 39 false 1 := ⟨Try.isAgg39, Try.sizeOf39⟩
instance ti39 : TI Try.prog 39 (.nilFunc) 1 8 := TI.of (by kernel_rfl)
instance tf40 : TF Try.prog 40 false 1 := ⟨Try.isAgg40, Try.sizeOf40⟩
instance ti40 : TI Try.prog 40 (.int .i64 0) 1 8 := TI.of (by kernel_rfl)
instance is40 : IsInt Try.prog 40 .i64 := ⟨Try.underlying40⟩
instance tf42 : TF Try.prog 42 false 1 := ⟨Try.isAgg42, Try.sizeOf42⟩
instance ti42 : TI Try.prog 42 (.nilFunc) 1 8 := TI.of (by kernel_rfl)
instance tf43 : TF Try.prog 43 false 1 := ⟨Try.isAgg43, Try.sizeOf43⟩
instance ti43 : TI Try.prog 43 (.nilFunc) 1 8 := TI.of (by kernel_rfl)
instance tf44 : TF Try.prog 44 false 1 := ⟨Try.isAgg44, Try.sizeOf44⟩
instance ti44 : TI Try.prog 44 (.nilFunc) 1 8 := TI.of (by kernel_rfl)
instance tf45 : TF Try.prog 45 false 1 := ⟨Try.isAgg45, Try.sizeOf45⟩
instance ti45 : TI Try.prog 45 (.nilFunc) 1 8 := TI.of (by kernel_rfl)
instance tf46 : TF Try.prog 46 true 2 := ⟨Try.isAgg46, Try.sizeOf46⟩
instance ti46 : TI Try.prog 46 (.agg #[.int .i64 0, .int .i64 0]) 2 16 := TI.of (by kernel_rfl)
instance is46 : IsArr Try.prog 46 2 3 := ⟨Try.underlying46⟩
instance tf47 : TF Try.prog 47 true 3 := ⟨Try.isAgg47, Try.sizeOf47⟩
instance ti47 : TI Try.prog 47 (.agg #[.int .i64 0, .int .i64 0, .int .i64 0]) 3 24 := TI.of (by kernel_rfl)
instance tf48 : TF Try.prog 48 true 3 := ⟨Try.isAgg48, Try.sizeOf48⟩
instance ti48 : TI Try.prog 48 (.agg #[.int .i64 0, .int .i64 0, .int .i64 0]) 3 24 := TI.of (by kernel_rfl)
instance tf49 : TF Try.prog 49 false 1 := ⟨Try.isAgg49, Try.sizeOf49⟩
instance ti49 : TI Try.prog 49 (.nilFunc) 1 8 := TI.of (by kernel_rfl)
instance tf50 : TF Try.prog 50 false 1 := ⟨Try.isAgg50, Try.sizeOf50⟩
instance ti50 : TI Try.prog 50 (.nilFunc) 1 8 := TI.of (by kernel_rfl)
instance tf51 : TF Try.prog 51 false 1 := ⟨Try.isAgg51, Try.sizeOf51⟩
instance ti51 : TI Try.prog 51 (.nilFunc) 1 8 := TI.of (by kernel_rfl)
instance tf52 : TF Try.prog 52 false 1 := ⟨Try.isAgg52, Try.sizeOf52⟩
instance ti52 : TI Try.prog 52 (.nilFunc) 1 8 := TI.of (by kernel_rfl)
instance tf53 : TF Try.prog 53 false 1 := ⟨Try.isAgg53, Try.sizeOf53⟩
instance ti53 : TI Try.prog 53 (.nilFunc) 1 8 := TI.of (by kernel_rfl)
instance tf54 : TF Try.prog 54 false 1 := ⟨Try.isAgg54, Try.sizeOf54⟩
instance ti54 : TI Try.prog 54 (.slice none 0 0) 1 24 := TI.of (by kernel_rfl)
instance is54 : IsSlice Try.prog 54 56 := ⟨Try.underlying54⟩
instance tf55 : TF Try.prog 55 true 2 := ⟨Try.isAgg55, Try.sizeOf55⟩
instance ti55 : TI Try.prog 55 (.agg #[.int .i64 0, .int .i64 0]) 2 16 := TI.of (by kernel_rfl)
instance tf56 : TF Try.prog 56 true 2 := ⟨Try.isAgg56, Try.sizeOf56⟩
instance ti56 : TI Try.prog 56 (.agg #[.int .i64 0, .int .i64 0]) 2 16 := TI.of (by kernel_rfl)
instance tf57 : TF Try.prog 57 false 1 := ⟨Try.isAgg57, Try.sizeOf57⟩
instance ti57 : TI Try.prog 57 (.nilFunc) 1 8 := TI.of (by kernel_rfl)
instance tf58 : TF Try.prog 58 false 1 := ⟨Try.isAgg58, Try.sizeOf58⟩
instance ti58 : TI Try.prog 58 (.nilFunc) 1 8 := TI.of (by kernel_rfl)
instance tf59 : TF Try.prog 59 false 1 := ⟨Try.isAgg59, Try.sizeOf59⟩
instance ti59 : TI Try.prog 59 (.nilFunc) 1 8 := TI.of (by kernel_rfl)
instance tf60 : TF Try.prog 60 true 3 := ⟨Try.isAgg60, Try.sizeOf60⟩
instance ti60 : TI Try.prog 60 (.agg #[.int .i64 0, .int .i64 0, .int .i64 0]) 3 24 := TI.of (by kernel_rfl)
instance is60 : IsArr Try.prog 60 3 3 := ⟨Try.underlying60⟩
instance tf61 : TF Try.prog 61 true 2 := ⟨Try.isAgg61, Try.sizeOf61⟩
instance ti61 : TI Try.prog 61 (.agg #[.int .i64 0, .int .i64 0]) 2 16 := TI.of (by kernel_rfl)
instance tf62 : TF Try.prog 62 true 2 := ⟨Try.isAgg62, Try.sizeOf62⟩
instance ti62 : TI Try.prog 62 (.agg #[.int .i64 0, .int .i64 0]) 2 16 := TI.of (by kernel_rfl)
instance tf63 : TF Try.prog 63 false 1 := ⟨Try.isAgg63, Try.sizeOf63⟩
instance ti63 : TI Try.prog 63 (.nilFunc) 1 8 := TI.of (by kernel_rfl)
instance tf64 : TF Try.prog 64 false 1 := ⟨Try.isAgg64, Try.sizeOf64⟩
instance ti64 : TI Try.prog 64 (.nilFunc) 1 8 := TI.of (by kernel_rfl)
instance tf65 : TF Try.prog 65 false 1 := ⟨Try.isAgg65, Try.sizeOf65⟩
instance ti65 : TI Try.prog 65 (.nilFunc) 1 8 := TI.of (by kernel_rfl)
instance tf66 : TF Try.prog 66 false 1 := ⟨Try.isAgg66, Try.sizeOf66⟩
instance ti66 : TI Try.prog 66 (.nilFunc) 1 8 := TI.of (by kernel_rfl)
instance tf67 : TF Try.prog 67 false 1 := ⟨Try.isAgg67, Try.sizeOf67⟩
instance ti67 : TI Try.prog 67 (.nilFunc) 1 8 := TI.of (by kernel_rfl)
instance tf68 : TF Try.prog 68 false 1 := ⟨Try.isAgg68, Try.sizeOf68⟩
instance ti68 : TI Try.prog 68 (.nilFunc) 1 8 := TI.of (by kernel_rfl)
instance tf69 : TF Try.prog 69 false 1 := ⟨Try.isAgg69, Try.sizeOf69⟩
instance ti69 : TI Try.prog 69 (.int .u64 0) 1 8 := TI.of (by kernel_rfl)
instance is69 : IsInt Try.prog 69 .u64 := ⟨Try.underlying69⟩
instance tf70 : TF Try.prog 70 false 1 := ⟨Try.isAgg70, Try.sizeOf70⟩
instance ti70 : TI Try.prog 70 (.pointer none) 1 8 := TI.of (by kernel_rfl)
instance tf71 : TF Try.prog 71 false 1 := ⟨Try.isAgg71, Try.sizeOf71⟩
instance ti71 : TI Try.prog 71 (.nilFunc) 1 8 := TI.of (by kernel_rfl)
instance tf72 : TF Try.prog 72 false 1 := ⟨Try.isAgg72, Try.sizeOf72⟩
instance ti72 : TI Try.prog 72 (.nilFunc) 1 8 := TI.of (by kernel_rfl)
instance tf73 : TF Try.prog 73 false 1 := ⟨Try.isAgg73, Try.sizeOf73⟩
instance ti73 : TI Try.prog 73 (.int .i64 0) 1 8 := TI.of (by kernel_rfl)
instance is73 : IsInt Try.prog 73 .i64 := ⟨Try.underlying73⟩
instance tf75 : TF Try.prog 75 false 1 := ⟨Try.isAgg75, Try.sizeOf75⟩
instance ti75 : TI Try.prog 75 (.nilFunc) 1 8 := TI.of (by kernel_rfl)
instance tf76 : TF Try.prog 76 false 1 := ⟨Try.isAgg76, Try.sizeOf76⟩
instance ti76 : TI Try.prog 76 (.nilFunc) 1 8 := TI.of (by kernel_rfl)
instance tf77 : TF Try.prog 77 false 1 := ⟨Try.isAgg77, Try.sizeOf77⟩
instance ti77 : TI Try.prog 77 (.nilFunc) 1 8 := TI.of (by kernel_rfl)
instance tf79 : TF Try.prog 79 false 1 := ⟨Try.isAgg79, Try.sizeOf79⟩
instance ti79 : TI Try.prog 79 (.nilFunc) 1 8 := TI.of (by kernel_rfl)
instance tf80 : TF Try.prog 80 false 1 := ⟨Try.isAgg80, Try.sizeOf80⟩
instance ti80 : TI Try.prog 80 (.nilFunc) 1 8 := TI.of (by kernel_rfl)
instance tf81 : TF Try.prog 81 false 1 := ⟨Try.isAgg81, Try.sizeOf81⟩
instance ti81 : TI Try.prog 81 (.int .u32 0) 1 4 := TI.of (by kernel_rfl)
instance is81 : IsInt Try.prog 81 .u32 := ⟨Try.underlying81⟩
instance tf82 : TF Try.prog 82 false 1 := ⟨Try.isAgg82, Try.sizeOf82⟩
instance ti82 : TI Try.prog 82 (.nilFunc) 1 8 := TI.of (by kernel_rfl)
instance tf83 : TF Try.prog 83 false 1 := ⟨Try.isAgg83, Try.sizeOf83⟩
instance ti83 : TI Try.prog 83 (.int .u64 0) 1 8 := TI.of (by kernel_rfl)
instance is83 : IsInt Try.prog 83 .u64 := ⟨Try.underlying83⟩
instance tf84 : TF Try.prog 84 false 1 := ⟨Try.isAgg84, Try.sizeOf84⟩
instance ti84 : TI Try.prog 84 (.int .u64 0) 1 8 := TI.of (by kernel_rfl)
instance is84 : IsInt Try.prog 84 .u64 := ⟨Try.underlying84⟩
instance tf85 : TF Try.prog 85 false 1 := ⟨Try.isAgg85, Try.sizeOf85⟩
instance ti85 : TI Try.prog 85 (.nilFunc) 1 8 := TI.of (by kernel_rfl)
instance tf86 : TF Try.prog 86 false 1 := ⟨Try.isAgg86, Try.sizeOf86⟩
instance ti86 : TI Try.prog 86 (.nilFunc) 1 8 := TI.of (by kernel_rfl)
instance tf87 : TF Try.prog 87 false 1 := ⟨Try.isAgg87, Try.sizeOf87⟩
instance ti87 : TI Try.prog 87 (.nilFunc) 1 8 := TI.of (by kernel_rfl)
instance tf88 : TF Try.prog 88 false 1 := ⟨Try.isAgg88, Try.sizeOf88⟩
instance ti88 : TI Try.prog 88 (.pointer none) 1 8 := TI.of (by kernel_rfl)
instance tf89 : TF Try.prog 89 false 1 := ⟨Try.isAgg89, Try.sizeOf89⟩
instance ti89 : TI Try.prog 89 (.nilFunc) 1 8 := TI.of (by kernel_rfl)
instance tf90 : TF Try.prog 90 false 1 := ⟨Try.isAgg90, Try.sizeOf90⟩
instance ti90 : TI Try.prog 90 (.pointer none) 1 8 := TI.of (by kernel_rfl)
instance tf91 : TF Try.prog 91 false 1 := ⟨Try.isAgg91, Try.sizeOf91⟩
instance ti91 : TI Try.prog 91 (.nilFunc) 1 8 := TI.of (by kernel_rfl)
instance tf92 : TF Try.prog 92 false 1 := ⟨Try.isAgg92, Try.sizeOf92⟩
instance ti92 : TI Try.prog 92 (.nilFunc) 1 8 := TI.of (by kernel_rfl)
instance tf98 : TF Try.prog 98 false 1 := ⟨Try.isAgg98, Try.sizeOf98⟩
instance ti98 : TI Try.prog 98 (.nilFunc) 1 8 := TI.of (by kernel_rfl)
instance tf101 : TF Try.prog 101 false 1 := ⟨Try.isAgg101, Try.sizeOf101⟩
instance ti101 : TI Try.prog 101 (.nilFunc) 1 8 := TI.of (by kernel_rfl)
instance tf102 : TF Try.prog 102 false 1 := ⟨Try.isAgg102, Try.sizeOf102⟩
instance ti102 : TI Try.prog 102 (.pointer none) 1 8 := TI.of (by kernel_rfl)
instance fa23_0 : FA Try.prog 23 0 0 := ⟨fun _ _ => by kernel_rfl⟩
instance fv23_0 : FV Try.prog 23 0 0 := ⟨fun cs v w h => by simp [Instr.field, run_underlying' Try.underlying23, asAgg, part, Try.isAgg3, h]⟩
instance fa23_1 : FA Try.prog 23 1 1 := ⟨fun _ _ => by kernel_rfl⟩
instance fv23_1 : FV Try.prog 23 1 1 := ⟨fun cs v w h => by simp [Instr.field, run_underlying' Try.underlying23, asAgg, part, Try.isAgg22, h]⟩
instance fa24_0 : FA Try.prog 24 0 0 := ⟨fun _ _ => by kernel_rfl⟩
instance fv24_0 : FV Try.prog 24 0 0 := ⟨fun cs v w h => by simp [Instr.field, run_underlying' Try.underlying24, asAgg, part, Try.isAgg3, h]⟩
instance fa24_1 : FA Try.prog 24 1 1 := ⟨fun _ _ => by kernel_rfl⟩
instance fv24_1 : FV Try.prog 24 1 1 := ⟨fun cs v w h => by simp [Instr.field, run_underlying' Try.underlying24, asAgg, part, Try.isAgg22, h]⟩
instance fa31_0 : FA Try.prog 31 0 0 := ⟨fun _ _ => by kernel_rfl⟩
instance fv31_0 : FV Try.prog 31 0 0 := ⟨fun cs v w h => by simp [Instr.field, run_underlying' Try.underlying31, asAgg, part, Try.isAgg3, h]⟩
instance fa31_1 : FA Try.prog 31 1 1 := ⟨fun _ _ => by kernel_rfl⟩
instance fv31_1 : FV Try.prog 31 1 1 := ⟨fun cs v w h => by simp [Instr.field, run_underlying' Try.underlying31, asAgg, part, Try.isAgg3, h]⟩
instance fa32_0 : FA Try.prog 32 0 0 := ⟨fun _ _ => by kernel_rfl⟩
instance fv32_0 : FV Try.prog 32 0 0 := ⟨fun cs v w h => by simp [Instr.field, run_underlying' Try.underlying32, asAgg, part, Try.isAgg3, h]⟩
instance fa32_1 : FA Try.prog 32 1 1 := ⟨fun _ _ => by kernel_rfl⟩
instance fv32_1 : FV Try.prog 32 1 1 := ⟨fun cs v w h => by simp [Instr.field, run_underlying' Try.underlying32, asAgg, part, Try.isAgg3, h]⟩
instance fa47_0 : FA Try.prog 47 0 0 := ⟨fun _ _ => by kernel_rfl⟩
instance fv47_0 : FV Try.prog 47 0 0 := ⟨fun cs v w h => by simp [Instr.field, run_underlying' Try.underlying47, asAgg, part, Try.isAgg3, h]⟩
instance fa47_1 : FA Try.prog 47 1 1 := ⟨fun _ _ => by kernel_rfl⟩
instance fv47_1 : FV Try.prog 47 1 1 := ⟨fun cs v w h => by simp [Instr.field, run_underlying' Try.underlying47, asAgg, part, Try.isAgg3, h]⟩
instance fa47_2 : FA Try.prog 47 2 2 := ⟨fun _ _ => by kernel_rfl⟩
instance fv47_2 : FV Try.prog 47 2 2 := ⟨fun cs v w h => by simp [Instr.field, run_underlying' Try.underlying47, asAgg, part, Try.isAgg3, h]⟩
instance fa48_0 : FA Try.prog 48 0 0 := ⟨fun _ _ => by kernel_rfl⟩
instance fv48_0 : FV Try.prog 48 0 0 := ⟨fun cs v w h => by simp [Instr.field, run_underlying' Try.underlying48, asAgg, part, Try.isAgg3, h]⟩
instance fa48_1 : FA Try.prog 48 1 1 := ⟨fun _ _ => by kernel_rfl⟩
instance fv48_1 : FV Try.prog 48 1 1 := ⟨fun cs v w h => by simp [Instr.field, run_underlying' Try.underlying48, asAgg, part, Try.isAgg3, h]⟩
instance fa48_2 : FA Try.prog 48 2 2 := ⟨fun _ _ => by kernel_rfl⟩
instance fv48_2 : FV Try.prog 48 2 2 := ⟨fun cs v w h => by simp [Instr.field, run_underlying' Try.underlying48, asAgg, part, Try.isAgg3, h]⟩
instance fa55_0 : FA Try.prog 55 0 0 := ⟨fun _ _ => by kernel_rfl⟩
instance fv55_0 : FV Try.prog 55 0 0 := ⟨fun cs v w h => by simp [Instr.field, run_underlying' Try.underlying55, asAgg, part, Try.isAgg3, h]⟩
instance fa55_1 : FA Try.prog 55 1 1 := ⟨fun _ _ => by kernel_rfl⟩
instance fv55_1 : FV Try.prog 55 1 1 := ⟨fun cs v w h => by simp [Instr.field, run_underlying' Try.underlying55, asAgg, part, Try.isAgg3, h]⟩
instance fa56_0 : FA Try.prog 56 0 0 := ⟨fun _ _ => by kernel_rfl⟩
instance fv56_0 : FV Try.prog 56 0 0 := ⟨fun cs v w h => by simp [Instr.field, run_underlying' Try.underlying56, asAgg, part, Try.isAgg3, h]⟩
instance fa56_1 : FA Try.prog 56 1 1 := ⟨fun _ _ => by kernel_rfl⟩
instance fv56_1 : FV Try.prog 56 1 1 := ⟨fun cs v w h => by simp [Instr.field, run_underlying' Try.underlying56, asAgg, part, Try.isAgg3, h]⟩
instance fa61_0 : FA Try.prog 61 0 0 := ⟨fun _ _ => by kernel_rfl⟩
instance fv61_0 : FV Try.prog 61 0 0 := ⟨fun cs v w h => by simp [Instr.field, run_underlying' Try.underlying61, asAgg, part, Try.isAgg3, h]⟩
instance fa61_1 : FA Try.prog 61 1 1 := ⟨fun _ _ => by kernel_rfl⟩
instance fv61_1 : FV Try.prog 61 1 1 := ⟨fun cs v w h => by simp [Instr.field, run_underlying' Try.underlying61, asAgg, part, Try.isAgg3, h]⟩
instance fa62_0 : FA Try.prog 62 0 0 := ⟨fun _ _ => by kernel_rfl⟩
instance fv62_0 : FV Try.prog 62 0 0 := ⟨fun cs v w h => by simp [Instr.field, run_underlying' Try.underlying62, asAgg, part, Try.isAgg3, h]⟩
instance fa62_1 : FA Try.prog 62 1 1 := ⟨fun _ _ => by kernel_rfl⟩
instance fv62_1 : FV Try.prog 62 1 1 := ⟨fun cs v w h => by simp [Instr.field, run_underlying' Try.underlying62, asAgg, part, Try.isAgg3, h]⟩
instance en3 : Enters Try.prog 3 := Enters.of Try.func3 (by rfl) (by decide)   -- aircheck/airchecklaw05.ClockMatchesReference
instance en4 : Enters Try.prog 4 := Enters.of Try.func4 (by rfl) (by decide)   -- aircheck/airchecklaw05.ClockExact
instance en5 : Enters Try.prog 5 := Enters.of Try.func5 (by rfl) (by decide)   -- aircheck/airchecklaw05.ClockNarrows
instance en6 : Enters Try.prog 6 := Enters.of Try.func6 (by rfl) (by decide)   -- aircheck/airchecklaw05.ClockInverse
instance en7 : Enters Try.prog 7 := Enters.of Try.func7 (by rfl) (by decide)   -- aircheck/airchecklaw05.ClockAgrees
instance en8 : Enters Try.prog 8 := Enters.of Try.func8 (by rfl) (by decide)   -- aircheck/airchecklaw05.ClockMoves
instance en9 : Enters Try.prog 9 := Enters.of Try.func9 (by rfl) (by decide)   -- aircheck/airchecklaw05.sane
instance en10 : Enters Try.prog 10 := Enters.of Try.func10 (by rfl) (by decide)   -- aircheck/clock.Spread
instance en11 : Enters Try.prog 11 := Enters.of Try.func11 (by rfl) (by decide)   -- aircheck/aircheckref05.Spread
instance en12 : Enters Try.prog 12 := Enters.of Try.func12 (by rfl) (by decide)   -- aircheck/clock.Agree
instance en13 : Enters Try.prog 13 := Enters.of Try.func13 (by rfl) (by decide)   -- aircheck/aircheckref05.Agree
instance en14 : Enters Try.prog 14 := Enters.of Try.func14 (by rfl) (by decide)   -- aircheck/airchecklaw05.few
instance en15 : Enters Try.prog 15 := Enters.of Try.func15 (by rfl) (by decide)   -- aircheck/aircheckref05.Made
instance en16 : Enters Try.prog 16 := Enters.of Try.func16 (by rfl) (by decide)   -- aircheck/clock.Valid
instance en17 : Enters Try.prog 17 := Enters.of Try.func17 (by rfl) (by decide)   -- aircheck/aircheckref05.Valid
instance en18 : Enters Try.prog 18 := Enters.of Try.func18 (by rfl) (by decide)   -- aircheck/airchecklaw05.pick
instance en19 : Enters Try.prog 19 := Enters.of Try.func19 (by rfl) (by decide)   -- aircheck/clock.At
instance en20 : Enters Try.prog 20 := Enters.of Try.func20 (by rfl) (by decide)   -- aircheck/aircheckref05.At
instance en21 : Enters Try.prog 21 := Enters.of Try.func21 (by rfl) (by decide)   -- aircheck/clock.Reads
instance en22 : Enters Try.prog 22 := Enters.of Try.func22 (by rfl) (by decide)   -- aircheck/aircheckref05.Reads
instance en23 : Enters Try.prog 23 := Enters.of Try.func23 (by rfl) (by decide)   -- aircheck/clock.Before
instance en24 : Enters Try.prog 24 := Enters.of Try.func24 (by rfl) (by decide)   -- aircheck/aircheckref05.Before
instance en25 : Enters Try.prog 25 := Enters.of Try.func25 (by rfl) (by decide)   -- aircheck/clock.After
instance en26 : Enters Try.prog 26 := Enters.of Try.func26 (by rfl) (by decide)   -- aircheck/aircheckref05.After
instance en27 : Enters Try.prog 27 := Enters.of Try.func27 (by rfl) (by decide)   -- aircheck/aircheckref05.Shown
instance en28 : Enters Try.prog 28 := Enters.of Try.func28 (by rfl) (by decide)   -- aircheck/airchecklaw05.agrees
instance en29 : Enters Try.prog 29 := Enters.of Try.func29 (by rfl) (by decide)   -- aircheck/aircheckref05.Fits
instance en30 : Enters Try.prog 30 := Enters.of Try.func30 (by rfl) (by decide)   -- slices.SortFunc[[]aircheck/clock.edge,aircheck/clock.edge]
instance en31 : Enters Try.prog 31 := Enters.of Try.func31 (by rfl) (by decide)   -- aircheck/clock.Agree$1
instance en32 : Enters Try.prog 32 := Enters.of Try.func32 (by rfl) (by decide)   -- cmp.Compare[int]
instance en33 : Enters Try.prog 33 := Enters.of Try.func33 (by rfl) (by decide)   -- aircheck/aircheckref05.Inside
instance en34 : Enters Try.prog 34 := Enters.of Try.func34 (by rfl) (by decide)   -- aircheck/aircheckref05.pick
instance en35 : Enters Try.prog 35 := Enters.of Try.func35 (by rfl) (by decide)   -- aircheck/clock.around
instance en36 : Enters Try.prog 36 := Enters.of Try.func36 (by rfl) (by decide)   -- aircheck/aircheckref05.bounds
instance en37 : Enters Try.prog 37 := Enters.of Try.func37 (by rfl) (by decide)   -- sort.Search
instance en38 : Enters Try.prog 38 := Enters.of Try.func38 (by rfl) (by decide)   -- aircheck/clock.Reads$1
instance en39 : Enters Try.prog 39 := Enters.of Try.func39 (by rfl) (by decide)   -- aircheck/clock.Reads$2
instance en40 : Enters Try.prog 40 := Enters.of Try.func40 (by rfl) (by decide)   -- aircheck/airchecklaw05.in
instance en41 : Enters Try.prog 41 := Enters.of Try.func41 (by rfl) (by decide)   -- slices.pdqsortCmpFunc[aircheck/clock.edge]
instance en42 : Enters Try.prog 42 := Enters.of Try.func42 (by rfl) (by decide)   -- math/bits.Len
instance en43 : Enters Try.prog 43 := Enters.of Try.func43 (by rfl) (by decide)   -- cmp.isNaN[int]
instance en44 : Enters Try.prog 44 := Enters.of Try.func44 (by rfl) (by decide)   -- (ptr aircheck/clock.window).narrow
instance en45 : Enters Try.prog 45 := Enters.of Try.func45 (by rfl) (by decide)   -- slices.insertionSortCmpFunc[aircheck/clock.edge]
instance en46 : Enters Try.prog 46 := Enters.of Try.func46 (by rfl) (by decide)   -- slices.heapSortCmpFunc[aircheck/clock.edge]
instance en47 : Enters Try.prog 47 := Enters.of Try.func47 (by rfl) (by decide)   -- slices.breakPatternsCmpFunc[aircheck/clock.edge]
instance en48 : Enters Try.prog 48 := Enters.of Try.func48 (by rfl) (by decide)   -- slices.choosePivotCmpFunc[aircheck/clock.edge]
instance en49 : Enters Try.prog 49 := Enters.of Try.func49 (by rfl) (by decide)   -- slices.reverseRangeCmpFunc[aircheck/clock.edge]
instance en50 : Enters Try.prog 50 := Enters.of Try.func50 (by rfl) (by decide)   -- slices.partialInsertionSortCmpFunc[aircheck/clock.edge]
instance en51 : Enters Try.prog 51 := Enters.of Try.func51 (by rfl) (by decide)   -- slices.partitionEqualCmpFunc[aircheck/clock.edge]
instance en52 : Enters Try.prog 52 := Enters.of Try.func52 (by rfl) (by decide)   -- slices.partitionCmpFunc[aircheck/clock.edge]
instance en53 : Enters Try.prog 53 := Enters.of Try.func53 (by rfl) (by decide)   -- math/bits.Len32
instance en54 : Enters Try.prog 54 := Enters.of Try.func54 (by rfl) (by decide)   -- math/bits.Len64
instance en55 : Enters Try.prog 55 := Enters.of Try.func55 (by rfl) (by decide)   -- slices.siftDownCmpFunc[aircheck/clock.edge]
instance en56 : Enters Try.prog 56 := Enters.of Try.func56 (by rfl) (by decide)   -- slices.nextPowerOfTwo
instance en57 : Enters Try.prog 57 := Enters.of Try.func57 (by rfl) (by decide)   -- (ptr slices.xorshift).Next
instance en58 : Enters Try.prog 58 := Enters.of Try.func58 (by rfl) (by decide)   -- slices.medianAdjacentCmpFunc[aircheck/clock.edge]
instance en59 : Enters Try.prog 59 := Enters.of Try.func59 (by rfl) (by decide)   -- slices.medianCmpFunc[aircheck/clock.edge]
instance en60 : Enters Try.prog 60 := Enters.of Try.func60 (by rfl) (by decide)   -- slices.order2CmpFunc[aircheck/clock.edge]
structure GSpell where
  From : Int
  To : Int
  deriving DecidableEq, Inhabited
def GSpell.enc (x : GSpell) : List Value := [.int .i64 x.From, .int .i64 x.To]
def fGSpell : Flat GSpell := ⟨2, GSpell.enc, fun _ => rfl⟩
structure GArr2Int where
  a0 : Int
  a1 : Int
  deriving DecidableEq, Inhabited
def GArr2Int.enc (x : GArr2Int) : List Value := [.int .i64 x.a0, .int .i64 x.a1]
def fGArr2Int : Flat GArr2Int := ⟨2, GArr2Int.enc, fun _ => rfl⟩
structure GReading where
  Local : Int
  Low : Int
  High : Int
  deriving DecidableEq, Inhabited
def GReading.enc (x : GReading) : List Value := [.int .i64 x.Local, .int .i64 x.Low, .int .i64 x.High]
def fGReading : Flat GReading := ⟨3, GReading.enc, fun _ => rfl⟩
structure GEdge where
  at_ : Int
  by_ : Int
  deriving DecidableEq, Inhabited
def GEdge.enc (x : GEdge) : List Value := [.int .i64 x.at_, .int .i64 x.by_]
def fGEdge : Flat GEdge := ⟨2, GEdge.enc, fun _ => rfl⟩
structure GArr3Int where
  a0 : Int
  a1 : Int
  a2 : Int
  deriving DecidableEq, Inhabited
def GArr3Int.enc (x : GArr3Int) : List Value := [.int .i64 x.a0, .int .i64 x.a1, .int .i64 x.a2]
def fGArr3Int : Flat GArr3Int := ⟨3, GArr3Int.enc, fun _ => rfl⟩
structure GWindow where
  low : Int
  high : Int
  deriving DecidableEq, Inhabited
def GWindow.enc (x : GWindow) : List Value := [.int .i64 x.low, .int .i64 x.high]
def fGWindow : Flat GWindow := ⟨2, GWindow.enc, fun _ => rfl⟩
theorem bd24_0 {ρ : Operand → Value} {w : World} {d : Option Tmp} {ty : TypeId} {pos : String} {af : Array Edge} {g : Option (Nat × Bool)} {a0 : Operand} {x0 : Int} (h0 : ρ a0 = .int .i64 x0) : Runs Try.prog ρ ⟨d, .build 24 #[(0, a0)], ty, pos, af, g⟩ w (.ok (.value (.agg #[.int .i64 x0, .slice none 0 0])) w) := ⟨by
  have e : (Instr.build 24 #[(0, .int .i64 x0)]).run Try.prog w = .ok (.agg #[.int .i64 x0, .slice none 0 0]) w := by kernel_rfl
  simp only [execOp, List.map_toArray, List.map_cons, List.map_nil, h0]
  exact run_bind e⟩
-- BUILD 24 bd24_0 1
theorem bd24_0_1 {ρ : Operand → Value} {w : World} {d : Option Tmp} {ty : TypeId} {pos : String} {af : Array Edge} {g : Option (Nat × Bool)} {a0 a1 : Operand} {x0 : Int} {x1A : Option Addr} {x1n x1c : Nat} (h0 : ρ a0 = .int .i64 x0) (h1 : ρ a1 = .slice x1A x1n x1c) : Runs Try.prog ρ ⟨d, .build 24 #[(0, a0), (1, a1)], ty, pos, af, g⟩ w (.ok (.value (.agg #[.int .i64 x0, .slice x1A x1n x1c])) w) := ⟨by
  have e : (Instr.build 24 #[(0, .int .i64 x0), (1, .slice x1A x1n x1c)]).run Try.prog w = .ok (.agg #[.int .i64 x0, .slice x1A x1n x1c]) w := by kernel_rfl
  simp only [execOp, List.map_toArray, List.map_cons, List.map_nil, h0, h1]
  exact run_bind e⟩
-- BUILD 24 bd24_0_1 2
theorem bd32_ {ρ : Operand → Value} {w : World} {d : Option Tmp} {ty : TypeId} {pos : String} {af : Array Edge} {g : Option (Nat × Bool)}    : Runs Try.prog ρ ⟨d, .build 32 #[], ty, pos, af, g⟩ w (.ok (.value (.agg #[.int .i64 0, .int .i64 0])) w) := ⟨by
  have e : (Instr.build 32 #[]).run Try.prog w = .ok (.agg #[.int .i64 0, .int .i64 0]) w := by kernel_rfl
  simp only [execOp, List.map_toArray, List.map_cons, List.map_nil]
  exact run_bind e⟩
-- BUILD 32 bd32_ 0
theorem bd32_0_1 {ρ : Operand → Value} {w : World} {d : Option Tmp} {ty : TypeId} {pos : String} {af : Array Edge} {g : Option (Nat × Bool)} {a0 a1 : Operand} {x0 : Int} {x1 : Int} (h0 : ρ a0 = .int .i64 x0) (h1 : ρ a1 = .int .i64 x1) : Runs Try.prog ρ ⟨d, .build 32 #[(0, a0), (1, a1)], ty, pos, af, g⟩ w (.ok (.value (.agg #[.int .i64 x0, .int .i64 x1])) w) := ⟨by
  have e : (Instr.build 32 #[(0, .int .i64 x0), (1, .int .i64 x1)]).run Try.prog w = .ok (.agg #[.int .i64 x0, .int .i64 x1]) w := by kernel_rfl
  simp only [execOp, List.map_toArray, List.map_cons, List.map_nil, h0, h1]
  exact run_bind e⟩
-- BUILD 32 bd32_0_1 2
theorem bd48_0_1_2 {ρ : Operand → Value} {w : World} {d : Option Tmp} {ty : TypeId} {pos : String} {af : Array Edge} {g : Option (Nat × Bool)} {a0 a1 a2 : Operand} {x0 : Int} {x1 : Int} {x2 : Int} (h0 : ρ a0 = .int .i64 x0) (h1 : ρ a1 = .int .i64 x1) (h2 : ρ a2 = .int .i64 x2) : Runs Try.prog ρ ⟨d, .build 48 #[(0, a0), (1, a1), (2, a2)], ty, pos, af, g⟩ w (.ok (.value (.agg #[.int .i64 x0, .int .i64 x1, .int .i64 x2])) w) := ⟨by
  have e : (Instr.build 48 #[(0, .int .i64 x0), (1, .int .i64 x1), (2, .int .i64 x2)]).run Try.prog w = .ok (.agg #[.int .i64 x0, .int .i64 x1, .int .i64 x2]) w := by kernel_rfl
  simp only [execOp, List.map_toArray, List.map_cons, List.map_nil, h0, h1, h2]
  exact run_bind e⟩
-- BUILD 48 bd48_0_1_2 3
theorem bd56_0_1 {ρ : Operand → Value} {w : World} {d : Option Tmp} {ty : TypeId} {pos : String} {af : Array Edge} {g : Option (Nat × Bool)} {a0 a1 : Operand} {x0 : Int} {x1 : Int} (h0 : ρ a0 = .int .i64 x0) (h1 : ρ a1 = .int .i64 x1) : Runs Try.prog ρ ⟨d, .build 56 #[(0, a0), (1, a1)], ty, pos, af, g⟩ w (.ok (.value (.agg #[.int .i64 x0, .int .i64 x1])) w) := ⟨by
  have e : (Instr.build 56 #[(0, .int .i64 x0), (1, .int .i64 x1)]).run Try.prog w = .ok (.agg #[.int .i64 x0, .int .i64 x1]) w := by kernel_rfl
  simp only [execOp, List.map_toArray, List.map_cons, List.map_nil, h0, h1]
  exact run_bind e⟩
-- BUILD 56 bd56_0_1 2
theorem bd62_0_1 {ρ : Operand → Value} {w : World} {d : Option Tmp} {ty : TypeId} {pos : String} {af : Array Edge} {g : Option (Nat × Bool)} {a0 a1 : Operand} {x0 : Int} {x1 : Int} (h0 : ρ a0 = .int .i64 x0) (h1 : ρ a1 = .int .i64 x1) : Runs Try.prog ρ ⟨d, .build 62 #[(0, a0), (1, a1)], ty, pos, af, g⟩ w (.ok (.value (.agg #[.int .i64 x0, .int .i64 x1])) w) := ⟨by
  have e : (Instr.build 62 #[(0, .int .i64 x0), (1, .int .i64 x1)]).run Try.prog w = .ok (.agg #[.int .i64 x0, .int .i64 x1]) w := by kernel_rfl
  simp only [execOp, List.map_toArray, List.map_cons, List.map_nil, h0, h1]
  exact run_bind e⟩
-- BUILD 62 bd62_0_1 2
theorem eqv32 {d : Nat} {w : World} {x0 y0 : Int} {x1 y1 : Int} (hd : 2 ≤ d) : (Op.equalIn d 32 (.agg #[.int .i64 x0, .int .i64 x1]) (.agg #[.int .i64 y0, .int .i64 y1])).run Try.prog w = .ok (decide ((GSpell.mk x0 x1) = (GSpell.mk y0 y1))) w := by
  have h := eqStruct (P := Try.prog) (T := 32) (w := w) (xs := #[.int .i64 x0, .int .i64 x1]) (ys := #[.int .i64 y0, .int .i64 y1]) Try.underlying32 (by kernel_rfl) (by omega : 1 ≤ d) (ef_cons rfl (part1 rfl) (part1 rfl) (eqInt (by omega)) (ef_cons rfl (part1 rfl) (part1 rfl) (eqInt (by omega)) ef_nil))
  rw [h]
  congr 1
  rw [Bool.eq_iff_iff]
  simp
theorem eql32 {ρ : Operand → Value} {w : World} {d : Option Tmp} {ty T' : TypeId} {pos : String} {af : Array Edge} {g : Option (Nat × Bool)} {s t : Operand} {x0 y0 : Int} {x1 y1 : Int} (h1 : ρ s = .agg #[.int .i64 x0, .int .i64 x1]) (h2 : ρ t = .agg #[.int .i64 y0, .int .i64 y1]) :
    Runs Try.prog ρ ⟨d, .binOp .eql 32 s t T', ty, pos, af, g⟩ w (.ok (.value (.bool (decide ((GSpell.mk x0 x1) = (GSpell.mk y0 y1))))) w) := r_eqlAgg h1 h2 (by kernel_rfl) (eqv32 (by decide))
theorem neq32 {ρ : Operand → Value} {w : World} {d : Option Tmp} {ty T' : TypeId} {pos : String} {af : Array Edge} {g : Option (Nat × Bool)} {s t : Operand} {x0 y0 : Int} {x1 y1 : Int} (h1 : ρ s = .agg #[.int .i64 x0, .int .i64 x1]) (h2 : ρ t = .agg #[.int .i64 y0, .int .i64 y1]) :
    Runs Try.prog ρ ⟨d, .binOp .neq 32 s t T', ty, pos, af, g⟩ w (.ok (.value (.bool (!decide ((GSpell.mk x0 x1) = (GSpell.mk y0 y1))))) w) := r_neqAgg h1 h2 (by kernel_rfl) (eqv32 (by decide))

end Go.Proofs.Ytgphmhpcaeiglaa

/- What the dump says of its types and functions: written by facts.py (a program of this claim). -/
import Derived.Test.YtaoicaldhllbfaaProg
import Derived.Test.YtaoicaldhllbfaaGxEqS
import Derived.KernelRfl
namespace Go.Proofs.Ytaoicaldhllbfaa
open Go Go.Gx
set_option linter.unusedSimpArgs false
set_option linter.unusedVariables false

instance tf1 : TF Try.prog 1 false 1 := ⟨Try.isAgg1, Try.sizeOf1⟩
instance ti1 : TI Try.prog 1 (.nilFunc) 1 8 := TI.of (by kernel_rfl)
instance tf2 : TF Try.prog 2 false 1 := ⟨Try.isAgg2, Try.sizeOf2⟩
instance ti2 : TI Try.prog 2 (.int .i64 0) 1 8 := TI.of (by kernel_rfl)
instance is2 : IsInt Try.prog 2 .i64 := ⟨Try.underlying2⟩
instance tf3 : TF Try.prog 3 false 1 := ⟨Try.isAgg3, Try.sizeOf3⟩
instance ti3 : TI Try.prog 3 (.int .i64 0) 1 8 := TI.of (by kernel_rfl)
instance is3 : IsInt Try.prog 3 .i64 := ⟨Try.underlying3⟩
instance tf4 : TF Try.prog 4 false 1 := ⟨Try.isAgg4, Try.sizeOf4⟩
instance ti4 : TI Try.prog 4 (.bool false) 1 1 := TI.of (by kernel_rfl)
instance is4 : IsBool Try.prog 4 := ⟨Try.underlying4⟩
instance tf5 : TF Try.prog 5 false 1 := ⟨Try.isAgg5, Try.sizeOf5⟩
instance ti5 : TI Try.prog 5 (.int .u8 0) 1 1 := TI.of (by kernel_rfl)
instance is5 : IsInt Try.prog 5 .u8 := ⟨Try.underlying5⟩
instance tf9 : TF Try.prog 9 false 1 := ⟨Try.isAgg9, Try.sizeOf9⟩
instance ti9 : TI Try.prog 9 (.string ⟨#[]⟩) 1 16 := TI.of (by kernel_rfl)
instance is9 : IsStr Try.prog 9 := ⟨Try.underlying9⟩
instance tf12 : TF Try.prog 12 false 1 := ⟨Try.isAgg12, Try.sizeOf12⟩
instance ti12 : TI Try.prog 12 (.int .u64 0) 1 8 := TI.of (by kernel_rfl)
instance is12 : IsInt Try.prog 12 .u64 := ⟨Try.underlying12⟩
instance tf21 : TF Try.prog 21 false 1 := ⟨Try.isAgg21, Try.sizeOf21⟩
instance ti21 : TI Try.prog 21 (.int .i32 0) 1 4 := TI.of (by kernel_rfl)
instance is21 : IsInt Try.prog 21 .i32 := ⟨Try.underlying21⟩
instance tf22 : TF Try.prog 22 false 1 := ⟨Try.isAgg22, Try.sizeOf22⟩
instance ti22 : TI Try.prog 22 (.slice none 0 0) 1 24 := TI.of (by kernel_rfl)
instance is22 : IsSlice Try.prog 22 50 := ⟨Try.underlying22⟩
instance tf23 : TF Try.prog 23 true 4 := ⟨Try.isAgg23, Try.sizeOf23⟩
instance ti23 : TI Try.prog 23 (.agg #[.int .i64 0, .int .i64 0, .int .i64 0, .int .i64 0]) 4 32 := TI.of (by kernel_rfl)
instance is23 : IsArr Try.prog 23 4 3 := ⟨Try.underlying23⟩
instance tf24 : TF Try.prog 24 false 1 := ⟨Try.isAgg24, Try.sizeOf24⟩
instance ti24 : TI Try.prog 24 (.slice none 0 0) 1 24 := TI.of (by kernel_rfl)
instance is24 : IsSlice Try.prog 24 3 := ⟨Try.underlying24⟩
instance tf25 : TF Try.prog 25 true 4 := ⟨Try.isAgg25, Try.sizeOf25⟩
instance ti25 : TI Try.prog 25 (.agg #[.slice none 0 0, .slice none 0 0, .slice none 0 0, .slice none 0 0]) 4 96 := TI.of (by kernel_rfl)
instance is25 : IsArr Try.prog 25 4 24 := ⟨Try.underlying25⟩
instance tf26 : TF Try.prog 26 false 1 := ⟨Try.isAgg26, Try.sizeOf26⟩
instance ti26 : TI Try.prog 26 (.slice none 0 0) 1 24 := TI.of (by kernel_rfl)
instance is26 : IsSlice Try.prog 26 59 := ⟨Try.underlying26⟩
instance tf27 : TF Try.prog 27 true 13 := ⟨Try.isAgg27, Try.sizeOf27⟩
instance ti27 : TI Try.prog 27 (.agg #[.int .i64 0, .int .i64 0, .int .i64 0, .int .i64 0, .int .i64 0, .int .i64 0, .int .i64 0, .int .i64 0, .slice none 0 0, .slice none 0 0, .slice none 0 0, .slice none 0 0, .slice none 0 0]) 13 184 := TI.of (by kernel_rfl)
instance tf28 : TF Try.prog 28 true 13 := ⟨Try.isAgg28, Try.sizeOf28⟩
instance ti28 : TI Try.prog 28 (.agg #[.int .i64 0, .int .i64 0, .int .i64 0, .int .i64 0, .int .i64 0, .int .i64 0, .int .i64 0, .int .i64 0, .slice none 0 0, .slice none 0 0, .slice none 0 0, .slice none 0 0, .slice none 0 0]) 13 184 := TI.of (by kernel_rfl)
instance tf29 : TF Try.prog 29 true 6 := ⟨Try.isAgg29, Try.sizeOf29⟩
instance ti29 : TI Try.prog 29 (.agg #[.int .i64 0, .int .i64 0, .int .i64 0, .int .i64 0, .int .i64 0, .int .i64 0]) 6 48 := TI.of (by kernel_rfl)
instance tf30 : TF Try.prog 30 true 6 := ⟨Try.isAgg30, Try.sizeOf30⟩
instance ti30 : TI Try.prog 30 (.agg #[.int .i64 0, .int .i64 0, .int .i64 0, .int .i64 0, .int .i64 0, .int .i64 0]) 6 48 := TI.of (by kernel_rfl)
instance tf31 : TF Try.prog 31 false 1 := ⟨Try.isAgg31, Try.sizeOf31⟩
instance ti31 : TI Try.prog 31 (.slice none 0 0) 1 24 := TI.of (by kernel_rfl)
instance is31 : IsSlice Try.prog 31 30 := ⟨Try.underlying31⟩
instance tf32 : TF Try.prog 32 false 1 := ⟨Try.isAgg32, Try.sizeOf32⟩
instance ti32 : TI Try.prog 32 (.nilFunc) 1 8 := TI.of (by kernel_rfl)
instance tf34 : TF Try.prog 34 false 1 := ⟨Try.isAgg34, Try.sizeOf34⟩
instance ti34 : TI Try.prog 34 (.nilFunc) 1 8 := TI.of (by kernel_rfl)
instance tf35 : TF Try.prog 35 false 1 := ⟨Try.isAgg35, Try.sizeOf35⟩
instance ti35 : TI Try.prog 35 (.slice none 0 0) 1 24 := TI.of (by kernel_rfl)
instance is35 : IsSlice Try.prog 35 22 := ⟨Try.underlying35⟩
instance tf36 : TF Try.prog 36 false 1 := ⟨Try.isAgg36, Try.sizeOf36⟩
instance ti36 : TI Try.prog 36 (.int .i64 0) 1 8 := TI.of (by kernel_rfl)
instance is36 : IsInt Try.prog 36 .i64 := ⟨Try.underlying36⟩
instance tf38 : TF Try.prog 38 false 1 := ⟨Try.isAgg38, Try.sizeOf38⟩
instance ti38 : TI Try.prog 38 (.nilFunc) 1 8 := TI.of (by kernel_rfl)
instance tf39 : TF Try.prog 39 false 1 := ⟨Try.isAgg39, Try.sizeOf39⟩
instance ti39 : TI Try.prog 39 (.nilFunc) 1 8 := TI.of (by kernel_rfl)
instance tf40 : TF Try.prog 40 false 1 := ⟨Try.isAgg40, Try.sizeOf40⟩
instance ti40 : TI Try.prog 40 (.nilFunc) 1 8 := TI.of (by kernel_rfl)
instance tf41 : TF Try.prog 41 false 1 := ⟨Try.isAgg41, Try.sizeOf41⟩
instance ti41 : TI Try.prog 41 (.nilFunc) 1 8 := TI.of (by kernel_rfl)
instance tf42 : TF Try.prog 42 true 2 := ⟨Try.isAgg42, Try.sizeOf42⟩
instance ti42 : TI Try.prog 42 (.agg #[.int .i64 0, .int .i64 0]) 2 16 := TI.of (by kernel_rfl)
instance is42 : IsArr Try.prog 42 2 3 := ⟨Try.underlying42⟩
instance tf43 : TF Try.prog 43 false 1 := ⟨Try.isAgg43, Try.sizeOf43⟩
instance ti43 : TI Try.prog 43 (.nilFunc) 1 8 := TI.of (by kernel_rfl)
instance tf44 : TF Try.prog 44 false 1 := ⟨Try.isAgg44, Try.sizeOf44⟩
instance ti44 : TI Try.prog 44 (.slice none 0 0) 1 24 := TI.of (by kernel_rfl)
instance is44 : IsSlice Try.prog 44 42 := ⟨Try.underlying44⟩
instance tf45 : TF Try.prog 45 false 1 := ⟨Try.isAgg45, Try.sizeOf45⟩
instance ti45 : TI Try.prog 45 (.nilFunc) 1 8 := TI.of (by kernel_rfl)
instance tf46 : TF Try.prog 46 false 1 := ⟨Try.isAgg46, Try.sizeOf46⟩
instance ti46 : TI Try.prog 46 (.nilFunc) 1 8 := TI.of (by kernel_rfl)
instance tf47 : TF Try.prog 47 false 1 := ⟨Try.isAgg47, Try.sizeOf47⟩
instance ti47 : TI Try.prog 47 (.nilFunc) 1 8 := TI.of (by kernel_rfl)
instance tf48 : TF Try.prog 48 false 1 := ⟨Try.isAgg48, Try.sizeOf48⟩
instance ti48 : TI Try.prog 48 (.nilFunc) 1 8 := TI.of (by kernel_rfl)
instance tf49 : TF Try.prog 49 true 4 := ⟨Try.isAgg49, Try.sizeOf49⟩
instance ti49 : TI Try.prog 49 (.agg #[.int .i64 0, .int .i64 0, .int .i64 0, .int .i64 0]) 4 32 := TI.of (by kernel_rfl)
instance tf50 : TF Try.prog 50 true 4 := ⟨Try.isAgg50, Try.sizeOf50⟩
instance ti50 : TI Try.prog 50 (.agg #[.int .i64 0, .int .i64 0, .int .i64 0, .int .i64 0]) 4 32 := TI.of (by kernel_rfl)
instance tf51 : TF Try.prog 51 false 1 := ⟨Try.isAgg51, Try.sizeOf51⟩
instance ti51 : TI Try.prog 51 (.nilFunc) 1 8 := TI.of (by kernel_rfl)
instance tf52 : TF Try.prog 52 false 1 := ⟨Try.isAgg52, Try.sizeOf52⟩
instance ti52 : TI Try.prog 52 (.nilFunc) 1 8 := TI.of (by kernel_rfl)
instance tf53 : TF Try.prog 53 false 1 := ⟨Try.isAgg53, Try.sizeOf53⟩
instance ti53 : TI Try.prog 53 (.nilFunc) 1 8 := TI.of (by kernel_rfl)
instance tf54 : TF Try.prog 54 false 1 := ⟨Try.isAgg54, Try.sizeOf54⟩
instance ti54 : TI Try.prog 54 (.nilFunc) 1 8 := TI.of (by kernel_rfl)
instance tf55 : TF Try.prog 55 true 3 := ⟨Try.isAgg55, Try.sizeOf55⟩
instance ti55 : TI Try.prog 55 (.agg #[.int .i64 0, .int .i64 0, .int .i64 0]) 3 24 := TI.of (by kernel_rfl)
instance is55 : IsArr Try.prog 55 3 3 := ⟨Try.underlying55⟩
instance tf56 : TF Try.prog 56 false 1 := ⟨Try.isAgg56, Try.sizeOf56⟩
instance ti56 : TI Try.prog 56 (.nilFunc) 1 8 := TI.of (by kernel_rfl)
instance tf57 : TF Try.prog 57 false 1 := ⟨Try.isAgg57, Try.sizeOf57⟩
instance ti57 : TI Try.prog 57 (.nilFunc) 1 8 := TI.of (by kernel_rfl)
instance tf58 : TF Try.prog 58 false 1 := ⟨Try.isAgg58, Try.sizeOf58⟩
instance ti58 : TI Try.prog 58 (.nilFunc) 1 8 := TI.of (by kernel_rfl)
instance tf59 : TF Try.prog 59 true 5 := ⟨Try.isAgg59, Try.sizeOf59⟩
instance ti59 : TI Try.prog 59 (.agg #[.int .i64 0, .int .i64 0, .int .i64 0, .int .i64 0, .int .i64 0]) 5 40 := TI.of (by kernel_rfl)
instance is59 : IsArr Try.prog 59 5 3 := ⟨Try.underlying59⟩
instance tf60 : TF Try.prog 60 false 1 := ⟨Try.isAgg60, Try.sizeOf60⟩
instance ti60 : TI Try.prog 60 (.nilFunc) 1 8 := TI.of (by kernel_rfl)
instance tf61 : TF Try.prog 61 false 1 := ⟨Try.isAgg61, Try.sizeOf61⟩
instance ti61 : TI Try.prog 61 (.nilFunc) 1 8 := TI.of (by kernel_rfl)
instance tf62 : TF Try.prog 62 false 1 := ⟨Try.isAgg62, Try.sizeOf62⟩
instance ti62 : TI Try.prog 62 (.nilFunc) 1 8 := TI.of (by kernel_rfl)
instance tf63 : TF Try.prog 63 false 1 := ⟨Try.isAgg63, Try.sizeOf63⟩
instance ti63 : TI Try.prog 63 (.nilFunc) 1 8 := TI.of (by kernel_rfl)
instance tf64 : TF Try.prog 64 false 1 := ⟨Try.isAgg64, Try.sizeOf64⟩
instance ti64 : TI Try.prog 64 (.nilFunc) 1 8 := TI.of (by kernel_rfl)
instance tf65 : TF Try.prog 65 false 1 := ⟨Try.isAgg65, Try.sizeOf65⟩
instance ti65 : TI Try.prog 65 (.nilFunc) 1 8 := TI.of (by kernel_rfl)
instance tf66 : TF Try.prog 66 false 1 := ⟨Try.isAgg66, Try.sizeOf66⟩
instance ti66 : TI Try.prog 66 (.nilFunc) 1 8 := TI.of (by kernel_rfl)
instance tf68 : TF Try.prog 68 false 1 := ⟨Try.isAgg68, Try.sizeOf68⟩
instance ti68 : TI Try.prog 68 (.nilFunc) 1 8 := TI.of (by kernel_rfl)
instance tf69 : TF Try.prog 69 false 1 := ⟨Try.isAgg69, Try.sizeOf69⟩
instance ti69 : TI Try.prog 69 (.nilFunc) 1 8 := TI.of (by kernel_rfl)
instance tf70 : TF Try.prog 70 false 1 := ⟨Try.isAgg70, Try.sizeOf70⟩
instance ti70 : TI Try.prog 70 (.nilFunc) 1 8 := TI.of (by kernel_rfl)
instance tf71 : TF Try.prog 71 false 1 := ⟨Try.isAgg71, Try.sizeOf71⟩
instance ti71 : TI Try.prog 71 (.int .u64 0) 1 8 := TI.of (by kernel_rfl)
instance is71 : IsInt Try.prog 71 .u64 := ⟨Try.underlying71⟩
instance tf72 : TF Try.prog 72 false 1 := ⟨Try.isAgg72, Try.sizeOf72⟩
instance ti72 : TI Try.prog 72 (.nilFunc) 1 8 := TI.of (by kernel_rfl)
instance tf73 : TF Try.prog 73 false 1 := ⟨Try.isAgg73, Try.sizeOf73⟩
instance ti73 : TI Try.prog 73 (.nilFunc) 1 8 := TI.of (by kernel_rfl)
instance tf74 : TF Try.prog 74 false 1 := ⟨Try.isAgg74, Try.sizeOf74⟩
instance ti74 : TI Try.prog 74 (.nilFunc) 1 8 := TI.of (by kernel_rfl)
instance tf80 : TF Try.prog 80 false 1 := ⟨Try.isAgg80, Try.sizeOf80⟩
instance ti80 : TI Try.prog 80 (.nilFunc) 1 8 := TI.of (by kernel_rfl)
instance tf81 : TF Try.prog 81 false 1 := ⟨Try.isAgg81, Try.sizeOf81⟩
instance ti81 : TI Try.prog 81 (.int .u32 0) 1 4 := TI.of (by kernel_rfl)
instance is81 : IsInt Try.prog 81 .u32 := ⟨Try.underlying81⟩
instance tf84 : TF Try.prog 84 false 1 := ⟨Try.isAgg84, Try.sizeOf84⟩
instance ti84 : TI Try.prog 84 (.nilFunc) 1 8 := TI.of (by kernel_rfl)
instance tf85 : TF Try.prog 85 false 1 := ⟨Try.isAgg85, Try.sizeOf85⟩
instance ti85 : TI Try.prog 85 (.pointer none) 1 8 := TI.of (by kernel_rfl)
instance fa27_0 : FA Try.prog 27 0 0 := ⟨fun _ _ => by kernel_rfl⟩
instance fv27_0 : FVA Try.prog 27 0 0 4 := ⟨fun cs w => by simp [Instr.field, run_underlying' Try.underlying27, asAgg, part, Try.isAgg23, Try.sizeOf23]⟩
instance fa27_1 : FA Try.prog 27 1 4 := ⟨fun _ _ => by kernel_rfl⟩
instance fv27_1 : FVA Try.prog 27 1 4 4 := ⟨fun cs w => by simp [Instr.field, run_underlying' Try.underlying27, asAgg, part, Try.isAgg23, Try.sizeOf23]⟩
instance fa27_2 : FA Try.prog 27 2 8 := ⟨fun _ _ => by kernel_rfl⟩
instance fv27_2 : FVA Try.prog 27 2 8 4 := ⟨fun cs w => by simp [Instr.field, run_underlying' Try.underlying27, asAgg, part, Try.isAgg25, Try.sizeOf25]⟩
instance fa27_3 : FA Try.prog 27 3 12 := ⟨fun _ _ => by kernel_rfl⟩
instance fv27_3 : FV Try.prog 27 3 12 := ⟨fun cs v w h => by simp [Instr.field, run_underlying' Try.underlying27, asAgg, part, Try.isAgg26, h]⟩
instance fa28_0 : FA Try.prog 28 0 0 := ⟨fun _ _ => by kernel_rfl⟩
instance fv28_0 : FVA Try.prog 28 0 0 4 := ⟨fun cs w => by simp [Instr.field, run_underlying' Try.underlying28, asAgg, part, Try.isAgg23, Try.sizeOf23]⟩
instance fa28_1 : FA Try.prog 28 1 4 := ⟨fun _ _ => by kernel_rfl⟩
instance fv28_1 : FVA Try.prog 28 1 4 4 := ⟨fun cs w => by simp [Instr.field, run_underlying' Try.underlying28, asAgg, part, Try.isAgg23, Try.sizeOf23]⟩
instance fa28_2 : FA Try.prog 28 2 8 := ⟨fun _ _ => by kernel_rfl⟩
instance fv28_2 : FVA Try.prog 28 2 8 4 := ⟨fun cs w => by simp [Instr.field, run_underlying' Try.underlying28, asAgg, part, Try.isAgg25, Try.sizeOf25]⟩
instance fa28_3 : FA Try.prog 28 3 12 := ⟨fun _ _ => by kernel_rfl⟩
instance fv28_3 : FV Try.prog 28 3 12 := ⟨fun cs v w h => by simp [Instr.field, run_underlying' Try.underlying28, asAgg, part, Try.isAgg26, h]⟩
instance fa29_0 : FA Try.prog 29 0 0 := ⟨fun _ _ => by kernel_rfl⟩
instance fv29_0 : FV Try.prog 29 0 0 := ⟨fun cs v w h => by simp [Instr.field, run_underlying' Try.underlying29, asAgg, part, Try.isAgg3, h]⟩
instance fa29_1 : FA Try.prog 29 1 1 := ⟨fun _ _ => by kernel_rfl⟩
instance fv29_1 : FV Try.prog 29 1 1 := ⟨fun cs v w h => by simp [Instr.field, run_underlying' Try.underlying29, asAgg, part, Try.isAgg3, h]⟩
instance fa29_2 : FA Try.prog 29 2 2 := ⟨fun _ _ => by kernel_rfl⟩
instance fv29_2 : FV Try.prog 29 2 2 := ⟨fun cs v w h => by simp [Instr.field, run_underlying' Try.underlying29, asAgg, part, Try.isAgg3, h]⟩
instance fa29_3 : FA Try.prog 29 3 3 := ⟨fun _ _ => by kernel_rfl⟩
instance fv29_3 : FV Try.prog 29 3 3 := ⟨fun cs v w h => by simp [Instr.field, run_underlying' Try.underlying29, asAgg, part, Try.isAgg3, h]⟩
instance fa29_4 : FA Try.prog 29 4 4 := ⟨fun _ _ => by kernel_rfl⟩
instance fv29_4 : FV Try.prog 29 4 4 := ⟨fun cs v w h => by simp [Instr.field, run_underlying' Try.underlying29, asAgg, part, Try.isAgg3, h]⟩
instance fa29_5 : FA Try.prog 29 5 5 := ⟨fun _ _ => by kernel_rfl⟩
instance fv29_5 : FV Try.prog 29 5 5 := ⟨fun cs v w h => by simp [Instr.field, run_underlying' Try.underlying29, asAgg, part, Try.isAgg3, h]⟩
instance fa30_0 : FA Try.prog 30 0 0 := ⟨fun _ _ => by kernel_rfl⟩
instance fv30_0 : FV Try.prog 30 0 0 := ⟨fun cs v w h => by simp [Instr.field, run_underlying' Try.underlying30, asAgg, part, Try.isAgg3, h]⟩
instance fa30_1 : FA Try.prog 30 1 1 := ⟨fun _ _ => by kernel_rfl⟩
instance fv30_1 : FV Try.prog 30 1 1 := ⟨fun cs v w h => by simp [Instr.field, run_underlying' Try.underlying30, asAgg, part, Try.isAgg3, h]⟩
instance fa30_2 : FA Try.prog 30 2 2 := ⟨fun _ _ => by kernel_rfl⟩
instance fv30_2 : FV Try.prog 30 2 2 := ⟨fun cs v w h => by simp [Instr.field, run_underlying' Try.underlying30, asAgg, part, Try.isAgg3, h]⟩
instance fa30_3 : FA Try.prog 30 3 3 := ⟨fun _ _ => by kernel_rfl⟩
instance fv30_3 : FV Try.prog 30 3 3 := ⟨fun cs v w h => by simp [Instr.field, run_underlying' Try.underlying30, asAgg, part, Try.isAgg3, h]⟩
instance fa30_4 : FA Try.prog 30 4 4 := ⟨fun _ _ => by kernel_rfl⟩
instance fv30_4 : FV Try.prog 30 4 4 := ⟨fun cs v w h => by simp [Instr.field, run_underlying' Try.underlying30, asAgg, part, Try.isAgg3, h]⟩
instance fa30_5 : FA Try.prog 30 5 5 := ⟨fun _ _ => by kernel_rfl⟩
instance fv30_5 : FV Try.prog 30 5 5 := ⟨fun cs v w h => by simp [Instr.field, run_underlying' Try.underlying30, asAgg, part, Try.isAgg3, h]⟩
instance fa49_0 : FA Try.prog 49 0 0 := ⟨fun _ _ => by kernel_rfl⟩
instance fv49_0 : FV Try.prog 49 0 0 := ⟨fun cs v w h => by simp [Instr.field, run_underlying' Try.underlying49, asAgg, part, Try.isAgg3, h]⟩
instance fa49_1 : FA Try.prog 49 1 1 := ⟨fun _ _ => by kernel_rfl⟩
instance fv49_1 : FV Try.prog 49 1 1 := ⟨fun cs v w h => by simp [Instr.field, run_underlying' Try.underlying49, asAgg, part, Try.isAgg3, h]⟩
instance fa49_2 : FA Try.prog 49 2 2 := ⟨fun _ _ => by kernel_rfl⟩
instance fv49_2 : FV Try.prog 49 2 2 := ⟨fun cs v w h => by simp [Instr.field, run_underlying' Try.underlying49, asAgg, part, Try.isAgg3, h]⟩
instance fa49_3 : FA Try.prog 49 3 3 := ⟨fun _ _ => by kernel_rfl⟩
instance fv49_3 : FV Try.prog 49 3 3 := ⟨fun cs v w h => by simp [Instr.field, run_underlying' Try.underlying49, asAgg, part, Try.isAgg3, h]⟩
instance fa50_0 : FA Try.prog 50 0 0 := ⟨fun _ _ => by kernel_rfl⟩
instance fv50_0 : FV Try.prog 50 0 0 := ⟨fun cs v w h => by simp [Instr.field, run_underlying' Try.underlying50, asAgg, part, Try.isAgg3, h]⟩
instance fa50_1 : FA Try.prog 50 1 1 := ⟨fun _ _ => by kernel_rfl⟩
instance fv50_1 : FV Try.prog 50 1 1 := ⟨fun cs v w h => by simp [Instr.field, run_underlying' Try.underlying50, asAgg, part, Try.isAgg3, h]⟩
instance fa50_2 : FA Try.prog 50 2 2 := ⟨fun _ _ => by kernel_rfl⟩
instance fv50_2 : FV Try.prog 50 2 2 := ⟨fun cs v w h => by simp [Instr.field, run_underlying' Try.underlying50, asAgg, part, Try.isAgg3, h]⟩
instance fa50_3 : FA Try.prog 50 3 3 := ⟨fun _ _ => by kernel_rfl⟩
instance fv50_3 : FV Try.prog 50 3 3 := ⟨fun cs v w h => by simp [Instr.field, run_underlying' Try.underlying50, asAgg, part, Try.isAgg3, h]⟩
instance en3 : Enters Try.prog 3 := Enters.of Try.func3 (by rfl) (by decide)   -- aircheck/airchecklaw30.LeaseMatchesReference
instance en4 : Enters Try.prog 4 := Enters.of Try.func4 (by rfl) (by decide)   -- aircheck/airchecklaw30.LeaseExcludes
instance en5 : Enters Try.prog 5 := Enters.of Try.func5 (by rfl) (by decide)   -- aircheck/airchecklaw30.LeaseOvers
instance en6 : Enters Try.prog 6 := Enters.of Try.func6 (by rfl) (by decide)   -- aircheck/airchecklaw30.LeaseReaches
instance en7 : Enters Try.prog 7 := Enters.of Try.func7 (by rfl) (by decide)   -- aircheck/airchecklaw30.LeaseEpochs
instance en8 : Enters Try.prog 8 := Enters.of Try.func8 (by rfl) (by decide)   -- aircheck/airchecklaw30.LeaseKeeps
instance en9 : Enters Try.prog 9 := Enters.of Try.func9 (by rfl) (by decide)   -- aircheck/airchecklaw30.LeaseSafe
instance en10 : Enters Try.prog 10 := Enters.of Try.func10 (by rfl) (by decide)   -- aircheck/airchecklaw30.sane
instance en11 : Enters Try.prog 11 := Enters.of Try.func11 (by rfl) (by decide)   -- aircheck/aircheckref30.Made
instance en12 : Enters Try.prog 12 := Enters.of Try.func12 (by rfl) (by decide)   -- aircheck/lease.Grants
instance en13 : Enters Try.prog 13 := Enters.of Try.func13 (by rfl) (by decide)   -- aircheck/aircheckref30.Grants
instance en14 : Enters Try.prog 14 := Enters.of Try.func14 (by rfl) (by decide)   -- aircheck/aircheckref30.Same
instance en15 : Enters Try.prog 15 := Enters.of Try.func15 (by rfl) (by decide)   -- aircheck/lease.Valid
instance en16 : Enters Try.prog 16 := Enters.of Try.func16 (by rfl) (by decide)   -- aircheck/aircheckref30.Valid
instance en17 : Enters Try.prog 17 := Enters.of Try.func17 (by rfl) (by decide)   -- aircheck/lease.Last
instance en18 : Enters Try.prog 18 := Enters.of Try.func18 (by rfl) (by decide)   -- aircheck/aircheckref30.Last
instance en19 : Enters Try.prog 19 := Enters.of Try.func19 (by rfl) (by decide)   -- aircheck/airchecklaw30.pick
instance en20 : Enters Try.prog 20 := Enters.of Try.func20 (by rfl) (by decide)   -- aircheck/lease.Safe
instance en21 : Enters Try.prog 21 := Enters.of Try.func21 (by rfl) (by decide)   -- aircheck/aircheckref30.Safe
instance en22 : Enters Try.prog 22 := Enters.of Try.func22 (by rfl) (by decide)   -- aircheck/lease.Holds
instance en23 : Enters Try.prog 23 := Enters.of Try.func23 (by rfl) (by decide)   -- aircheck/aircheckref30.Holds
instance en24 : Enters Try.prog 24 := Enters.of Try.func24 (by rfl) (by decide)   -- aircheck/lease.Over
instance en25 : Enters Try.prog 25 := Enters.of Try.func25 (by rfl) (by decide)   -- aircheck/aircheckref30.Over
instance en26 : Enters Try.prog 26 := Enters.of Try.func26 (by rfl) (by decide)   -- aircheck/aircheckref30.Drift
instance en27 : Enters Try.prog 27 := Enters.of Try.func27 (by rfl) (by decide)   -- aircheck/aircheckref30.Shown
instance en28 : Enters Try.prog 28 := Enters.of Try.func28 (by rfl) (by decide)   -- aircheck/aircheckref30.pick
instance en29 : Enters Try.prog 29 := Enters.of Try.func29 (by rfl) (by decide)   -- aircheck/lease.Valid$1
instance en30 : Enters Try.prog 30 := Enters.of Try.func30 (by rfl) (by decide)   -- aircheck/lease.within[int]
instance en31 : Enters Try.prog 31 := Enters.of Try.func31 (by rfl) (by decide)   -- aircheck/lease.Valid$2
instance en32 : Enters Try.prog 32 := Enters.of Try.func32 (by rfl) (by decide)   -- cmp.Compare[int]
instance en33 : Enters Try.prog 33 := Enters.of Try.func33 (by rfl) (by decide)   -- slices.ContainsFunc[[]aircheck/api.Request,aircheck/api.Request]
instance en34 : Enters Try.prog 34 := Enters.of Try.func34 (by rfl) (by decide)   -- slices.IsSortedFunc[[]aircheck/api.Request,aircheck/api.Request]
instance en35 : Enters Try.prog 35 := Enters.of Try.func35 (by rfl) (by decide)   -- aircheck/aircheckref30.in
instance en36 : Enters Try.prog 36 := Enters.of Try.func36 (by rfl) (by decide)   -- aircheck/lease.greatest[aircheck/api.Lease]
instance en37 : Enters Try.prog 37 := Enters.of Try.func37 (by rfl) (by decide)   -- aircheck/lease.Last$1
instance en38 : Enters Try.prog 38 := Enters.of Try.func38 (by rfl) (by decide)   -- aircheck/clock.Spread
instance en39 : Enters Try.prog 39 := Enters.of Try.func39 (by rfl) (by decide)   -- sort.Search
instance en40 : Enters Try.prog 40 := Enters.of Try.func40 (by rfl) (by decide)   -- aircheck/lease.Safe$1
instance en41 : Enters Try.prog 41 := Enters.of Try.func41 (by rfl) (by decide)   -- aircheck/aircheckref05.Spread
instance en42 : Enters Try.prog 42 := Enters.of Try.func42 (by rfl) (by decide)   -- aircheck/aircheckref05.Shown
instance en43 : Enters Try.prog 43 := Enters.of Try.func43 (by rfl) (by decide)   -- cmp.isNaN[int]
instance en44 : Enters Try.prog 44 := Enters.of Try.func44 (by rfl) (by decide)   -- slices.IndexFunc[[]aircheck/api.Request,aircheck/api.Request]
instance en45 : Enters Try.prog 45 := Enters.of Try.func45 (by rfl) (by decide)   -- slices.MaxFunc[[]aircheck/api.Lease,aircheck/api.Lease]
instance en46 : Enters Try.prog 46 := Enters.of Try.func46 (by rfl) (by decide)   -- aircheck/aircheckref05.Fits
instance en47 : Enters Try.prog 47 := Enters.of Try.func47 (by rfl) (by decide)   -- aircheck/aircheckref05.pick
structure GArr4Int where
  a0 : Int
  a1 : Int
  a2 : Int
  a3 : Int
  deriving DecidableEq, Inhabited
def GArr4Int.enc (x : GArr4Int) : List Value := [.int .i64 x.a0, .int .i64 x.a1, .int .i64 x.a2, .int .i64 x.a3]
def fGArr4Int : Flat GArr4Int := ⟨4, GArr4Int.enc, fun _ => rfl⟩
structure GLease where
  Hub : Int
  Epoch : Int
  Asked : Int
  Granted : Int
  Length : Int
  Until : Int
  deriving DecidableEq, Inhabited
def GLease.enc (x : GLease) : List Value := [.int .i64 x.Hub, .int .i64 x.Epoch, .int .i64 x.Asked, .int .i64 x.Granted, .int .i64 x.Length, .int .i64 x.Until]
def fGLease : Flat GLease := ⟨6, GLease.enc, fun _ => rfl⟩
structure GArr2Int where
  a0 : Int
  a1 : Int
  deriving DecidableEq, Inhabited
def GArr2Int.enc (x : GArr2Int) : List Value := [.int .i64 x.a0, .int .i64 x.a1]
def fGArr2Int : Flat GArr2Int := ⟨2, GArr2Int.enc, fun _ => rfl⟩
structure GRequest where
  Hub : Int
  Asked : Int
  Length : Int
  At : Int
  deriving DecidableEq, Inhabited
def GRequest.enc (x : GRequest) : List Value := [.int .i64 x.Hub, .int .i64 x.Asked, .int .i64 x.Length, .int .i64 x.At]
def fGRequest : Flat GRequest := ⟨4, GRequest.enc, fun _ => rfl⟩
structure GArr3Int where
  a0 : Int
  a1 : Int
  a2 : Int
  deriving DecidableEq, Inhabited
def GArr3Int.enc (x : GArr3Int) : List Value := [.int .i64 x.a0, .int .i64 x.a1, .int .i64 x.a2]
def fGArr3Int : Flat GArr3Int := ⟨3, GArr3Int.enc, fun _ => rfl⟩
structure GArr5Int where
  a0 : Int
  a1 : Int
  a2 : Int
  a3 : Int
  a4 : Int
  deriving DecidableEq, Inhabited
def GArr5Int.enc (x : GArr5Int) : List Value := [.int .i64 x.a0, .int .i64 x.a1, .int .i64 x.a2, .int .i64 x.a3, .int .i64 x.a4]
def fGArr5Int : Flat GArr5Int := ⟨5, GArr5Int.enc, fun _ => rfl⟩
theorem bd30_ {ρ : Operand → Value} {w : World} {d : Option Tmp} {ty : TypeId} {pos : String} {af : Array Edge} {g : Option (Nat × Bool)}    : Runs Try.prog ρ ⟨d, .build 30 #[], ty, pos, af, g⟩ w (.ok (.value (.agg #[.int .i64 0, .int .i64 0, .int .i64 0, .int .i64 0, .int .i64 0, .int .i64 0])) w) := ⟨by
  have e : (Instr.build 30 #[]).run Try.prog w = .ok (.agg #[.int .i64 0, .int .i64 0, .int .i64 0, .int .i64 0, .int .i64 0, .int .i64 0]) w := by kernel_rfl
  simp only [execOp, List.map_toArray, List.map_cons, List.map_nil]
  exact run_bind e⟩
-- BUILD 30 bd30_ 0
theorem bd30_0_1_2_3_4_5 {ρ : Operand → Value} {w : World} {d : Option Tmp} {ty : TypeId} {pos : String} {af : Array Edge} {g : Option (Nat × Bool)} {a0 a1 a2 a3 a4 a5 : Operand} {x0 : Int} {x1 : Int} {x2 : Int} {x3 : Int} {x4 : Int} {x5 : Int} (h0 : ρ a0 = .int .i64 x0) (h1 : ρ a1 = .int .i64 x1) (h2 : ρ a2 = .int .i64 x2) (h3 : ρ a3 = .int .i64 x3) (h4 : ρ a4 = .int .i64 x4) (h5 : ρ a5 = .int .i64 x5) : Runs Try.prog ρ ⟨d, .build 30 #[(0, a0), (1, a1), (2, a2), (3, a3), (4, a4), (5, a5)], ty, pos, af, g⟩ w (.ok (.value (.agg #[.int .i64 x0, .int .i64 x1, .int .i64 x2, .int .i64 x3, .int .i64 x4, .int .i64 x5])) w) := ⟨by
  have e : (Instr.build 30 #[(0, .int .i64 x0), (1, .int .i64 x1), (2, .int .i64 x2), (3, .int .i64 x3), (4, .int .i64 x4), (5, .int .i64 x5)]).run Try.prog w = .ok (.agg #[.int .i64 x0, .int .i64 x1, .int .i64 x2, .int .i64 x3, .int .i64 x4, .int .i64 x5]) w := by kernel_rfl
  simp only [execOp, List.map_toArray, List.map_cons, List.map_nil, h0, h1, h2, h3, h4, h5]
  exact run_bind e⟩
-- BUILD 30 bd30_0_1_2_3_4_5 6
theorem bd30_0_2_4_5 {ρ : Operand → Value} {w : World} {d : Option Tmp} {ty : TypeId} {pos : String} {af : Array Edge} {g : Option (Nat × Bool)} {a0 a1 a2 a3 : Operand} {x0 : Int} {x1 : Int} {x2 : Int} {x3 : Int} (h0 : ρ a0 = .int .i64 x0) (h1 : ρ a1 = .int .i64 x1) (h2 : ρ a2 = .int .i64 x2) (h3 : ρ a3 = .int .i64 x3) : Runs Try.prog ρ ⟨d, .build 30 #[(0, a0), (2, a1), (4, a2), (5, a3)], ty, pos, af, g⟩ w (.ok (.value (.agg #[.int .i64 x0, .int .i64 0, .int .i64 x1, .int .i64 0, .int .i64 x2, .int .i64 x3])) w) := ⟨by
  have e : (Instr.build 30 #[(0, .int .i64 x0), (2, .int .i64 x1), (4, .int .i64 x2), (5, .int .i64 x3)]).run Try.prog w = .ok (.agg #[.int .i64 x0, .int .i64 0, .int .i64 x1, .int .i64 0, .int .i64 x2, .int .i64 x3]) w := by kernel_rfl
  simp only [execOp, List.map_toArray, List.map_cons, List.map_nil, h0, h1, h2, h3]
  exact run_bind e⟩
-- BUILD 30 bd30_0_2_4_5 4
theorem bd30_1_2_4 {ρ : Operand → Value} {w : World} {d : Option Tmp} {ty : TypeId} {pos : String} {af : Array Edge} {g : Option (Nat × Bool)} {a0 a1 a2 : Operand} {x0 : Int} {x1 : Int} {x2 : Int} (h0 : ρ a0 = .int .i64 x0) (h1 : ρ a1 = .int .i64 x1) (h2 : ρ a2 = .int .i64 x2) : Runs Try.prog ρ ⟨d, .build 30 #[(1, a0), (2, a1), (4, a2)], ty, pos, af, g⟩ w (.ok (.value (.agg #[.int .i64 0, .int .i64 x0, .int .i64 x1, .int .i64 0, .int .i64 x2, .int .i64 0])) w) := ⟨by
  have e : (Instr.build 30 #[(1, .int .i64 x0), (2, .int .i64 x1), (4, .int .i64 x2)]).run Try.prog w = .ok (.agg #[.int .i64 0, .int .i64 x0, .int .i64 x1, .int .i64 0, .int .i64 x2, .int .i64 0]) w := by kernel_rfl
  simp only [execOp, List.map_toArray, List.map_cons, List.map_nil, h0, h1, h2]
  exact run_bind e⟩
-- BUILD 30 bd30_1_2_4 3
theorem bd42_0_1 {ρ : Operand → Value} {w : World} {d : Option Tmp} {ty : TypeId} {pos : String} {af : Array Edge} {g : Option (Nat × Bool)} {a0 a1 : Operand} {x0 : Int} {x1 : Int} (h0 : ρ a0 = .int .i64 x0) (h1 : ρ a1 = .int .i64 x1) : Runs Try.prog ρ ⟨d, .build 42 #[(0, a0), (1, a1)], ty, pos, af, g⟩ w (.ok (.value (.agg #[.int .i64 x0, .int .i64 x1])) w) := ⟨by
  have e : (Instr.build 42 #[(0, .int .i64 x0), (1, .int .i64 x1)]).run Try.prog w = .ok (.agg #[.int .i64 x0, .int .i64 x1]) w := by kernel_rfl
  simp only [execOp, List.map_toArray, List.map_cons, List.map_nil, h0, h1]
  exact run_bind e⟩
-- BUILD 42 bd42_0_1 2
theorem bd50_0_1_2_3 {ρ : Operand → Value} {w : World} {d : Option Tmp} {ty : TypeId} {pos : String} {af : Array Edge} {g : Option (Nat × Bool)} {a0 a1 a2 a3 : Operand} {x0 : Int} {x1 : Int} {x2 : Int} {x3 : Int} (h0 : ρ a0 = .int .i64 x0) (h1 : ρ a1 = .int .i64 x1) (h2 : ρ a2 = .int .i64 x2) (h3 : ρ a3 = .int .i64 x3) : Runs Try.prog ρ ⟨d, .build 50 #[(0, a0), (1, a1), (2, a2), (3, a3)], ty, pos, af, g⟩ w (.ok (.value (.agg #[.int .i64 x0, .int .i64 x1, .int .i64 x2, .int .i64 x3])) w) := ⟨by
  have e : (Instr.build 50 #[(0, .int .i64 x0), (1, .int .i64 x1), (2, .int .i64 x2), (3, .int .i64 x3)]).run Try.prog w = .ok (.agg #[.int .i64 x0, .int .i64 x1, .int .i64 x2, .int .i64 x3]) w := by kernel_rfl
  simp only [execOp, List.map_toArray, List.map_cons, List.map_nil, h0, h1, h2, h3]
  exact run_bind e⟩
-- BUILD 50 bd50_0_1_2_3 4
theorem bd50_0_2 {ρ : Operand → Value} {w : World} {d : Option Tmp} {ty : TypeId} {pos : String} {af : Array Edge} {g : Option (Nat × Bool)} {a0 a1 : Operand} {x0 : Int} {x1 : Int} (h0 : ρ a0 = .int .i64 x0) (h1 : ρ a1 = .int .i64 x1) : Runs Try.prog ρ ⟨d, .build 50 #[(0, a0), (2, a1)], ty, pos, af, g⟩ w (.ok (.value (.agg #[.int .i64 x0, .int .i64 0, .int .i64 x1, .int .i64 0])) w) := ⟨by
  have e : (Instr.build 50 #[(0, .int .i64 x0), (2, .int .i64 x1)]).run Try.prog w = .ok (.agg #[.int .i64 x0, .int .i64 0, .int .i64 x1, .int .i64 0]) w := by kernel_rfl
  simp only [execOp, List.map_toArray, List.map_cons, List.map_nil, h0, h1]
  exact run_bind e⟩
-- BUILD 50 bd50_0_2 2
theorem eqv30 {d : Nat} {w : World} {x0 y0 : Int} {x1 y1 : Int} {x2 y2 : Int} {x3 y3 : Int} {x4 y4 : Int} {x5 y5 : Int} (hd : 2 ≤ d) : (Op.equalIn d 30 (.agg #[.int .i64 x0, .int .i64 x1, .int .i64 x2, .int .i64 x3, .int .i64 x4, .int .i64 x5]) (.agg #[.int .i64 y0, .int .i64 y1, .int .i64 y2, .int .i64 y3, .int .i64 y4, .int .i64 y5])).run Try.prog w = .ok (decide ((GLease.mk x0 x1 x2 x3 x4 x5) = (GLease.mk y0 y1 y2 y3 y4 y5))) w := by
  have h := eqStruct (P := Try.prog) (T := 30) (w := w) (xs := #[.int .i64 x0, .int .i64 x1, .int .i64 x2, .int .i64 x3, .int .i64 x4, .int .i64 x5]) (ys := #[.int .i64 y0, .int .i64 y1, .int .i64 y2, .int .i64 y3, .int .i64 y4, .int .i64 y5]) Try.underlying30 (by kernel_rfl) (by omega : 1 ≤ d) (ef_cons rfl (part1 rfl) (part1 rfl) (eqInt (by omega)) (ef_cons rfl (part1 rfl) (part1 rfl) (eqInt (by omega)) (ef_cons rfl (part1 rfl) (part1 rfl) (eqInt (by omega)) (ef_cons rfl (part1 rfl) (part1 rfl) (eqInt (by omega)) (ef_cons rfl (part1 rfl) (part1 rfl) (eqInt (by omega)) (ef_cons rfl (part1 rfl) (part1 rfl) (eqInt (by omega)) ef_nil))))))
  rw [h]
  congr 1
  rw [Bool.eq_iff_iff]
  simp
theorem eql30 {ρ : Operand → Value} {w : World} {d : Option Tmp} {ty T' : TypeId} {pos : String} {af : Array Edge} {g : Option (Nat × Bool)} {s t : Operand} {x0 y0 : Int} {x1 y1 : Int} {x2 y2 : Int} {x3 y3 : Int} {x4 y4 : Int} {x5 y5 : Int} (h1 : ρ s = .agg #[.int .i64 x0, .int .i64 x1, .int .i64 x2, .int .i64 x3, .int .i64 x4, .int .i64 x5]) (h2 : ρ t = .agg #[.int .i64 y0, .int .i64 y1, .int .i64 y2, .int .i64 y3, .int .i64 y4, .int .i64 y5]) :
    Runs Try.prog ρ ⟨d, .binOp .eql 30 s t T', ty, pos, af, g⟩ w (.ok (.value (.bool (decide ((GLease.mk x0 x1 x2 x3 x4 x5) = (GLease.mk y0 y1 y2 y3 y4 y5))))) w) := r_eqlAgg h1 h2 (by kernel_rfl) (eqv30 (by decide))
theorem neq30 {ρ : Operand → Value} {w : World} {d : Option Tmp} {ty T' : TypeId} {pos : String} {af : Array Edge} {g : Option (Nat × Bool)} {s t : Operand} {x0 y0 : Int} {x1 y1 : Int} {x2 y2 : Int} {x3 y3 : Int} {x4 y4 : Int} {x5 y5 : Int} (h1 : ρ s = .agg #[.int .i64 x0, .int .i64 x1, .int .i64 x2, .int .i64 x3, .int .i64 x4, .int .i64 x5]) (h2 : ρ t = .agg #[.int .i64 y0, .int .i64 y1, .int .i64 y2, .int .i64 y3, .int .i64 y4, .int .i64 y5]) :
    Runs Try.prog ρ ⟨d, .binOp .neq 30 s t T', ty, pos, af, g⟩ w (.ok (.value (.bool (!decide ((GLease.mk x0 x1 x2 x3 x4 x5) = (GLease.mk y0 y1 y2 y3 y4 y5))))) w) := r_neqAgg h1 h2 (by kernel_rfl) (eqv30 (by decide))

end Go.Proofs.Ytaoicaldhllbfaa

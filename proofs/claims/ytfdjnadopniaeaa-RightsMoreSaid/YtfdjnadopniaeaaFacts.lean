/- What the dump says of its types and functions: written by facts.py (a program of this claim). -/
import Derived.Test.YtfdjnadopniaeaaProg
import Derived.Test.YtfdjnadopniaeaaGxEqS
import Derived.KernelRfl
namespace Go.Proofs.Ytfdjnadopniaeaa
open Go Go.Gx
set_option linter.unusedSimpArgs false
set_option linter.unusedVariables false

instance tf1 : TF Try.prog 1 false 1 := ⟨Try.isAgg1, Try.sizeOf1⟩
instance ti1 : TI Try.prog 1 (.nilFunc) 1 8 := TI.of (by kernel_rfl)
instance tf2 : TF Try.prog 2 false 1 := ⟨Try.isAgg2, Try.sizeOf2⟩
instance ti2 : TI Try.prog 2 (.int .i64 0) 1 8 := TI.of (by kernel_rfl)
instance is2 : IsInt Try.prog 2 .i64 := ⟨Try.underlying2⟩
instance tf3 : TF Try.prog 3 false 1 := ⟨Try.isAgg3, Try.sizeOf3⟩
instance ti3 : TI Try.prog 3 (.int .i64 0) 1 8 := TI.of (by kernel_rfl)
instance is3 : IsInt Try.prog 3 .i64 := ⟨Try.underlying3⟩
instance tf4 : TF Try.prog 4 false 1 := ⟨Try.isAgg4, Try.sizeOf4⟩
instance ti4 : TI Try.prog 4 (.bool false) 1 1 := TI.of (by kernel_rfl)
instance is4 : IsBool Try.prog 4 := ⟨Try.underlying4⟩
instance tf5 : TF Try.prog 5 false 1 := ⟨Try.isAgg5, Try.sizeOf5⟩
instance ti5 : TI Try.prog 5 (.int .u8 0) 1 1 := TI.of (by kernel_rfl)
instance is5 : IsInt Try.prog 5 .u8 := ⟨Try.underlying5⟩
instance tf9 : TF Try.prog 9 false 1 := ⟨Try.isAgg9, Try.sizeOf9⟩
instance ti9 : TI Try.prog 9 (.string ⟨#[]⟩) 1 16 := TI.of (by kernel_rfl)
instance is9 : IsStr Try.prog 9 := ⟨Try.underlying9⟩
instance tf12 : TF Try.prog 12 false 1 := ⟨Try.isAgg12, Try.sizeOf12⟩
instance ti12 : TI Try.prog 12 (.int .u64 0) 1 8 := TI.of (by kernel_rfl)
instance is12 : IsInt Try.prog 12 .u64 := ⟨Try.underlying12⟩
instance tf21 : TF Try.prog 21 false 1 := ⟨Try.isAgg21, Try.sizeOf21⟩
instance ti21 : TI Try.prog 21 (.int .i32 0) 1 4 := TI.of (by kernel_rfl)
instance is21 : IsInt Try.prog 21 .i32 := ⟨Try.underlying21⟩
instance tf22 : TF Try.prog 22 false 1 := ⟨Try.isAgg22, Try.sizeOf22⟩
instance ti22 : TI Try.prog 22 (.slice none 0 0) 1 24 := TI.of (by kernel_rfl)
instance is22 : IsSlice Try.prog 22 52 := ⟨Try.underlying22⟩
instance tf23 : TF Try.prog 23 false 1 := ⟨Try.isAgg23, Try.sizeOf23⟩
instance ti23 : TI Try.prog 23 (.slice none 0 0) 1 24 := TI.of (by kernel_rfl)
instance is23 : IsSlice Try.prog 23 46 := ⟨Try.underlying23⟩
instance tf24 : TF Try.prog 24 false 1 := ⟨Try.isAgg24, Try.sizeOf24⟩
instance ti24 : TI Try.prog 24 (.slice none 0 0) 1 24 := TI.of (by kernel_rfl)
instance is24 : IsSlice Try.prog 24 57 := ⟨Try.underlying24⟩
instance tf25 : TF Try.prog 25 false 1 := ⟨Try.isAgg25, Try.sizeOf25⟩
instance ti25 : TI Try.prog 25 (.slice none 0 0) 1 24 := TI.of (by kernel_rfl)
instance is25 : IsSlice Try.prog 25 59 := ⟨Try.underlying25⟩
instance tf26 : TF Try.prog 26 false 1 := ⟨Try.isAgg26, Try.sizeOf26⟩
instance ti26 : TI Try.prog 26 (.slice none 0 0) 1 24 := TI.of (by kernel_rfl)
instance is26 : IsSlice Try.prog 26 3 := ⟨Try.underlying26⟩
instance tf27 : TF Try.prog 27 false 1 := ⟨Try.isAgg27, Try.sizeOf27⟩
instance ti27 : TI Try.prog 27 (.nilFunc) 1 8 := TI.of (by kernel_rfl)
instance tf28 : TF Try.prog 28 false 1 := ⟨Try.isAgg28, Try.sizeOf28⟩
instance ti28 : TI Try.prog 28 (.nilFunc) 1 8 := TI.of (by kernel_rfl)
instance tf29 : TF Try.prog 29 false 1 := ⟨Try.isAgg29, Try.sizeOf29⟩
instance ti29 : TI Try.prog 29 (.slice none 0 0) 1 24 := TI.of (by kernel_rfl)
instance is29 : IsSlice Try.prog 29 22 := ⟨Try.underlying29⟩
instance tf30 : TF Try.prog 30 false 1 := ⟨Try.isAgg30, Try.sizeOf30⟩
instance ti30 : TI Try.prog 30 (.nilFunc) 1 8 := TI.of (by kernel_rfl)
instance tf31 : TF Try.prog 31 false 1 := ⟨Try.isAgg31, Try.sizeOf31⟩
instance ti31 : TI Try.prog 31 (.slice none 0 0) 1 24 := TI.of (by kernel_rfl)
instance is31 : IsSlice Try.prog 31 23 := ⟨Try.underlying31⟩
instance tf32 : TF Try.prog 32 false 1 := ⟨Try.isAgg32, Try.sizeOf32⟩
instance ti32 : TI Try.prog 32 (.nilFunc) 1 8 := TI.of (by kernel_rfl)
instance tf33 : TF Try.prog 33 false 1 := ⟨Try.isAgg33, Try.sizeOf33⟩
instance ti33 : TI Try.prog 33 (.nilFunc) 1 8 := TI.of (by kernel_rfl)
instance tf34 : TF Try.prog 34 false 1 := ⟨Try.isAgg34, Try.sizeOf34⟩
instance ti34 : TI Try.prog 34 (.nilFunc) 1 8 := TI.of (by kernel_rfl)
instance tf35 : TF Try.prog 35 false 1 := ⟨Try.isAgg35, Try.sizeOf35⟩
instance ti35 : TI Try.prog 35 (.nilFunc) 1 8 := TI.of (by kernel_rfl)
instance tf36 : TF Try.prog 36 false 1 := ⟨Try.isAgg36, Try.sizeOf36⟩
instance ti36 : TI Try.prog 36 (.nilFunc) 1 8 := TI.of (by kernel_rfl)
instance tf37 : TF Try.prog 37 false 1 := ⟨Try.isAgg37, Try.sizeOf37⟩
instance ti37 : TI Try.prog 37 (.int .i64 0) 1 8 := TI.of (by kernel_rfl)
instance is37 : IsInt Try.prog 37 .i64 := ⟨Try.underlying37⟩
instance tf39 : TF Try.prog 39 false 1 := ⟨Try.isAgg39, Try.sizeOf39⟩
instance ti39 : TI Try.prog 39 (.nilFunc) 1 8 := TI.of (by kernel_rfl)
instance tf41 : TF Try.prog 41 false 1 := ⟨Try.isAgg41, Try.sizeOf41⟩
instance ti41 : TI Try.prog 41 (.nilFunc) 1 8 := TI.of (by kernel_rfl)
instance tf42 : TF Try.prog 42 false 1 := ⟨Try.isAgg42, Try.sizeOf42⟩
instance ti42 : TI Try.prog 42 (.nilFunc) 1 8 := TI.of (by kernel_rfl)
instance tf43 : TF Try.prog 43 false 1 := ⟨Try.isAgg43, Try.sizeOf43⟩
instance ti43 : TI Try.prog 43 (.nilFunc) 1 8 := TI.of (by kernel_rfl)
instance tf44 : TF Try.prog 44 false 1 := ⟨Try.isAgg44, Try.sizeOf44⟩
instance ti44 : TI Try.prog 44 (.nilFunc) 1 8 := TI.of (by kernel_rfl)
instance tf45 : TF Try.prog 45 true 4 := ⟨Try.isAgg45, Try.sizeOf45⟩
instance ti45 : TI Try.prog 45 (.agg #[.int .i64 0, .int .i64 0, .int .i64 0, .int .i64 0]) 4 32 := TI.of (by kernel_rfl)
instance tf46 : TF Try.prog 46 true 4 := ⟨Try.isAgg46, Try.sizeOf46⟩
instance ti46 : TI Try.prog 46 (.agg #[.int .i64 0, .int .i64 0, .int .i64 0, .int .i64 0]) 4 32 := TI.of (by kernel_rfl)
instance tf47 : TF Try.prog 47 false 1 := ⟨Try.isAgg47, Try.sizeOf47⟩
instance ti47 : TI Try.prog 47 (.nilFunc) 1 8 := TI.of (by kernel_rfl)
instance tf48 : TF Try.prog 48 false 1 := ⟨Try.isAgg48, Try.sizeOf48⟩
instance ti48 : TI Try.prog 48 (.nilFunc) 1 8 := TI.of (by kernel_rfl)
instance tf49 : TF Try.prog 49 true 2 := ⟨Try.isAgg49, Try.sizeOf49⟩
instance ti49 : TI Try.prog 49 (.agg #[.int .i64 0, .int .i64 0]) 2 16 := TI.of (by kernel_rfl)
instance tf50 : TF Try.prog 50 true 2 := ⟨Try.isAgg50, Try.sizeOf50⟩
instance ti50 : TI Try.prog 50 (.agg #[.int .i64 0, .int .i64 0]) 2 16 := TI.of (by kernel_rfl)
instance tf51 : TF Try.prog 51 true 6 := ⟨Try.isAgg51, Try.sizeOf51⟩
instance ti51 : TI Try.prog 51 (.agg #[.int .i64 0, .int .i64 0, .int .i64 0, .int .i64 0, .int .i64 0, .int .i64 0]) 6 48 := TI.of (by kernel_rfl)
instance tf52 : TF Try.prog 52 true 6 := ⟨Try.isAgg52, Try.sizeOf52⟩
instance ti52 : TI Try.prog 52 (.agg #[.int .i64 0, .int .i64 0, .int .i64 0, .int .i64 0, .int .i64 0, .int .i64 0]) 6 48 := TI.of (by kernel_rfl)
instance tf53 : TF Try.prog 53 false 1 := ⟨Try.isAgg53, Try.sizeOf53⟩
instance ti53 : TI Try.prog 53 (.nilFunc) 1 8 := TI.of (by kernel_rfl)
instance tf54 : TF Try.prog 54 false 1 := ⟨Try.isAgg54, Try.sizeOf54⟩
instance ti54 : TI Try.prog 54 (.nilFunc) 1 8 := TI.of (by kernel_rfl)
instance tf55 : TF Try.prog 55 false 1 := ⟨Try.isAgg55, Try.sizeOf55⟩
instance ti55 : TI Try.prog 55 (.nilFunc) 1 8 := TI.of (by kernel_rfl)
instance tf56 : TF Try.prog 56 false 1 := ⟨Try.isAgg56, Try.sizeOf56⟩
instance ti56 : TI Try.prog 56 (.nilFunc) 1 8 := TI.of (by kernel_rfl)
instance tf57 : TF Try.prog 57 true 5 := ⟨Try.isAgg57, Try.sizeOf57⟩
instance ti57 : TI Try.prog 57 (.agg #[.int .i64 0, .int .i64 0, .int .i64 0, .int .i64 0, .int .i64 0]) 5 40 := TI.of (by kernel_rfl)
instance is57 : IsArr Try.prog 57 5 3 := ⟨Try.underlying57⟩
instance tf58 : TF Try.prog 58 false 1 := ⟨Try.isAgg58, Try.sizeOf58⟩
instance ti58 : TI Try.prog 58 (.nilFunc) 1 8 := TI.of (by kernel_rfl)
instance tf59 : TF Try.prog 59 true 4 := ⟨Try.isAgg59, Try.sizeOf59⟩
instance ti59 : TI Try.prog 59 (.agg #[.int .i64 0, .int .i64 0, .int .i64 0, .int .i64 0]) 4 32 := TI.of (by kernel_rfl)
instance is59 : IsArr Try.prog 59 4 3 := ⟨Try.underlying59⟩
instance tf60 : TF Try.prog 60 false 1 := ⟨Try.isAgg60, Try.sizeOf60⟩
instance ti60 : TI Try.prog 60 (.nilFunc) 1 8 := TI.of (by kernel_rfl)
instance tf61 : TF Try.prog 61 false 1 := ⟨Try.isAgg61, Try.sizeOf61⟩
instance ti61 : TI Try.prog 61 (.nilFunc) 1 8 := TI.of (by kernel_rfl)
instance tf62 : TF Try.prog 62 false 1 := ⟨Try.isAgg62, Try.sizeOf62⟩
instance ti62 : TI Try.prog 62 (.nilFunc) 1 8 := TI.of (by kernel_rfl)
instance tf63 : TF Try.prog 63 false 1 := ⟨Try.isAgg63, Try.sizeOf63⟩
instance ti63 : TI Try.prog 63 (.nilFunc) 1 8 := TI.of (by kernel_rfl)
instance tf64 : TF Try.prog 64 false 1 := ⟨Try.isAgg64, Try.sizeOf64⟩
instance ti64 : TI Try.prog 64 (.nilFunc) 1 8 := TI.of (by kernel_rfl)
instance tf65 : TF Try.prog 65 false 1 := ⟨Try.isAgg65, Try.sizeOf65⟩
instance ti65 : TI Try.prog 65 (.nilFunc) 1 8 := TI.of (by kernel_rfl)
instance tf66 : TF Try.prog 66 false 1 := ⟨Try.isAgg66, Try.sizeOf66⟩
instance ti66 : TI Try.prog 66 (.nilFunc) 1 8 := TI.of (by kernel_rfl)
instance tf67 : TF Try.prog 67 false 1 := ⟨Try.isAgg67, Try.sizeOf67⟩
instance ti67 : TI Try.prog 67 (.nilFunc) 1 8 := TI.of (by kernel_rfl)
instance tf68 : TF Try.prog 68 false 1 := ⟨Try.isAgg68, Try.sizeOf68⟩
instance ti68 : TI Try.prog 68 (.nilFunc) 1 8 := TI.of (by kernel_rfl)
instance tf69 : TF Try.prog 69 false 1 := ⟨Try.isAgg69, Try.sizeOf69⟩
instance ti69 : TI Try.prog 69 (.nilFunc) 1 8 := TI.of (by kernel_rfl)
instance tf70 : TF Try.prog 70 false 1 := ⟨Try.isAgg70, Try.sizeOf70⟩
instance ti70 : TI Try.prog 70 (.nilFunc) 1 8 := TI.of (by kernel_rfl)
instance tf71 : TF Try.prog 71 false 1 := ⟨Try.isAgg71, Try.sizeOf71⟩
instance ti71 : TI Try.prog 71 (.nilFunc) 1 8 := TI.of (by kernel_rfl)
instance tf72 : TF Try.prog 72 false 1 := ⟨Try.isAgg72, Try.sizeOf72⟩
instance ti72 : TI Try.prog 72 (.nilFunc) 1 8 := TI.of (by kernel_rfl)
instance tf73 : TF Try.prog 73 false 1 := ⟨Try.isAgg73, Try.sizeOf73⟩
instance ti73 : TI Try.prog 73 (.nilFunc) 1 8 := TI.of (by kernel_rfl)
instance tf74 : TF Try.prog 74 false 1 := ⟨Try.isAgg74, Try.sizeOf74⟩
instance ti74 : TI Try.prog 74 (.nilFunc) 1 8 := TI.of (by kernel_rfl)
instance tf75 : TF Try.prog 75 false 1 := ⟨Try.isAgg75, Try.sizeOf75⟩
instance ti75 : TI Try.prog 75 (.nilFunc) 1 8 := TI.of (by kernel_rfl)
instance tf76 : TF Try.prog 76 false 1 := ⟨Try.isAgg76, Try.sizeOf76⟩
instance ti76 : TI Try.prog 76 (.nilFunc) 1 8 := TI.of (by kernel_rfl)
instance tf77 : TF Try.prog 77 false 1 := ⟨Try.isAgg77, Try.sizeOf77⟩
instance ti77 : TI Try.prog 77 (.nilFunc) 1 8 := TI.of (by kernel_rfl)
instance tf78 : TF Try.prog 78 false 1 := ⟨Try.isAgg78, Try.sizeOf78⟩
instance ti78 : TI Try.prog 78 (.nilFunc) 1 8 := TI.of (by kernel_rfl)
instance tf79 : TF Try.prog 79 false 1 := ⟨Try.isAgg79, Try.sizeOf79⟩
instance ti79 : TI Try.prog 79 (.nilFunc) 1 8 := TI.of (by kernel_rfl)
instance tf80 : TF Try.prog 80 false 1 := ⟨Try.isAgg80, Try.sizeOf80⟩
instance ti80 : TI Try.prog 80 (.slice none 0 0) 1 24 := TI.of (by kernel_rfl)
instance is80 : IsSlice Try.prog 80 26 := ⟨Try.underlying80⟩
instance tf81 : TF Try.prog 81 false 1 := ⟨Try.isAgg81, Try.sizeOf81⟩
instance ti81 : TI Try.prog 81 (.slice none 0 0) 1 24 := TI.of (by kernel_rfl)
instance is81 : IsSlice Try.prog 81 4 := ⟨Try.underlying81⟩
instance tf82 : TF Try.prog 82 false 1 := ⟨Try.isAgg82, Try.sizeOf82⟩
instance ti82 : TI Try.prog 82 (.nilFunc) 1 8 := TI.of (by kernel_rfl)
instance tf83 : TF Try.prog 83 false 1 := ⟨Try.isAgg83, Try.sizeOf83⟩
instance ti83 : TI Try.prog 83 (.nilFunc) 1 8 := TI.of (by kernel_rfl)
instance tf84 : TF Try.prog 84 false 1 := ⟨Try.isAgg84, Try.sizeOf84⟩
instance ti84 : TI Try.prog 84 (.nilFunc) 1 8 := TI.of (by kernel_rfl)
instance tf85 : TF Try.prog 85 false 1 := ⟨Try.isAgg85, Try.sizeOf85⟩
instance ti85 : TI Try.prog 85 (.nilFunc) 1 8 := TI.of (by kernel_rfl)
instance tf91 : TF Try.prog 91 false 1 := ⟨Try.isAgg91, Try.sizeOf91⟩
instance ti91 : TI Try.prog 91 (.nilFunc) 1 8 := TI.of (by kernel_rfl)
instance tf92 : TF Try.prog 92 false 1 := ⟨Try.isAgg92, Try.sizeOf92⟩
instance ti92 : TI Try.prog 92 (.int .u32 0) 1 4 := TI.of (by kernel_rfl)
instance is92 : IsInt Try.prog 92 .u32 := ⟨Try.underlying92⟩
instance tf95 : TF Try.prog 95 false 1 := ⟨Try.isAgg95, Try.sizeOf95⟩
instance ti95 : TI Try.prog 95 (.nilFunc) 1 8 := TI.of (by kernel_rfl)
instance tf96 : TF Try.prog 96 false 1 := ⟨Try.isAgg96, Try.sizeOf96⟩
instance ti96 : TI Try.prog 96 (.pointer none) 1 8 := TI.of (by kernel_rfl)
instance fa45_0 : FA Try.prog 45 0 0 := ⟨fun _ _ => by kernel_rfl⟩
instance fv45_0 : FV Try.prog 45 0 0 := ⟨fun cs v w h => by simp [Instr.field, run_underlying' Try.underlying45, asAgg, part, Try.isAgg3, h]⟩
instance fa45_1 : FA Try.prog 45 1 1 := ⟨fun _ _ => by kernel_rfl⟩
instance fv45_1 : FV Try.prog 45 1 1 := ⟨fun cs v w h => by simp [Instr.field, run_underlying' Try.underlying45, asAgg, part, Try.isAgg3, h]⟩
instance fa45_2 : FA Try.prog 45 2 2 := ⟨fun _ _ => by kernel_rfl⟩
instance fv45_2 : FV Try.prog 45 2 2 := ⟨fun cs v w h => by simp [Instr.field, run_underlying' Try.underlying45, asAgg, part, Try.isAgg3, h]⟩
instance fa45_3 : FA Try.prog 45 3 3 := ⟨fun _ _ => by kernel_rfl⟩
instance fv45_3 : FV Try.prog 45 3 3 := ⟨fun cs v w h => by simp [Instr.field, run_underlying' Try.underlying45, asAgg, part, Try.isAgg3, h]⟩
instance fa46_0 : FA Try.prog 46 0 0 := ⟨fun _ _ => by kernel_rfl⟩
instance fv46_0 : FV Try.prog 46 0 0 := ⟨fun cs v w h => by simp [Instr.field, run_underlying' Try.underlying46, asAgg, part, Try.isAgg3, h]⟩
instance fa46_1 : FA Try.prog 46 1 1 := ⟨fun _ _ => by kernel_rfl⟩
instance fv46_1 : FV Try.prog 46 1 1 := ⟨fun cs v w h => by simp [Instr.field, run_underlying' Try.underlying46, asAgg, part, Try.isAgg3, h]⟩
instance fa46_2 : FA Try.prog 46 2 2 := ⟨fun _ _ => by kernel_rfl⟩
instance fv46_2 : FV Try.prog 46 2 2 := ⟨fun cs v w h => by simp [Instr.field, run_underlying' Try.underlying46, asAgg, part, Try.isAgg3, h]⟩
instance fa46_3 : FA Try.prog 46 3 3 := ⟨fun _ _ => by kernel_rfl⟩
instance fv46_3 : FV Try.prog 46 3 3 := ⟨fun cs v w h => by simp [Instr.field, run_underlying' Try.underlying46, asAgg, part, Try.isAgg3, h]⟩
instance fa49_0 : FA Try.prog 49 0 0 := ⟨fun _ _ => by kernel_rfl⟩
instance fv49_0 : FV Try.prog 49 0 0 := ⟨fun cs v w h => by simp [Instr.field, run_underlying' Try.underlying49, asAgg, part, Try.isAgg3, h]⟩
instance fa49_1 : FA Try.prog 49 1 1 := ⟨fun _ _ => by kernel_rfl⟩
instance fv49_1 : FV Try.prog 49 1 1 := ⟨fun cs v w h => by simp [Instr.field, run_underlying' Try.underlying49, asAgg, part, Try.isAgg3, h]⟩
instance fa50_0 : FA Try.prog 50 0 0 := ⟨fun _ _ => by kernel_rfl⟩
instance fv50_0 : FV Try.prog 50 0 0 := ⟨fun cs v w h => by simp [Instr.field, run_underlying' Try.underlying50, asAgg, part, Try.isAgg3, h]⟩
instance fa50_1 : FA Try.prog 50 1 1 := ⟨fun _ _ => by kernel_rfl⟩
instance fv50_1 : FV Try.prog 50 1 1 := ⟨fun cs v w h => by simp [Instr.field, run_underlying' Try.underlying50, asAgg, part, Try.isAgg3, h]⟩
instance fa51_0 : FA Try.prog 51 0 0 := ⟨fun _ _ => by kernel_rfl⟩
instance fv51_0 : FV Try.prog 51 0 0 := ⟨fun cs v w h => by simp [Instr.field, run_underlying' Try.underlying51, asAgg, part, Try.isAgg3, h]⟩
instance fa51_1 : FA Try.prog 51 1 1 := ⟨fun _ _ => by kernel_rfl⟩
instance fv51_1 : FV Try.prog 51 1 1 := ⟨fun cs v w h => by simp [Instr.field, run_underlying' Try.underlying51, asAgg, part, Try.isAgg3, h]⟩
instance fa51_2 : FA Try.prog 51 2 2 := ⟨fun _ _ => by kernel_rfl⟩
instance fv51_2 : FV Try.prog 51 2 2 := ⟨fun cs v w h => by simp [Instr.field, run_underlying' Try.underlying51, asAgg, part, Try.isAgg3, h]⟩
instance fa51_3 : FA Try.prog 51 3 3 := ⟨fun _ _ => by kernel_rfl⟩
instance fv51_3 : FV Try.prog 51 3 3 := ⟨fun cs v w h => by simp [Instr.field, run_underlying' Try.underlying51, asAgg, part, Try.isAgg3, h]⟩
instance fa51_4 : FA Try.prog 51 4 4 := ⟨fun _ _ => by kernel_rfl⟩
instance fv51_4 : FVA Try.prog 51 4 4 2 := ⟨fun cs w => by simp [Instr.field, run_underlying' Try.underlying51, asAgg, part, Try.isAgg50, Try.sizeOf50]⟩
instance fa52_0 : FA Try.prog 52 0 0 := ⟨fun _ _ => by kernel_rfl⟩
instance fv52_0 : FV Try.prog 52 0 0 := ⟨fun cs v w h => by simp [Instr.field, run_underlying' Try.underlying52, asAgg, part, Try.isAgg3, h]⟩
instance fa52_1 : FA Try.prog 52 1 1 := ⟨fun _ _ => by kernel_rfl⟩
instance fv52_1 : FV Try.prog 52 1 1 := ⟨fun cs v w h => by simp [Instr.field, run_underlying' Try.underlying52, asAgg, part, Try.isAgg3, h]⟩
instance fa52_2 : FA Try.prog 52 2 2 := ⟨fun _ _ => by kernel_rfl⟩
instance fv52_2 : FV Try.prog 52 2 2 := ⟨fun cs v w h => by simp [Instr.field, run_underlying' Try.underlying52, asAgg, part, Try.isAgg3, h]⟩
instance fa52_3 : FA Try.prog 52 3 3 := ⟨fun _ _ => by kernel_rfl⟩
instance fv52_3 : FV Try.prog 52 3 3 := ⟨fun cs v w h => by simp [Instr.field, run_underlying' Try.underlying52, asAgg, part, Try.isAgg3, h]⟩
instance fa52_4 : FA Try.prog 52 4 4 := ⟨fun _ _ => by kernel_rfl⟩
instance fv52_4 : FVA Try.prog 52 4 4 2 := ⟨fun cs w => by simp [Instr.field, run_underlying' Try.underlying52, asAgg, part, Try.isAgg50, Try.sizeOf50]⟩
instance en3 : Enters Try.prog 3 := Enters.of Try.func3 (by rfl) (by decide)   -- aircheck/airchecklaw08.RightsMatchesReference
instance en4 : Enters Try.prog 4 := Enters.of Try.func4 (by rfl) (by decide)   -- aircheck/airchecklaw08.RightsHall
instance en5 : Enters Try.prog 5 := Enters.of Try.func5 (by rfl) (by decide)   -- aircheck/airchecklaw08.RightsFirst
instance en6 : Enters Try.prog 6 := Enters.of Try.func6 (by rfl) (by decide)   -- aircheck/airchecklaw08.RightsLeast
instance en7 : Enters Try.prog 7 := Enters.of Try.func7 (by rfl) (by decide)   -- aircheck/airchecklaw08.RightsWithdrawn
instance en8 : Enters Try.prog 8 := Enters.of Try.func8 (by rfl) (by decide)   -- aircheck/airchecklaw08.RightsMore
instance en9 : Enters Try.prog 9 := Enters.of Try.func9 (by rfl) (by decide)   -- aircheck/airchecklaw08.RightsApart
instance en10 : Enters Try.prog 10 := Enters.of Try.func10 (by rfl) (by decide)   -- aircheck/airchecklaw08.sane
instance en11 : Enters Try.prog 11 := Enters.of Try.func11 (by rfl) (by decide)   -- aircheck/aircheckref08.Made
instance en12 : Enters Try.prog 12 := Enters.of Try.func12 (by rfl) (by decide)   -- aircheck/aircheckref08.MadeUses
instance en13 : Enters Try.prog 13 := Enters.of Try.func13 (by rfl) (by decide)   -- aircheck/rights.Valid
instance en14 : Enters Try.prog 14 := Enters.of Try.func14 (by rfl) (by decide)   -- aircheck/aircheckref08.Valid
instance en15 : Enters Try.prog 15 := Enters.of Try.func15 (by rfl) (by decide)   -- aircheck/rights.ValidUses
instance en16 : Enters Try.prog 16 := Enters.of Try.func16 (by rfl) (by decide)   -- aircheck/aircheckref08.ValidUses
instance en17 : Enters Try.prog 17 := Enters.of Try.func17 (by rfl) (by decide)   -- aircheck/aircheckref08.Same
instance en18 : Enters Try.prog 18 := Enters.of Try.func18 (by rfl) (by decide)   -- aircheck/rights.Withdraw
instance en19 : Enters Try.prog 19 := Enters.of Try.func19 (by rfl) (by decide)   -- aircheck/aircheckref08.Withdraw
instance en20 : Enters Try.prog 20 := Enters.of Try.func20 (by rfl) (by decide)   -- aircheck/airchecklaw08.pick
instance en21 : Enters Try.prog 21 := Enters.of Try.func21 (by rfl) (by decide)   -- aircheck/rights.Assign
instance en22 : Enters Try.prog 22 := Enters.of Try.func22 (by rfl) (by decide)   -- aircheck/aircheckref08.Assign
instance en23 : Enters Try.prog 23 := Enters.of Try.func23 (by rfl) (by decide)   -- aircheck/rights.Lack
instance en24 : Enters Try.prog 24 := Enters.of Try.func24 (by rfl) (by decide)   -- aircheck/aircheckref08.Lack
instance en25 : Enters Try.prog 25 := Enters.of Try.func25 (by rfl) (by decide)   -- aircheck/aircheckref08.Ints
instance en26 : Enters Try.prog 26 := Enters.of Try.func26 (by rfl) (by decide)   -- aircheck/rights.Left
instance en27 : Enters Try.prog 27 := Enters.of Try.func27 (by rfl) (by decide)   -- aircheck/aircheckref08.Left
instance en28 : Enters Try.prog 28 := Enters.of Try.func28 (by rfl) (by decide)   -- aircheck/rights.Permits
instance en29 : Enters Try.prog 29 := Enters.of Try.func29 (by rfl) (by decide)   -- aircheck/aircheckref08.Permits
instance en30 : Enters Try.prog 30 := Enters.of Try.func30 (by rfl) (by decide)   -- aircheck/airchecklaw08.has
instance en31 : Enters Try.prog 31 := Enters.of Try.func31 (by rfl) (by decide)   -- aircheck/aircheckref08.pick
instance en32 : Enters Try.prog 32 := Enters.of Try.func32 (by rfl) (by decide)   -- slices.ContainsFunc[[]aircheck/api.Grant,aircheck/api.Grant]
instance en33 : Enters Try.prog 33 := Enters.of Try.func33 (by rfl) (by decide)   -- aircheck/rights.Valid$1
instance en34 : Enters Try.prog 34 := Enters.of Try.func34 (by rfl) (by decide)   -- aircheck/rights.within
instance en35 : Enters Try.prog 35 := Enters.of Try.func35 (by rfl) (by decide)   -- aircheck/aircheckref08.in
instance en36 : Enters Try.prog 36 := Enters.of Try.func36 (by rfl) (by decide)   -- slices.ContainsFunc[[]aircheck/api.Use,aircheck/api.Use]
instance en37 : Enters Try.prog 37 := Enters.of Try.func37 (by rfl) (by decide)   -- aircheck/rights.ValidUses$1
instance en38 : Enters Try.prog 38 := Enters.of Try.func38 (by rfl) (by decide)   -- aircheck/rights.isAssignable
instance en39 : Enters Try.prog 39 := Enters.of Try.func39 (by rfl) (by decide)   -- slices.Clone[[]aircheck/api.Grant,aircheck/api.Grant]
instance en40 : Enters Try.prog 40 := Enters.of Try.func40 (by rfl) (by decide)   -- aircheck/rights.permits
instance en41 : Enters Try.prog 41 := Enters.of Try.func41 (by rfl) (by decide)   -- aircheck/aircheckref08.plays
instance en42 : Enters Try.prog 42 := Enters.of Try.func42 (by rfl) (by decide)   -- aircheck/aircheckref08.enough
instance en43 : Enters Try.prog 43 := Enters.of Try.func43 (by rfl) (by decide)   -- aircheck/aircheckref08.Permitted
instance en44 : Enters Try.prog 44 := Enters.of Try.func44 (by rfl) (by decide)   -- aircheck/rights.sets
instance en45 : Enters Try.prog 45 := Enters.of Try.func45 (by rfl) (by decide)   -- slices.ContainsFunc[[]int,int]
instance en46 : Enters Try.prog 46 := Enters.of Try.func46 (by rfl) (by decide)   -- aircheck/rights.Lack$1
instance en47 : Enters Try.prog 47 := Enters.of Try.func47 (by rfl) (by decide)   -- aircheck/aircheckref08.lacks
instance en48 : Enters Try.prog 48 := Enters.of Try.func48 (by rfl) (by decide)   -- aircheck/aircheckref08.size
instance en49 : Enters Try.prog 49 := Enters.of Try.func49 (by rfl) (by decide)   -- aircheck/aircheckref08.first
instance en50 : Enters Try.prog 50 := Enters.of Try.func50 (by rfl) (by decide)   -- aircheck/aircheckref08.bit
instance en51 : Enters Try.prog 51 := Enters.of Try.func51 (by rfl) (by decide)   -- slices.IndexFunc[[]aircheck/api.Grant,aircheck/api.Grant]
instance en52 : Enters Try.prog 52 := Enters.of Try.func52 (by rfl) (by decide)   -- slices.IndexFunc[[]aircheck/api.Use,aircheck/api.Use]
instance en53 : Enters Try.prog 53 := Enters.of Try.func53 (by rfl) (by decide)   -- aircheck/rights.isAssignable$1
instance en54 : Enters Try.prog 54 := Enters.of Try.func54 (by rfl) (by decide)   -- aircheck/rights.sets$1
instance en55 : Enters Try.prog 55 := Enters.of Try.func55 (by rfl) (by decide)   -- aircheck/rights.sets$1$1
instance en56 : Enters Try.prog 56 := Enters.of Try.func56 (by rfl) (by decide)   -- slices.Clone[[]int,int]
instance en57 : Enters Try.prog 57 := Enters.of Try.func57 (by rfl) (by decide)   -- slices.IndexFunc[[]int,int]
structure GUse where
  Item : Int
  Acts : Int
  Region : Int
  At : Int
  deriving DecidableEq, Inhabited
def GUse.enc (x : GUse) : List Value := [.int .i64 x.Item, .int .i64 x.Acts, .int .i64 x.Region, .int .i64 x.At]
def fGUse : Flat GUse := ⟨4, GUse.enc, fun _ => rfl⟩
structure GSpell where
  From : Int
  To : Int
  deriving DecidableEq, Inhabited
def GSpell.enc (x : GSpell) : List Value := [.int .i64 x.From, .int .i64 x.To]
def fGSpell : Flat GSpell := ⟨2, GSpell.enc, fun _ => rfl⟩
structure GGrant where
  Item : Int
  Acts : Int
  Regions : Int
  Plays : Int
  Window : GSpell
  deriving DecidableEq, Inhabited
def GGrant.enc (x : GGrant) : List Value := [.int .i64 x.Item, .int .i64 x.Acts, .int .i64 x.Regions, .int .i64 x.Plays, .int .i64 x.Window.From, .int .i64 x.Window.To]
def fGGrant : Flat GGrant := ⟨6, GGrant.enc, fun _ => rfl⟩
structure GArr5Int where
  a0 : Int
  a1 : Int
  a2 : Int
  a3 : Int
  a4 : Int
  deriving DecidableEq, Inhabited
def GArr5Int.enc (x : GArr5Int) : List Value := [.int .i64 x.a0, .int .i64 x.a1, .int .i64 x.a2, .int .i64 x.a3, .int .i64 x.a4]
def fGArr5Int : Flat GArr5Int := ⟨5, GArr5Int.enc, fun _ => rfl⟩
structure GArr4Int where
  a0 : Int
  a1 : Int
  a2 : Int
  a3 : Int
  deriving DecidableEq, Inhabited
def GArr4Int.enc (x : GArr4Int) : List Value := [.int .i64 x.a0, .int .i64 x.a1, .int .i64 x.a2, .int .i64 x.a3]
def fGArr4Int : Flat GArr4Int := ⟨4, GArr4Int.enc, fun _ => rfl⟩
theorem bd46_0_1_2_3 {ρ : Operand → Value} {w : World} {d : Option Tmp} {ty : TypeId} {pos : String} {af : Array Edge} {g : Option (Nat × Bool)} {a0 a1 a2 a3 : Operand} {x0 : Int} {x1 : Int} {x2 : Int} {x3 : Int} (h0 : ρ a0 = .int .i64 x0) (h1 : ρ a1 = .int .i64 x1) (h2 : ρ a2 = .int .i64 x2) (h3 : ρ a3 = .int .i64 x3) : Runs Try.prog ρ ⟨d, .build 46 #[(0, a0), (1, a1), (2, a2), (3, a3)], ty, pos, af, g⟩ w (.ok (.value (.agg #[.int .i64 x0, .int .i64 x1, .int .i64 x2, .int .i64 x3])) w) := ⟨by
  have e : (Instr.build 46 #[(0, .int .i64 x0), (1, .int .i64 x1), (2, .int .i64 x2), (3, .int .i64 x3)]).run Try.prog w = .ok (.agg #[.int .i64 x0, .int .i64 x1, .int .i64 x2, .int .i64 x3]) w := by kernel_rfl
  simp only [execOp, List.map_toArray, List.map_cons, List.map_nil, h0, h1, h2, h3]
  exact run_bind e⟩
-- BUILD 46 bd46_0_1_2_3 4
theorem bd50_0_1 {ρ : Operand → Value} {w : World} {d : Option Tmp} {ty : TypeId} {pos : String} {af : Array Edge} {g : Option (Nat × Bool)} {a0 a1 : Operand} {x0 : Int} {x1 : Int} (h0 : ρ a0 = .int .i64 x0) (h1 : ρ a1 = .int .i64 x1) : Runs Try.prog ρ ⟨d, .build 50 #[(0, a0), (1, a1)], ty, pos, af, g⟩ w (.ok (.value (.agg #[.int .i64 x0, .int .i64 x1])) w) := ⟨by
  have e : (Instr.build 50 #[(0, .int .i64 x0), (1, .int .i64 x1)]).run Try.prog w = .ok (.agg #[.int .i64 x0, .int .i64 x1]) w := by kernel_rfl
  simp only [execOp, List.map_toArray, List.map_cons, List.map_nil, h0, h1]
  exact run_bind e⟩
-- BUILD 50 bd50_0_1 2
theorem bd52_ {ρ : Operand → Value} {w : World} {d : Option Tmp} {ty : TypeId} {pos : String} {af : Array Edge} {g : Option (Nat × Bool)}    : Runs Try.prog ρ ⟨d, .build 52 #[], ty, pos, af, g⟩ w (.ok (.value (.agg #[.int .i64 0, .int .i64 0, .int .i64 0, .int .i64 0, .int .i64 0, .int .i64 0])) w) := ⟨by
  have e : (Instr.build 52 #[]).run Try.prog w = .ok (.agg #[.int .i64 0, .int .i64 0, .int .i64 0, .int .i64 0, .int .i64 0, .int .i64 0]) w := by kernel_rfl
  simp only [execOp, List.map_toArray, List.map_cons, List.map_nil]
  exact run_bind e⟩
-- BUILD 52 bd52_ 0
theorem bd52_0_1_2_3 {ρ : Operand → Value} {w : World} {d : Option Tmp} {ty : TypeId} {pos : String} {af : Array Edge} {g : Option (Nat × Bool)} {a0 a1 a2 a3 : Operand} {x0 : Int} {x1 : Int} {x2 : Int} {x3 : Int} (h0 : ρ a0 = .int .i64 x0) (h1 : ρ a1 = .int .i64 x1) (h2 : ρ a2 = .int .i64 x2) (h3 : ρ a3 = .int .i64 x3) : Runs Try.prog ρ ⟨d, .build 52 #[(0, a0), (1, a1), (2, a2), (3, a3)], ty, pos, af, g⟩ w (.ok (.value (.agg #[.int .i64 x0, .int .i64 x1, .int .i64 x2, .int .i64 x3, .int .i64 0, .int .i64 0])) w) := ⟨by
  have e : (Instr.build 52 #[(0, .int .i64 x0), (1, .int .i64 x1), (2, .int .i64 x2), (3, .int .i64 x3)]).run Try.prog w = .ok (.agg #[.int .i64 x0, .int .i64 x1, .int .i64 x2, .int .i64 x3, .int .i64 0, .int .i64 0]) w := by kernel_rfl
  simp only [execOp, List.map_toArray, List.map_cons, List.map_nil, h0, h1, h2, h3]
  exact run_bind e⟩
-- BUILD 52 bd52_0_1_2_3 4
theorem bd52_0_1_2_3_4 {ρ : Operand → Value} {w : World} {d : Option Tmp} {ty : TypeId} {pos : String} {af : Array Edge} {g : Option (Nat × Bool)} {a0 a1 a2 a3 a4 : Operand} {x0 : Int} {x1 : Int} {x2 : Int} {x3 : Int} {x4 : Int} {x5 : Int} (h0 : ρ a0 = .int .i64 x0) (h1 : ρ a1 = .int .i64 x1) (h2 : ρ a2 = .int .i64 x2) (h3 : ρ a3 = .int .i64 x3) (h4 : ρ a4 = .agg #[.int .i64 x4, .int .i64 x5]) : Runs Try.prog ρ ⟨d, .build 52 #[(0, a0), (1, a1), (2, a2), (3, a3), (4, a4)], ty, pos, af, g⟩ w (.ok (.value (.agg #[.int .i64 x0, .int .i64 x1, .int .i64 x2, .int .i64 x3, .int .i64 x4, .int .i64 x5])) w) := ⟨by
  have e : (Instr.build 52 #[(0, .int .i64 x0), (1, .int .i64 x1), (2, .int .i64 x2), (3, .int .i64 x3), (4, .agg #[.int .i64 x4, .int .i64 x5])]).run Try.prog w = .ok (.agg #[.int .i64 x0, .int .i64 x1, .int .i64 x2, .int .i64 x3, .int .i64 x4, .int .i64 x5]) w := by kernel_rfl
  simp only [execOp, List.map_toArray, List.map_cons, List.map_nil, h0, h1, h2, h3, h4]
  exact run_bind e⟩
-- BUILD 52 bd52_0_1_2_3_4 5
theorem eqv50 {d : Nat} {w : World} {x0 y0 : Int} {x1 y1 : Int} (hd : 2 ≤ d) : (Op.equalIn d 50 (.agg #[.int .i64 x0, .int .i64 x1]) (.agg #[.int .i64 y0, .int .i64 y1])).run Try.prog w = .ok (decide ((GSpell.mk x0 x1) = (GSpell.mk y0 y1))) w := by
  have h := eqStruct (P := Try.prog) (T := 50) (w := w) (xs := #[.int .i64 x0, .int .i64 x1]) (ys := #[.int .i64 y0, .int .i64 y1]) Try.underlying50 (by kernel_rfl) (by omega : 1 ≤ d) (ef_cons rfl (part1 rfl) (part1 rfl) (eqInt (by omega)) (ef_cons rfl (part1 rfl) (part1 rfl) (eqInt (by omega)) ef_nil))
  rw [h]
  congr 1
  rw [Bool.eq_iff_iff]
  simp
theorem eqv52 {d : Nat} {w : World} {x0 y0 : Int} {x1 y1 : Int} {x2 y2 : Int} {x3 y3 : Int} {x4 y4 : Int} {x5 y5 : Int} (hd : 3 ≤ d) : (Op.equalIn d 52 (.agg #[.int .i64 x0, .int .i64 x1, .int .i64 x2, .int .i64 x3, .int .i64 x4, .int .i64 x5]) (.agg #[.int .i64 y0, .int .i64 y1, .int .i64 y2, .int .i64 y3, .int .i64 y4, .int .i64 y5])).run Try.prog w = .ok (decide ((GGrant.mk x0 x1 x2 x3 (GSpell.mk x4 x5)) = (GGrant.mk y0 y1 y2 y3 (GSpell.mk y4 y5)))) w := by
  have h := eqStruct (P := Try.prog) (T := 52) (w := w) (xs := #[.int .i64 x0, .int .i64 x1, .int .i64 x2, .int .i64 x3, .int .i64 x4, .int .i64 x5]) (ys := #[.int .i64 y0, .int .i64 y1, .int .i64 y2, .int .i64 y3, .int .i64 y4, .int .i64 y5]) Try.underlying52 (by kernel_rfl) (by omega : 1 ≤ d) (ef_cons rfl (part1 rfl) (part1 rfl) (eqInt (by omega)) (ef_cons rfl (part1 rfl) (part1 rfl) (eqInt (by omega)) (ef_cons rfl (part1 rfl) (part1 rfl) (eqInt (by omega)) (ef_cons rfl (part1 rfl) (part1 rfl) (eqInt (by omega)) (ef_cons rfl (partA rfl) (partA rfl) (eqv50 (by omega)) ef_nil)))))
  rw [h]
  congr 1
  rw [Bool.eq_iff_iff]
  simp
theorem eql52 {ρ : Operand → Value} {w : World} {d : Option Tmp} {ty T' : TypeId} {pos : String} {af : Array Edge} {g : Option (Nat × Bool)} {s t : Operand} {x0 y0 : Int} {x1 y1 : Int} {x2 y2 : Int} {x3 y3 : Int} {x4 y4 : Int} {x5 y5 : Int} (h1 : ρ s = .agg #[.int .i64 x0, .int .i64 x1, .int .i64 x2, .int .i64 x3, .int .i64 x4, .int .i64 x5]) (h2 : ρ t = .agg #[.int .i64 y0, .int .i64 y1, .int .i64 y2, .int .i64 y3, .int .i64 y4, .int .i64 y5]) :
    Runs Try.prog ρ ⟨d, .binOp .eql 52 s t T', ty, pos, af, g⟩ w (.ok (.value (.bool (decide ((GGrant.mk x0 x1 x2 x3 (GSpell.mk x4 x5)) = (GGrant.mk y0 y1 y2 y3 (GSpell.mk y4 y5)))))) w) := r_eqlAgg h1 h2 (by kernel_rfl) (eqv52 (by decide))
theorem neq52 {ρ : Operand → Value} {w : World} {d : Option Tmp} {ty T' : TypeId} {pos : String} {af : Array Edge} {g : Option (Nat × Bool)} {s t : Operand} {x0 y0 : Int} {x1 y1 : Int} {x2 y2 : Int} {x3 y3 : Int} {x4 y4 : Int} {x5 y5 : Int} (h1 : ρ s = .agg #[.int .i64 x0, .int .i64 x1, .int .i64 x2, .int .i64 x3, .int .i64 x4, .int .i64 x5]) (h2 : ρ t = .agg #[.int .i64 y0, .int .i64 y1, .int .i64 y2, .int .i64 y3, .int .i64 y4, .int .i64 y5]) :
    Runs Try.prog ρ ⟨d, .binOp .neq 52 s t T', ty, pos, af, g⟩ w (.ok (.value (.bool (!decide ((GGrant.mk x0 x1 x2 x3 (GSpell.mk x4 x5)) = (GGrant.mk y0 y1 y2 y3 (GSpell.mk y4 y5)))))) w) := r_neqAgg h1 h2 (by kernel_rfl) (eqv52 (by decide))

end Go.Proofs.Ytfdjnadopniaeaa

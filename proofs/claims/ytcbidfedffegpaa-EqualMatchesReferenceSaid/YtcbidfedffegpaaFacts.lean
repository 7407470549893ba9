/- What the dump says of its types and functions: written by facts.py (a program of this claim). -/
import Derived.Test.YtcbidfedffegpaaProg
import Derived.Test.YtcbidfedffegpaaGxEqS
import Derived.KernelRfl
namespace Go.Proofs.Ytcbidfedffegpaa
open Go Go.Gx
set_option linter.unusedSimpArgs false
set_option linter.unusedVariables false

instance tf1 : TF Try.prog 1 false 1 := ⟨Try.isAgg1, Try.sizeOf1⟩
instance ti1 : TI Try.prog 1 (.nilFunc) 1 8 := TI.of (by kernel_rfl)
instance tf2 : TF Try.prog 2 false 1 := ⟨Try.isAgg2, Try.sizeOf2⟩
instance ti2 : TI Try.prog 2 (.int .i64 0) 1 8 := TI.of (by kernel_rfl)
instance is2 : IsInt Try.prog 2 .i64 := ⟨Try.underlying2⟩
instance tf3 : TF Try.prog 3 false 1 := ⟨Try.isAgg3, Try.sizeOf3⟩
instance ti3 : TI Try.prog 3 (.int .i64 0) 1 8 := TI.of (by kernel_rfl)
instance is3 : IsInt Try.prog 3 .i64 := ⟨Try.underlying3⟩
instance tf4 : TF Try.prog 4 false 1 := ⟨Try.isAgg4, Try.sizeOf4⟩
instance ti4 : TI Try.prog 4 (.bool false) 1 1 := TI.of (by kernel_rfl)
instance is4 : IsBool Try.prog 4 := ⟨Try.underlying4⟩
instance tf5 : TF Try.prog 5 false 1 := ⟨Try.isAgg5, Try.sizeOf5⟩
instance ti5 : TI Try.prog 5 (.int .u8 0) 1 1 := TI.of (by kernel_rfl)
instance is5 : IsInt Try.prog 5 .u8 := ⟨Try.underlying5⟩
instance tf9 : TF Try.prog 9 false 1 := ⟨Try.isAgg9, Try.sizeOf9⟩
instance ti9 : TI Try.prog 9 (.string ⟨#[]⟩) 1 16 := TI.of (by kernel_rfl)
instance is9 : IsStr Try.prog 9 := ⟨Try.underlying9⟩
instance tf12 : TF Try.prog 12 false 1 := ⟨Try.isAgg12, Try.sizeOf12⟩
instance ti12 : TI Try.prog 12 (.int .u64 0) 1 8 := TI.of (by kernel_rfl)
instance is12 : IsInt Try.prog 12 .u64 := ⟨Try.underlying12⟩
instance tf21 : TF Try.prog 21 false 1 := ⟨Try.isAgg21, Try.sizeOf21⟩
instance ti21 : TI Try.prog 21 (.int .i32 0) 1 4 := TI.of (by kernel_rfl)
instance is21 : IsInt Try.prog 21 .i32 := ⟨Try.underlying21⟩
instance tf22 : TF Try.prog 22 false 1 := ⟨Try.isAgg22, Try.sizeOf22⟩
instance ti22 : TI Try.prog 22 (.slice none 0 0) 1 24 := TI.of (by kernel_rfl)
instance is22 : IsSlice Try.prog 22 49 := ⟨Try.underlying22⟩
instance tf23 : TF Try.prog 23 false 1 := ⟨Try.isAgg23, Try.sizeOf23⟩
instance ti23 : TI Try.prog 23 (.slice none 0 0) 1 24 := TI.of (by kernel_rfl)
instance is23 : IsSlice Try.prog 23 53 := ⟨Try.underlying23⟩
instance tf24 : TF Try.prog 24 false 1 := ⟨Try.isAgg24, Try.sizeOf24⟩
instance ti24 : TI Try.prog 24 (.nilFunc) 1 8 := TI.of (by kernel_rfl)
instance tf25 : TF Try.prog 25 false 1 := ⟨Try.isAgg25, Try.sizeOf25⟩
instance ti25 : TI Try.prog 25 (.nilFunc) 1 8 := TI.of (by kernel_rfl)
instance tf26 : TF Try.prog 26 false 1 := ⟨Try.isAgg26, Try.sizeOf26⟩
instance ti26 : TI Try.prog 26 (.slice none 0 0) 1 24 := TI.of (by kernel_rfl)
instance is26 : IsSlice Try.prog 26 22 := ⟨Try.underlying26⟩
instance tf27 : TF Try.prog 27 false 1 := ⟨Try.isAgg27, Try.sizeOf27⟩
instance ti27 : TI Try.prog 27 (.nilFunc) 1 8 := TI.of (by kernel_rfl)
instance tf28 : TF Try.prog 28 false 1 := ⟨Try.isAgg28, Try.sizeOf28⟩
instance ti28 : TI Try.prog 28 (.slice none 0 0) 1 24 := TI.of (by kernel_rfl)
instance is28 : IsSlice Try.prog 28 3 := ⟨Try.underlying28⟩
instance tf29 : TF Try.prog 29 false 1 := ⟨Try.isAgg29, Try.sizeOf29⟩
instance ti29 : TI Try.prog 29 (.nilFunc) 1 8 := TI.of (by kernel_rfl)
instance tf30 : TF Try.prog 30 false 1 := ⟨Try.isAgg30, Try.sizeOf30⟩
instance ti30 : TI Try.prog 30 (.nilFunc) 1 8 := TI.of (by kernel_rfl)
instance tf31 : TF Try.prog 31 false 1 := ⟨Try.isAgg31, Try.sizeOf31⟩
instance ti31 : TI Try.prog 31 (.slice none 0 0) 1 24 := TI.of (by kernel_rfl)
instance is31 : IsSlice Try.prog 31 39 := ⟨Try.underlying31⟩
instance tf32 : TF Try.prog 32 false 1 := ⟨Try.isAgg32, Try.sizeOf32⟩
instance ti32 : TI Try.prog 32 (.int .i64 0) 1 8 := TI.of (by kernel_rfl)
instance is32 : IsInt Try.prog 32 .i64 := ⟨Try.underlying32⟩
instance tf34 : TF Try.prog 34 false 1 := ⟨Try.isAgg34, Try.sizeOf34⟩
instance ti34 : TI Try.prog 34 (.nilFunc) 1 8 := TI.of (by kernel_rfl)
instance tf35 : TF Try.prog 35 false 1 := ⟨Try.isAgg35, Try.sizeOf35⟩
instance ti35 : TI Try.prog 35 (.nilFunc) 1 8 := TI.of (by kernel_rfl)
instance tf37 : TF Try.prog 37 false 1 := ⟨Try.isAgg37, Try.sizeOf37⟩
instance ti37 : TI Try.prog 37 (.nilFunc) 1 8 := TI.of (by kernel_rfl)
instance tf38 : TF Try.prog 38 true 4 := ⟨Try.isAgg38, Try.sizeOf38⟩
instance ti38 : TI Try.prog 38 (.agg #[.int .i64 0, .int .i64 0, .int .i64 0, .int .i64 0]) 4 32 := TI.of (by kernel_rfl)
instance tf39 : TF Try.prog 39 true 4 := ⟨Try.isAgg39, Try.sizeOf39⟩
instance ti39 : TI Try.prog 39 (.agg #[.int .i64 0, .int .i64 0, .int .i64 0, .int .i64 0]) 4 32 := TI.of (by kernel_rfl)
instance tf41 : TF Try.prog 41 false 1 := ⟨Try.isAgg41, Try.sizeOf41⟩
instance ti41 : TI Try.prog 41 (.nilFunc) 1 8 := TI.of (by kernel_rfl)
instance tf42 : TF Try.prog 42 false 1 := ⟨Try.isAgg42, Try.sizeOf42⟩
instance ti42 : TI Try.prog 42 (.nilFunc) 1 8 := TI.of (by kernel_rfl)
instance tf43 : TF Try.prog 43 false 1 := ⟨Try.isAgg43, Try.sizeOf43⟩
instance ti43 : TI Try.prog 43 (.nilFunc) 1 8 := TI.of (by kernel_rfl)
instance tf44 : TF Try.prog 44 false 1 := ⟨Try.isAgg44, Try.sizeOf44⟩
instance ti44 : TI Try.prog 44 (.nilFunc) 1 8 := TI.of (by kernel_rfl)
instance tf45 : TF Try.prog 45 false 1 := ⟨Try.isAgg45, Try.sizeOf45⟩
instance ti45 : TI Try.prog 45 (.nilFunc) 1 8 := TI.of (by kernel_rfl)
instance tf46 : TF Try.prog 46 false 1 := ⟨Try.isAgg46, Try.sizeOf46⟩
instance ti46 : TI Try.prog 46 (.slice none 0 0) 1 24 := TI.of (by kernel_rfl)
instance is46 : IsSlice Try.prog 46 47 := ⟨Try.underlying46⟩
instance tf47 : TF Try.prog 47 true 2 := ⟨Try.isAgg47, Try.sizeOf47⟩
instance ti47 : TI Try.prog 47 (.agg #[.int .i64 0, .int .i64 0]) 2 16 := TI.of (by kernel_rfl)
instance is47 : IsArr Try.prog 47 2 3 := ⟨Try.underlying47⟩
instance tf48 : TF Try.prog 48 true 4 := ⟨Try.isAgg48, Try.sizeOf48⟩
instance ti48 : TI Try.prog 48 (.agg #[.int .i64 0, .int .i64 0, .int .i64 0, .int .i64 0]) 4 32 := TI.of (by kernel_rfl)
instance tf49 : TF Try.prog 49 true 4 := ⟨Try.isAgg49, Try.sizeOf49⟩
instance ti49 : TI Try.prog 49 (.agg #[.int .i64 0, .int .i64 0, .int .i64 0, .int .i64 0]) 4 32 := TI.of (by kernel_rfl)
instance tf50 : TF Try.prog 50 false 1 := ⟨Try.isAgg50, Try.sizeOf50⟩
instance ti50 : TI Try.prog 50 (.nilFunc) 1 8 := TI.of (by kernel_rfl)
instance tf51 : TF Try.prog 51 false 1 := ⟨Try.isAgg51, Try.sizeOf51⟩
instance ti51 : TI Try.prog 51 (.nilFunc) 1 8 := TI.of (by kernel_rfl)
instance tf52 : TF Try.prog 52 false 1 := ⟨Try.isAgg52, Try.sizeOf52⟩
instance ti52 : TI Try.prog 52 (.nilFunc) 1 8 := TI.of (by kernel_rfl)
instance tf53 : TF Try.prog 53 true 4 := ⟨Try.isAgg53, Try.sizeOf53⟩
instance ti53 : TI Try.prog 53 (.agg #[.int .i64 0, .int .i64 0, .int .i64 0, .int .i64 0]) 4 32 := TI.of (by kernel_rfl)
instance is53 : IsArr Try.prog 53 4 3 := ⟨Try.underlying53⟩
instance tf54 : TF Try.prog 54 false 1 := ⟨Try.isAgg54, Try.sizeOf54⟩
instance ti54 : TI Try.prog 54 (.nilFunc) 1 8 := TI.of (by kernel_rfl)
instance tf55 : TF Try.prog 55 false 1 := ⟨Try.isAgg55, Try.sizeOf55⟩
instance ti55 : TI Try.prog 55 (.pointer none) 1 8 := TI.of (by kernel_rfl)
instance tf57 : TF Try.prog 57 false 1 := ⟨Try.isAgg57, Try.sizeOf57⟩
instance ti57 : TI Try.prog 57 (.nilFunc) 1 8 := TI.of (by kernel_rfl)
instance tf58 : TF Try.prog 58 false 1 := ⟨Try.isAgg58, Try.sizeOf58⟩
instance ti58 : TI Try.prog 58 (.nilFunc) 1 8 := TI.of (by kernel_rfl)
instance tf59 : TF Try.prog 59 false 1 := ⟨Try.isAgg59, Try.sizeOf59⟩
instance ti59 : TI Try.prog 59 (.slice none 0 0) 1 24 := TI.of (by kernel_rfl)
instance is59 : IsSlice Try.prog 59 31 := ⟨Try.underlying59⟩
instance tf60 : TF Try.prog 60 true 8 := ⟨Try.isAgg60, Try.sizeOf60⟩
instance ti60 : TI Try.prog 60 (.agg #[.int .i64 0, .int .i64 0, .int .i64 0, .int .i64 0, .int .i64 0, .int .i64 0, .int .i64 0, .int .i64 0]) 8 64 := TI.of (by kernel_rfl)
instance is60 : IsArr Try.prog 60 8 3 := ⟨Try.underlying60⟩
instance tf61 : TF Try.prog 61 true 8 := ⟨Try.isAgg61, Try.sizeOf61⟩
instance ti61 : TI Try.prog 61 (.agg #[.int .i64 0, .int .i64 0, .int .i64 0, .int .i64 0, .int .i64 0, .int .i64 0, .int .i64 0, .int .i64 0]) 8 64 := TI.of (by kernel_rfl)
instance tf62 : TF Try.prog 62 true 8 := ⟨Try.isAgg62, Try.sizeOf62⟩
instance ti62 : TI Try.prog 62 (.agg #[.int .i64 0, .int .i64 0, .int .i64 0, .int .i64 0, .int .i64 0, .int .i64 0, .int .i64 0, .int .i64 0]) 8 64 := TI.of (by kernel_rfl)
instance tf63 : TF Try.prog 63 true 8 := ⟨Try.isAgg63, Try.sizeOf63⟩
instance ti63 : TI Try.prog 63 (.agg #[.slice none 0 0, .slice none 0 0, .slice none 0 0, .slice none 0 0, .slice none 0 0, .slice none 0 0, .slice none 0 0, .slice none 0 0]) 8 192 := TI.of (by kernel_rfl)
instance is63 : IsArr Try.prog 63 8 31 := ⟨Try.underlying63⟩
instance tf64 : TF Try.prog 64 true 17 := ⟨Try.isAgg64, Try.sizeOf64⟩
instance ti64 : TI Try.prog 64 (.agg #[.int .i64 0, .int .i64 0, .int .i64 0, .int .i64 0, .int .i64 0, .int .i64 0, .int .i64 0, .int .i64 0, .int .i64 0, .slice none 0 0, .slice none 0 0, .slice none 0 0, .slice none 0 0, .slice none 0 0, .slice none 0 0, .slice none 0 0, .slice none 0 0]) 17 264 := TI.of (by kernel_rfl)
instance tf65 : TF Try.prog 65 true 17 := ⟨Try.isAgg65, Try.sizeOf65⟩
instance ti65 : TI Try.prog 65 (.agg #[.int .i64 0, .int .i64 0, .int .i64 0, .int .i64 0, .int .i64 0, .int .i64 0, .int .i64 0, .int .i64 0, .int .i64 0, .slice none 0 0, .slice none 0 0, .slice none 0 0, .slice none 0 0, .slice none 0 0, .slice none 0 0, .slice none 0 0, .slice none 0 0]) 17 264 := TI.of (by kernel_rfl)
instance tf66 : TF Try.prog 66 false 1 := ⟨Try.isAgg66, Try.sizeOf66⟩
instance ti66 : TI Try.prog 66 (.nilFunc) 1 8 := TI.of (by kernel_rfl)
instance tf67 : TF Try.prog 67 false 1 := ⟨Try.isAgg67, Try.sizeOf67⟩
instance ti67 : TI Try.prog 67 (.nilFunc) 1 8 := TI.of (by kernel_rfl)
instance tf68 : TF Try.prog 68 false 1 := ⟨Try.isAgg68, Try.sizeOf68⟩
instance ti68 : TI Try.prog 68 (.nilFunc) 1 8 := TI.of (by kernel_rfl)
instance tf69 : TF Try.prog 69 false 1 := ⟨Try.isAgg69, Try.sizeOf69⟩
instance ti69 : TI Try.prog 69 (.nilFunc) 1 8 := TI.of (by kernel_rfl)
instance tf70 : TF Try.prog 70 false 1 := ⟨Try.isAgg70, Try.sizeOf70⟩
instance ti70 : TI Try.prog 70 (.nilFunc) 1 8 := TI.of (by kernel_rfl)
instance tf71 : TF Try.prog 71 false 1 := ⟨Try.isAgg71, Try.sizeOf71⟩
instance ti71 : TI Try.prog 71 (.nilFunc) 1 8 := TI.of (by kernel_rfl)
instance tf72 : TF Try.prog 72 false 1 := ⟨Try.isAgg72, Try.sizeOf72⟩
instance ti72 : TI Try.prog 72 (.nilFunc) 1 8 := TI.of (by kernel_rfl)
instance tf73 : TF Try.prog 73 false 1 := ⟨Try.isAgg73, Try.sizeOf73⟩
instance ti73 : TI Try.prog 73 (.nilFunc) 1 8 := TI.of (by kernel_rfl)
instance tf74 : TF Try.prog 74 false 1 := ⟨Try.isAgg74, Try.sizeOf74⟩
instance ti74 : TI Try.prog 74 (.nilFunc) 1 8 := TI.of (by kernel_rfl)
instance tf75 : TF Try.prog 75 false 1 := ⟨Try.isAgg75, Try.sizeOf75⟩
instance ti75 : TI Try.prog 75 (.nilFunc) 1 8 := TI.of (by kernel_rfl)
instance tf76 : TF Try.prog 76 false 1 := ⟨Try.isAgg76, Try.sizeOf76⟩
instance ti76 : TI Try.prog 76 (.int .u64 0) 1 8 := TI.of (by kernel_rfl)
instance is76 : IsInt Try.prog 76 .u64 := ⟨Try.underlying76⟩
instance tf77 : TF Try.prog 77 false 1 := ⟨Try.isAgg77, Try.sizeOf77⟩
instance ti77 : TI Try.prog 77 (.nilFunc) 1 8 := TI.of (by kernel_rfl)
instance tf78 : TF Try.prog 78 false 1 := ⟨Try.isAgg78, Try.sizeOf78⟩
instance ti78 : TI Try.prog 78 (.nilFunc) 1 8 := TI.of (by kernel_rfl)
instance tf79 : TF Try.prog 79 false 1 := ⟨Try.isAgg79, Try.sizeOf79⟩
instance ti79 : TI Try.prog 79 (.nilFunc) 1 8 := TI.of (by kernel_rfl)
instance tf80 : TF Try.prog 80 false 1 := ⟨Try.isAgg80, Try.sizeOf80⟩
instance ti80 : TI Try.prog 80 (.pointer none) 1 8 := TI.of (by kernel_rfl)
instance tf81 : TF Try.prog 81 false 1 := ⟨Try.isAgg81, Try.sizeOf81⟩
instance ti81 : TI Try.prog 81 (.nilFunc) 1 8 := TI.of (by kernel_rfl)
instance tf82 : TF Try.prog 82 false 1 := ⟨Try.isAgg82, Try.sizeOf82⟩
instance ti82 : TI Try.prog 82 (.int .i64 0) 1 8 := TI.of (by kernel_rfl)
instance is82 : IsInt Try.prog 82 .i64 := ⟨Try.underlying82⟩
instance tf84 : TF Try.prog 84 false 1 := ⟨Try.isAgg84, Try.sizeOf84⟩
instance ti84 : TI Try.prog 84 (.nilFunc) 1 8 := TI.of (by kernel_rfl)
instance tf85 : TF Try.prog 85 false 1 := ⟨Try.isAgg85, Try.sizeOf85⟩
instance ti85 : TI Try.prog 85 (.nilFunc) 1 8 := TI.of (by kernel_rfl)
instance tf86 : TF Try.prog 86 false 1 := ⟨Try.isAgg86, Try.sizeOf86⟩
instance ti86 : TI Try.prog 86 (.nilFunc) 1 8 := TI.of (by kernel_rfl)
instance tf88 : TF Try.prog 88 false 1 := ⟨Try.isAgg88, Try.sizeOf88⟩
instance ti88 : TI Try.prog 88 (.nilFunc) 1 8 := TI.of (by kernel_rfl)
instance tf89 : TF Try.prog 89 false 1 := ⟨Try.isAgg89, Try.sizeOf89⟩
instance ti89 : TI Try.prog 89 (.nilFunc) 1 8 := TI.of (by kernel_rfl)
instance tf90 : TF Try.prog 90 false 1 := ⟨Try.isAgg90, Try.sizeOf90⟩
instance ti90 : TI Try.prog 90 (.int .u32 0) 1 4 := TI.of (by kernel_rfl)
instance is90 : IsInt Try.prog 90 .u32 := ⟨Try.underlying90⟩
instance tf91 : TF Try.prog 91 false 1 := ⟨Try.isAgg91, Try.sizeOf91⟩
instance ti91 : TI Try.prog 91 (.nilFunc) 1 8 := TI.of (by kernel_rfl)
instance tf92 : TF Try.prog 92 false 1 := ⟨Try.isAgg92, Try.sizeOf92⟩
instance ti92 : TI Try.prog 92 (.int .u64 0) 1 8 := TI.of (by kernel_rfl)
instance is92 : IsInt Try.prog 92 .u64 := ⟨Try.underlying92⟩
instance tf93 : TF Try.prog 93 false 1 := ⟨Try.isAgg93, Try.sizeOf93⟩
instance ti93 : TI Try.prog 93 (.pointer none) 1 8 := TI.of (by kernel_rfl)
instance tf94 : TF Try.prog 94 false 1 := ⟨Try.isAgg94, Try.sizeOf94⟩
instance ti94 : TI Try.prog 94 (.int .u64 0) 1 8 := TI.of (by kernel_rfl)
instance is94 : IsInt Try.prog 94 .u64 := ⟨Try.underlying94⟩
instance tf95 : TF Try.prog 95 false 1 := ⟨Try.isAgg95, Try.sizeOf95⟩
instance ti95 : TI Try.prog 95 (.nilFunc) 1 8 := TI.of (by kernel_rfl)
instance tf96 : TF Try.prog 96 false 1 := ⟨Try.isAgg96, Try.sizeOf96⟩
instance ti96 : TI Try.prog 96 (.nilFunc) 1 8 := TI.of (by kernel_rfl)
instance tf97 : TF Try.prog 97 false 1 := ⟨Try.isAgg97, Try.sizeOf97⟩
instance ti97 : TI Try.prog 97 (.nilFunc) 1 8 := TI.of (by kernel_rfl)
instance tf98 : TF Try.prog 98 false 1 := ⟨Try.isAgg98, Try.sizeOf98⟩
instance ti98 : TI Try.prog 98 (.pointer none) 1 8 := TI.of (by kernel_rfl)
instance tf99 : TF Try.prog 99 false 1 := ⟨Try.isAgg99, Try.sizeOf99⟩
instance ti99 : TI Try.prog 99 (.nilFunc) 1 8 := TI.of (by kernel_rfl)
instance tf100 : TF Try.prog 100 false 1 := ⟨Try.isAgg100, Try.sizeOf100⟩
instance ti100 : TI Try.prog 100 (.pointer none) 1 8 := TI.of (by kernel_rfl)
instance tf102 : TF Try.prog 102 false 1 := ⟨Try.isAgg102, Try.sizeOf102⟩
instance ti102 : TI Try.prog 102 (.nilFunc) 1 8 := TI.of (by kernel_rfl)
instance tf103 : TF Try.prog 103 false 1 := ⟨Try.isAgg103, Try.sizeOf103⟩
instance ti103 : TI Try.prog 103 (.nilFunc) 1 8 := TI.of (by kernel_rfl)
instance tf109 : TF Try.prog 109 false 1 := ⟨Try.isAgg109, Try.sizeOf109⟩
instance ti109 : TI Try.prog 109 (.nilFunc) 1 8 := TI.of (by kernel_rfl)
instance tf112 : TF Try.prog 112 false 1 := ⟨Try.isAgg112, Try.sizeOf112⟩
instance ti112 : TI Try.prog 112 (.nilFunc) 1 8 := TI.of (by kernel_rfl)
instance tf113 : TF Try.prog 113 false 1 := ⟨Try.isAgg113, Try.sizeOf113⟩
instance ti113 : TI Try.prog 113 (.pointer none) 1 8 := TI.of (by kernel_rfl)
instance fa38_0 : FA Try.prog 38 0 0 := ⟨fun _ _ => by kernel_rfl⟩
instance fv38_0 : FV Try.prog 38 0 0 := ⟨fun cs v w h => by simp [Instr.field, run_underlying' Try.underlying38, asAgg, part, Try.isAgg3, h]⟩
instance fa38_1 : FA Try.prog 38 1 1 := ⟨fun _ _ => by kernel_rfl⟩
instance fv38_1 : FV Try.prog 38 1 1 := ⟨fun cs v w h => by simp [Instr.field, run_underlying' Try.underlying38, asAgg, part, Try.isAgg3, h]⟩
instance fa38_2 : FA Try.prog 38 2 2 := ⟨fun _ _ => by kernel_rfl⟩
instance fv38_2 : FV Try.prog 38 2 2 := ⟨fun cs v w h => by simp [Instr.field, run_underlying' Try.underlying38, asAgg, part, Try.isAgg3, h]⟩
instance fa38_3 : FA Try.prog 38 3 3 := ⟨fun _ _ => by kernel_rfl⟩
instance fv38_3 : FV Try.prog 38 3 3 := ⟨fun cs v w h => by simp [Instr.field, run_underlying' Try.underlying38, asAgg, part, Try.isAgg3, h]⟩
instance fa39_0 : FA Try.prog 39 0 0 := ⟨fun _ _ => by kernel_rfl⟩
instance fv39_0 : FV Try.prog 39 0 0 := ⟨fun cs v w h => by simp [Instr.field, run_underlying' Try.underlying39, asAgg, part, Try.isAgg3, h]⟩
instance fa39_1 : FA Try.prog 39 1 1 := ⟨fun _ _ => by kernel_rfl⟩
instance fv39_1 : FV Try.prog 39 1 1 := ⟨fun cs v w h => by simp [Instr.field, run_underlying' Try.underlying39, asAgg, part, Try.isAgg3, h]⟩
instance fa39_2 : FA Try.prog 39 2 2 := ⟨fun _ _ => by kernel_rfl⟩
instance fv39_2 : FV Try.prog 39 2 2 := ⟨fun cs v w h => by simp [Instr.field, run_underlying' Try.underlying39, asAgg, part, Try.isAgg3, h]⟩
instance fa39_3 : FA Try.prog 39 3 3 := ⟨fun _ _ => by kernel_rfl⟩
instance fv39_3 : FV Try.prog 39 3 3 := ⟨fun cs v w h => by simp [Instr.field, run_underlying' Try.underlying39, asAgg, part, Try.isAgg3, h]⟩
instance fa48_0 : FA Try.prog 48 0 0 := ⟨fun _ _ => by kernel_rfl⟩
instance fv48_0 : FV Try.prog 48 0 0 := ⟨fun cs v w h => by simp [Instr.field, run_underlying' Try.underlying48, asAgg, part, Try.isAgg3, h]⟩
instance fa48_1 : FA Try.prog 48 1 1 := ⟨fun _ _ => by kernel_rfl⟩
instance fv48_1 : FV Try.prog 48 1 1 := ⟨fun cs v w h => by simp [Instr.field, run_underlying' Try.underlying48, asAgg, part, Try.isAgg3, h]⟩
instance fa48_2 : FA Try.prog 48 2 2 := ⟨fun _ _ => by kernel_rfl⟩
instance fv48_2 : FV Try.prog 48 2 2 := ⟨fun cs v w h => by simp [Instr.field, run_underlying' Try.underlying48, asAgg, part, Try.isAgg3, h]⟩
instance fa48_3 : FA Try.prog 48 3 3 := ⟨fun _ _ => by kernel_rfl⟩
instance fv48_3 : FV Try.prog 48 3 3 := ⟨fun cs v w h => by simp [Instr.field, run_underlying' Try.underlying48, asAgg, part, Try.isAgg3, h]⟩
instance fa49_0 : FA Try.prog 49 0 0 := ⟨fun _ _ => by kernel_rfl⟩
instance fv49_0 : FV Try.prog 49 0 0 := ⟨fun cs v w h => by simp [Instr.field, run_underlying' Try.underlying49, asAgg, part, Try.isAgg3, h]⟩
instance fa49_1 : FA Try.prog 49 1 1 := ⟨fun _ _ => by kernel_rfl⟩
instance fv49_1 : FV Try.prog 49 1 1 := ⟨fun cs v w h => by simp [Instr.field, run_underlying' Try.underlying49, asAgg, part, Try.isAgg3, h]⟩
instance fa49_2 : FA Try.prog 49 2 2 := ⟨fun _ _ => by kernel_rfl⟩
instance fv49_2 : FV Try.prog 49 2 2 := ⟨fun cs v w h => by simp [Instr.field, run_underlying' Try.underlying49, asAgg, part, Try.isAgg3, h]⟩
instance fa49_3 : FA Try.prog 49 3 3 := ⟨fun _ _ => by kernel_rfl⟩
instance fv49_3 : FV Try.prog 49 3 3 := ⟨fun cs v w h => by simp [Instr.field, run_underlying' Try.underlying49, asAgg, part, Try.isAgg3, h]⟩
instance fa61_0 : FA Try.prog 61 0 0 := ⟨fun _ _ => by kernel_rfl⟩
instance fv61_0 : FVA Try.prog 61 0 0 8 := ⟨fun cs w => by simp [Instr.field, run_underlying' Try.underlying61, asAgg, part, Try.isAgg60, Try.sizeOf60]⟩
instance fa62_0 : FA Try.prog 62 0 0 := ⟨fun _ _ => by kernel_rfl⟩
instance fv62_0 : FVA Try.prog 62 0 0 8 := ⟨fun cs w => by simp [Instr.field, run_underlying' Try.underlying62, asAgg, part, Try.isAgg60, Try.sizeOf60]⟩
instance fa64_0 : FA Try.prog 64 0 0 := ⟨fun _ _ => by kernel_rfl⟩
instance fv64_0 : FVA Try.prog 64 0 0 8 := ⟨fun cs w => by simp [Instr.field, run_underlying' Try.underlying64, asAgg, part, Try.isAgg62, Try.sizeOf62]⟩
instance fa64_1 : FA Try.prog 64 1 8 := ⟨fun _ _ => by kernel_rfl⟩
instance fv64_1 : FV Try.prog 64 1 8 := ⟨fun cs v w h => by simp [Instr.field, run_underlying' Try.underlying64, asAgg, part, Try.isAgg3, h]⟩
instance fa64_2 : FA Try.prog 64 2 9 := ⟨fun _ _ => by kernel_rfl⟩
instance fv64_2 : FVA Try.prog 64 2 9 8 := ⟨fun cs w => by simp [Instr.field, run_underlying' Try.underlying64, asAgg, part, Try.isAgg63, Try.sizeOf63]⟩
instance fa65_0 : FA Try.prog 65 0 0 := ⟨fun _ _ => by kernel_rfl⟩
instance fv65_0 : FVA Try.prog 65 0 0 8 := ⟨fun cs w => by simp [Instr.field, run_underlying' Try.underlying65, asAgg, part, Try.isAgg62, Try.sizeOf62]⟩
instance fa65_1 : FA Try.prog 65 1 8 := ⟨fun _ _ => by kernel_rfl⟩
instance fv65_1 : FV Try.prog 65 1 8 := ⟨fun cs v w h => by simp [Instr.field, run_underlying' Try.underlying65, asAgg, part, Try.isAgg3, h]⟩
instance fa65_2 : FA Try.prog 65 2 9 := ⟨fun _ _ => by kernel_rfl⟩
instance fv65_2 : FVA Try.prog 65 2 9 8 := ⟨fun cs w => by simp [Instr.field, run_underlying' Try.underlying65, asAgg, part, Try.isAgg63, Try.sizeOf63]⟩
instance en3 : Enters Try.prog 3 := Enters.of Try.func3 (by rfl) (by decide)   -- aircheck/airchecklaw13.EqualMatchesReference
instance en4 : Enters Try.prog 4 := Enters.of Try.func4 (by rfl) (by decide)   -- aircheck/airchecklaw13.EqualLevels
instance en5 : Enters Try.prog 5 := Enters.of Try.func5 (by rfl) (by decide)   -- aircheck/airchecklaw13.EqualOrders
instance en6 : Enters Try.prog 6 := Enters.of Try.func6 (by rfl) (by decide)   -- aircheck/airchecklaw13.EqualOldest
instance en7 : Enters Try.prog 7 := Enters.of Try.func7 (by rfl) (by decide)   -- aircheck/airchecklaw13.EqualServes
instance en8 : Enters Try.prog 8 := Enters.of Try.func8 (by rfl) (by decide)   -- aircheck/airchecklaw13.EqualLater
instance en9 : Enters Try.prog 9 := Enters.of Try.func9 (by rfl) (by decide)   -- aircheck/airchecklaw13.EqualDivides
instance en10 : Enters Try.prog 10 := Enters.of Try.func10 (by rfl) (by decide)   -- aircheck/airchecklaw13.sane
instance en11 : Enters Try.prog 11 := Enters.of Try.func11 (by rfl) (by decide)   -- aircheck/aircheckref13.Made
instance en12 : Enters Try.prog 12 := Enters.of Try.func12 (by rfl) (by decide)   -- aircheck/aircheckref13.Count
instance en13 : Enters Try.prog 13 := Enters.of Try.func13 (by rfl) (by decide)   -- aircheck/airchecklaw13.pick
instance en14 : Enters Try.prog 14 := Enters.of Try.func14 (by rfl) (by decide)   -- aircheck/equal.Valid
instance en15 : Enters Try.prog 15 := Enters.of Try.func15 (by rfl) (by decide)   -- aircheck/aircheckref13.Valid
instance en16 : Enters Try.prog 16 := Enters.of Try.func16 (by rfl) (by decide)   -- aircheck/equal.Claims
instance en17 : Enters Try.prog 17 := Enters.of Try.func17 (by rfl) (by decide)   -- aircheck/aircheckref13.Claims
instance en18 : Enters Try.prog 18 := Enters.of Try.func18 (by rfl) (by decide)   -- aircheck/equal.Overdue
instance en19 : Enters Try.prog 19 := Enters.of Try.func19 (by rfl) (by decide)   -- aircheck/aircheckref13.Overdue
instance en20 : Enters Try.prog 20 := Enters.of Try.func20 (by rfl) (by decide)   -- aircheck/aircheckref13.Same
instance en21 : Enters Try.prog 21 := Enters.of Try.func21 (by rfl) (by decide)   -- aircheck/equal.Owed
instance en22 : Enters Try.prog 22 := Enters.of Try.func22 (by rfl) (by decide)   -- aircheck/aircheckref13.Owed
instance en23 : Enters Try.prog 23 := Enters.of Try.func23 (by rfl) (by decide)   -- aircheck/equal.Totals
instance en24 : Enters Try.prog 24 := Enters.of Try.func24 (by rfl) (by decide)   -- aircheck/aircheckref13.Totals
instance en25 : Enters Try.prog 25 := Enters.of Try.func25 (by rfl) (by decide)   -- aircheck/equal.Next
instance en26 : Enters Try.prog 26 := Enters.of Try.func26 (by rfl) (by decide)   -- aircheck/aircheckref13.Next
instance en27 : Enters Try.prog 27 := Enters.of Try.func27 (by rfl) (by decide)   -- aircheck/aircheckref13.Ints
instance en28 : Enters Try.prog 28 := Enters.of Try.func28 (by rfl) (by decide)   -- aircheck/airchecklaw13.greatest
instance en29 : Enters Try.prog 29 := Enters.of Try.func29 (by rfl) (by decide)   -- aircheck/aircheckref13.pick
instance en30 : Enters Try.prog 30 := Enters.of Try.func30 (by rfl) (by decide)   -- aircheck/equal.within
instance en31 : Enters Try.prog 31 := Enters.of Try.func31 (by rfl) (by decide)   -- aircheck/aircheckref13.in
instance en32 : Enters Try.prog 32 := Enters.of Try.func32 (by rfl) (by decide)   -- aircheck/equal.open
instance en33 : Enters Try.prog 33 := Enters.of Try.func33 (by rfl) (by decide)   -- slices.Concat[[]aircheck/api.Claim,aircheck/api.Claim]
instance en34 : Enters Try.prog 34 := Enters.of Try.func34 (by rfl) (by decide)   -- slices.SortFunc[[]aircheck/api.Claim,aircheck/api.Claim]
instance en35 : Enters Try.prog 35 := Enters.of Try.func35 (by rfl) (by decide)   -- aircheck/equal.Claims$1
instance en36 : Enters Try.prog 36 := Enters.of Try.func36 (by rfl) (by decide)   -- cmp.Or[int]
instance en37 : Enters Try.prog 37 := Enters.of Try.func37 (by rfl) (by decide)   -- cmp.Compare[int]
instance en38 : Enters Try.prog 38 := Enters.of Try.func38 (by rfl) (by decide)   -- slices.DeleteFunc[[]aircheck/api.Claim,aircheck/api.Claim]
instance en39 : Enters Try.prog 39 := Enters.of Try.func39 (by rfl) (by decide)   -- aircheck/equal.Overdue$1
instance en40 : Enters Try.prog 40 := Enters.of Try.func40 (by rfl) (by decide)   -- slices.Clone[[]int,int]
instance en41 : Enters Try.prog 41 := Enters.of Try.func41 (by rfl) (by decide)   -- (ptr aircheck/equal.accounts).appear
instance en42 : Enters Try.prog 42 := Enters.of Try.func42 (by rfl) (by decide)   -- slices.Grow[[]aircheck/api.Claim,aircheck/api.Claim]
instance en43 : Enters Try.prog 43 := Enters.of Try.func43 (by rfl) (by decide)   -- slices.pdqsortCmpFunc[aircheck/api.Claim]
instance en44 : Enters Try.prog 44 := Enters.of Try.func44 (by rfl) (by decide)   -- math/bits.Len
instance en45 : Enters Try.prog 45 := Enters.of Try.func45 (by rfl) (by decide)   -- cmp.isNaN[int]
instance en46 : Enters Try.prog 46 := Enters.of Try.func46 (by rfl) (by decide)   -- slices.IndexFunc[[]aircheck/api.Claim,aircheck/api.Claim]
instance en47 : Enters Try.prog 47 := Enters.of Try.func47 (by rfl) (by decide)   -- (ptr aircheck/equal.totals).add
instance en48 : Enters Try.prog 48 := Enters.of Try.func48 (by rfl) (by decide)   -- slices.insertionSortCmpFunc[aircheck/api.Claim]
instance en49 : Enters Try.prog 49 := Enters.of Try.func49 (by rfl) (by decide)   -- slices.heapSortCmpFunc[aircheck/api.Claim]
instance en50 : Enters Try.prog 50 := Enters.of Try.func50 (by rfl) (by decide)   -- slices.breakPatternsCmpFunc[aircheck/api.Claim]
instance en51 : Enters Try.prog 51 := Enters.of Try.func51 (by rfl) (by decide)   -- slices.choosePivotCmpFunc[aircheck/api.Claim]
instance en52 : Enters Try.prog 52 := Enters.of Try.func52 (by rfl) (by decide)   -- slices.reverseRangeCmpFunc[aircheck/api.Claim]
instance en53 : Enters Try.prog 53 := Enters.of Try.func53 (by rfl) (by decide)   -- slices.partialInsertionSortCmpFunc[aircheck/api.Claim]
instance en54 : Enters Try.prog 54 := Enters.of Try.func54 (by rfl) (by decide)   -- slices.partitionEqualCmpFunc[aircheck/api.Claim]
instance en55 : Enters Try.prog 55 := Enters.of Try.func55 (by rfl) (by decide)   -- slices.partitionCmpFunc[aircheck/api.Claim]
instance en56 : Enters Try.prog 56 := Enters.of Try.func56 (by rfl) (by decide)   -- math/bits.Len32
instance en57 : Enters Try.prog 57 := Enters.of Try.func57 (by rfl) (by decide)   -- math/bits.Len64
instance en58 : Enters Try.prog 58 := Enters.of Try.func58 (by rfl) (by decide)   -- slices.siftDownCmpFunc[aircheck/api.Claim]
instance en59 : Enters Try.prog 59 := Enters.of Try.func59 (by rfl) (by decide)   -- slices.nextPowerOfTwo
instance en60 : Enters Try.prog 60 := Enters.of Try.func60 (by rfl) (by decide)   -- (ptr slices.xorshift).Next
instance en61 : Enters Try.prog 61 := Enters.of Try.func61 (by rfl) (by decide)   -- slices.medianAdjacentCmpFunc[aircheck/api.Claim]
instance en62 : Enters Try.prog 62 := Enters.of Try.func62 (by rfl) (by decide)   -- slices.medianCmpFunc[aircheck/api.Claim]
instance en63 : Enters Try.prog 63 := Enters.of Try.func63 (by rfl) (by decide)   -- slices.order2CmpFunc[aircheck/api.Claim]
structure GClaim where
  Candidate : Int
  Of : Int
  Rest : Int
  Until : Int
  deriving DecidableEq, Inhabited
def GClaim.enc (x : GClaim) : List Value := [.int .i64 x.Candidate, .int .i64 x.Of, .int .i64 x.Rest, .int .i64 x.Until]
def fGClaim : Flat GClaim := ⟨4, GClaim.enc, fun _ => rfl⟩
structure GArr2Int where
  a0 : Int
  a1 : Int
  deriving DecidableEq, Inhabited
def GArr2Int.enc (x : GArr2Int) : List Value := [.int .i64 x.a0, .int .i64 x.a1]
def fGArr2Int : Flat GArr2Int := ⟨2, GArr2Int.enc, fun _ => rfl⟩
structure GAppearance where
  Candidate : Int
  At : Int
  Seconds : Int
  Weight : Int
  deriving DecidableEq, Inhabited
def GAppearance.enc (x : GAppearance) : List Value := [.int .i64 x.Candidate, .int .i64 x.At, .int .i64 x.Seconds, .int .i64 x.Weight]
def fGAppearance : Flat GAppearance := ⟨4, GAppearance.enc, fun _ => rfl⟩
structure GArr4Int where
  a0 : Int
  a1 : Int
  a2 : Int
  a3 : Int
  deriving DecidableEq, Inhabited
def GArr4Int.enc (x : GArr4Int) : List Value := [.int .i64 x.a0, .int .i64 x.a1, .int .i64 x.a2, .int .i64 x.a3]
def fGArr4Int : Flat GArr4Int := ⟨4, GArr4Int.enc, fun _ => rfl⟩
structure GArr8Int where
  a0 : Int
  a1 : Int
  a2 : Int
  a3 : Int
  a4 : Int
  a5 : Int
  a6 : Int
  a7 : Int
  deriving DecidableEq, Inhabited
def GArr8Int.enc (x : GArr8Int) : List Value := [.int .i64 x.a0, .int .i64 x.a1, .int .i64 x.a2, .int .i64 x.a3, .int .i64 x.a4, .int .i64 x.a5, .int .i64 x.a6, .int .i64 x.a7]
def fGArr8Int : Flat GArr8Int := ⟨8, GArr8Int.enc, fun _ => rfl⟩
structure GTotals where
  had : GArr8Int
  deriving DecidableEq, Inhabited
def GTotals.enc (x : GTotals) : List Value := [.int .i64 x.had.a0, .int .i64 x.had.a1, .int .i64 x.had.a2, .int .i64 x.had.a3, .int .i64 x.had.a4, .int .i64 x.had.a5, .int .i64 x.had.a6, .int .i64 x.had.a7]
def fGTotals : Flat GTotals := ⟨8, GTotals.enc, fun _ => rfl⟩
theorem bd39_ {ρ : Operand → Value} {w : World} {d : Option Tmp} {ty : TypeId} {pos : String} {af : Array Edge} {g : Option (Nat × Bool)}    : Runs Try.prog ρ ⟨d, .build 39 #[], ty, pos, af, g⟩ w (.ok (.value (.agg #[.int .i64 0, .int .i64 0, .int .i64 0, .int .i64 0])) w) := ⟨by
  have e : (Instr.build 39 #[]).run Try.prog w = .ok (.agg #[.int .i64 0, .int .i64 0, .int .i64 0, .int .i64 0]) w := by kernel_rfl
  simp only [execOp, List.map_toArray, List.map_cons, List.map_nil]
  exact run_bind e⟩
-- BUILD 39 bd39_ 0
theorem bd39_0_1_2_3 {ρ : Operand → Value} {w : World} {d : Option Tmp} {ty : TypeId} {pos : String} {af : Array Edge} {g : Option (Nat × Bool)} {a0 a1 a2 a3 : Operand} {x0 : Int} {x1 : Int} {x2 : Int} {x3 : Int} (h0 : ρ a0 = .int .i64 x0) (h1 : ρ a1 = .int .i64 x1) (h2 : ρ a2 = .int .i64 x2) (h3 : ρ a3 = .int .i64 x3) : Runs Try.prog ρ ⟨d, .build 39 #[(0, a0), (1, a1), (2, a2), (3, a3)], ty, pos, af, g⟩ w (.ok (.value (.agg #[.int .i64 x0, .int .i64 x1, .int .i64 x2, .int .i64 x3])) w) := ⟨by
  have e : (Instr.build 39 #[(0, .int .i64 x0), (1, .int .i64 x1), (2, .int .i64 x2), (3, .int .i64 x3)]).run Try.prog w = .ok (.agg #[.int .i64 x0, .int .i64 x1, .int .i64 x2, .int .i64 x3]) w := by kernel_rfl
  simp only [execOp, List.map_toArray, List.map_cons, List.map_nil, h0, h1, h2, h3]
  exact run_bind e⟩
-- BUILD 39 bd39_0_1_2_3 4
theorem bd49_0_1_2_3 {ρ : Operand → Value} {w : World} {d : Option Tmp} {ty : TypeId} {pos : String} {af : Array Edge} {g : Option (Nat × Bool)} {a0 a1 a2 a3 : Operand} {x0 : Int} {x1 : Int} {x2 : Int} {x3 : Int} (h0 : ρ a0 = .int .i64 x0) (h1 : ρ a1 = .int .i64 x1) (h2 : ρ a2 = .int .i64 x2) (h3 : ρ a3 = .int .i64 x3) : Runs Try.prog ρ ⟨d, .build 49 #[(0, a0), (1, a1), (2, a2), (3, a3)], ty, pos, af, g⟩ w (.ok (.value (.agg #[.int .i64 x0, .int .i64 x1, .int .i64 x2, .int .i64 x3])) w) := ⟨by
  have e : (Instr.build 49 #[(0, .int .i64 x0), (1, .int .i64 x1), (2, .int .i64 x2), (3, .int .i64 x3)]).run Try.prog w = .ok (.agg #[.int .i64 x0, .int .i64 x1, .int .i64 x2, .int .i64 x3]) w := by kernel_rfl
  simp only [execOp, List.map_toArray, List.map_cons, List.map_nil, h0, h1, h2, h3]
  exact run_bind e⟩
-- BUILD 49 bd49_0_1_2_3 4
theorem bd65_1 {ρ : Operand → Value} {w : World} {d : Option Tmp} {ty : TypeId} {pos : String} {af : Array Edge} {g : Option (Nat × Bool)} {a0 : Operand} {x0 : Int} (h0 : ρ a0 = .int .i64 x0) : Runs Try.prog ρ ⟨d, .build 65 #[(1, a0)], ty, pos, af, g⟩ w (.ok (.value (.agg #[.int .i64 0, .int .i64 0, .int .i64 0, .int .i64 0, .int .i64 0, .int .i64 0, .int .i64 0, .int .i64 0, .int .i64 x0, .slice none 0 0, .slice none 0 0, .slice none 0 0, .slice none 0 0, .slice none 0 0, .slice none 0 0, .slice none 0 0, .slice none 0 0])) w) := ⟨by
  have e : (Instr.build 65 #[(1, .int .i64 x0)]).run Try.prog w = .ok (.agg #[.int .i64 0, .int .i64 0, .int .i64 0, .int .i64 0, .int .i64 0, .int .i64 0, .int .i64 0, .int .i64 0, .int .i64 x0, .slice none 0 0, .slice none 0 0, .slice none 0 0, .slice none 0 0, .slice none 0 0, .slice none 0 0, .slice none 0 0, .slice none 0 0]) w := by kernel_rfl
  simp only [execOp, List.map_toArray, List.map_cons, List.map_nil, h0]
  exact run_bind e⟩
-- BUILD 65 bd65_1 1
theorem eqv39 {d : Nat} {w : World} {x0 y0 : Int} {x1 y1 : Int} {x2 y2 : Int} {x3 y3 : Int} (hd : 2 ≤ d) : (Op.equalIn d 39 (.agg #[.int .i64 x0, .int .i64 x1, .int .i64 x2, .int .i64 x3]) (.agg #[.int .i64 y0, .int .i64 y1, .int .i64 y2, .int .i64 y3])).run Try.prog w = .ok (decide ((GClaim.mk x0 x1 x2 x3) = (GClaim.mk y0 y1 y2 y3))) w := by
  have h := eqStruct (P := Try.prog) (T := 39) (w := w) (xs := #[.int .i64 x0, .int .i64 x1, .int .i64 x2, .int .i64 x3]) (ys := #[.int .i64 y0, .int .i64 y1, .int .i64 y2, .int .i64 y3]) Try.underlying39 (by kernel_rfl) (by omega : 1 ≤ d) (ef_cons rfl (part1 rfl) (part1 rfl) (eqInt (by omega)) (ef_cons rfl (part1 rfl) (part1 rfl) (eqInt (by omega)) (ef_cons rfl (part1 rfl) (part1 rfl) (eqInt (by omega)) (ef_cons rfl (part1 rfl) (part1 rfl) (eqInt (by omega)) ef_nil))))
  rw [h]
  congr 1
  rw [Bool.eq_iff_iff]
  simp
theorem eql39 {ρ : Operand → Value} {w : World} {d : Option Tmp} {ty T' : TypeId} {pos : String} {af : Array Edge} {g : Option (Nat × Bool)} {s t : Operand} {x0 y0 : Int} {x1 y1 : Int} {x2 y2 : Int} {x3 y3 : Int} (h1 : ρ s = .agg #[.int .i64 x0, .int .i64 x1, .int .i64 x2, .int .i64 x3]) (h2 : ρ t = .agg #[.int .i64 y0, .int .i64 y1, .int .i64 y2, .int .i64 y3]) :
    Runs Try.prog ρ ⟨d, .binOp .eql 39 s t T', ty, pos, af, g⟩ w (.ok (.value (.bool (decide ((GClaim.mk x0 x1 x2 x3) = (GClaim.mk y0 y1 y2 y3))))) w) := r_eqlAgg h1 h2 (by kernel_rfl) (eqv39 (by decide))
theorem neq39 {ρ : Operand → Value} {w : World} {d : Option Tmp} {ty T' : TypeId} {pos : String} {af : Array Edge} {g : Option (Nat × Bool)} {s t : Operand} {x0 y0 : Int} {x1 y1 : Int} {x2 y2 : Int} {x3 y3 : Int} (h1 : ρ s = .agg #[.int .i64 x0, .int .i64 x1, .int .i64 x2, .int .i64 x3]) (h2 : ρ t = .agg #[.int .i64 y0, .int .i64 y1, .int .i64 y2, .int .i64 y3]) :
    Runs Try.prog ρ ⟨d, .binOp .neq 39 s t T', ty, pos, af, g⟩ w (.ok (.value (.bool (!decide ((GClaim.mk x0 x1 x2 x3) = (GClaim.mk y0 y1 y2 y3))))) w) := r_neqAgg h1 h2 (by kernel_rfl) (eqv39 (by decide))

end Go.Proofs.Ytcbidfedffegpaa

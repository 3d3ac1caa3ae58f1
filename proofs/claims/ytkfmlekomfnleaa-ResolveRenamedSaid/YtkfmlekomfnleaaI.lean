/- The types of this program, as the calculus asks of them. Closed facts of the translation. -/
import Derived.Test.YtkfmlekomfnleaaC
import Derived.Test.YtkfmlekomfnleaaProg
import Derived.KernelRfl
namespace Go.Proofs.Ytkfmlekomfnleaa
open Go Go.RowKit
instance ty2 : Ty Try.prog 2 (.int .i64) (.int .i64 0) 1 8 := ⟨Try.underlying2, by kernel_rfl⟩
instance ty3 : Ty Try.prog 3 (.int .i64) (.int .i64 0) 1 8 := ⟨Try.underlying3, by kernel_rfl⟩
instance ty4 : Ty Try.prog 4 (.bool) (.bool false) 1 1 := ⟨Try.underlying4, by kernel_rfl⟩
instance ty5 : Ty Try.prog 5 (.int .u8) (.int .u8 0) 1 1 := ⟨Try.underlying5, by kernel_rfl⟩
instance ty9 : Ty Try.prog 9 (.string) (.string ByteArray.empty) 1 16 := ⟨Try.underlying9, by kernel_rfl⟩
instance ty12 : Ty Try.prog 12 (.int .u64) (.int .u64 0) 1 8 := ⟨Try.underlying12, by kernel_rfl⟩
instance ty17 : Ty Try.prog 17 (.pointer 195) (.pointer none) 1 8 := ⟨Try.underlying17, by kernel_rfl⟩
instance ty20 : Ty Try.prog 20 (.interface #[]) (.nilIface) 1 16 := ⟨Try.underlying20, by kernel_rfl⟩
instance ty21 : Ty Try.prog 21 (.int .i32) (.int .i32 0) 1 4 := ⟨Try.underlying21, by kernel_rfl⟩
instance ty22 : Ty Try.prog 22 (.slice 9) (.slice none 0 0) 1 24 := ⟨Try.underlying22, by kernel_rfl⟩
instance ty23 : Ty Try.prog 23 (.slice 38) (.slice none 0 0) 1 24 := ⟨Try.underlying23, by kernel_rfl⟩
instance ty24 : Ty Try.prog 24 (.slice 95) (.slice none 0 0) 1 24 := ⟨Try.underlying24, by kernel_rfl⟩
instance ty25 : Ty Try.prog 25 (.slice 22) (.slice none 0 0) 1 24 := ⟨Try.underlying25, by kernel_rfl⟩
instance ty26 : Ty Try.prog 26 (.slice 103) (.slice none 0 0) 1 24 := ⟨Try.underlying26, by kernel_rfl⟩
instance ty27 : Ty Try.prog 27 (.slice 56) (.slice none 0 0) 1 24 := ⟨Try.underlying27, by kernel_rfl⟩
instance ty28 : Ty Try.prog 28 (.slice 138) (.slice none 0 0) 1 24 := ⟨Try.underlying28, by kernel_rfl⟩
instance ty29 : Ty Try.prog 29 (.slice 116) (.slice none 0 0) 1 24 := ⟨Try.underlying29, by kernel_rfl⟩
instance ty30 : Ty Try.prog 30 (.struct #[{ name := "Title", type := 9, offset := 0, embedded := false, tag := "", pkgPath := "", byteOffset := 0 }, { name := "Kinds", type := 22, offset := 1, embedded := false, tag := "", pkgPath := "", byteOffset := 16 }, { name := "Members", type := 23, offset := 2, embedded := false, tag := "", pkgPath := "", byteOffset := 40 }, { name := "Preds", type := 24, offset := 3, embedded := false, tag := "", pkgPath := "", byteOffset := 64 }, { name := "Classes", type := 25, offset := 4, embedded := false, tag := "", pkgPath := "", byteOffset := 88 }, { name := "Sources", type := 26, offset := 5, embedded := false, tag := "", pkgPath := "", byteOffset := 112 }, { name := "Rules", type := 27, offset := 6, embedded := false, tag := "", pkgPath := "", byteOffset := 136 }, { name := "Excepts", type := 28, offset := 7, embedded := false, tag := "", pkgPath := "", byteOffset := 160 }, { name := "Totals", type := 29, offset := 8, embedded := false, tag := "", pkgPath := "", byteOffset := 184 }]) (.agg #[.string ByteArray.empty, .slice none 0 0, .slice none 0 0, .slice none 0 0, .slice none 0 0, .slice none 0 0, .slice none 0 0, .slice none 0 0, .slice none 0 0]) 9 208 := ⟨Try.underlying30, by kernel_rfl⟩
instance ty31 : Ty Try.prog 31 (.struct #[{ name := "Title", type := 9, offset := 0, embedded := false, tag := "", pkgPath := "", byteOffset := 0 }, { name := "Kinds", type := 22, offset := 1, embedded := false, tag := "", pkgPath := "", byteOffset := 16 }, { name := "Members", type := 23, offset := 2, embedded := false, tag := "", pkgPath := "", byteOffset := 40 }, { name := "Preds", type := 24, offset := 3, embedded := false, tag := "", pkgPath := "", byteOffset := 64 }, { name := "Classes", type := 25, offset := 4, embedded := false, tag := "", pkgPath := "", byteOffset := 88 }, { name := "Sources", type := 26, offset := 5, embedded := false, tag := "", pkgPath := "", byteOffset := 112 }, { name := "Rules", type := 27, offset := 6, embedded := false, tag := "", pkgPath := "", byteOffset := 136 }, { name := "Excepts", type := 28, offset := 7, embedded := false, tag := "", pkgPath := "", byteOffset := 160 }, { name := "Totals", type := 29, offset := 8, embedded := false, tag := "", pkgPath := "", byteOffset := 184 }]) (.agg #[.string ByteArray.empty, .slice none 0 0, .slice none 0 0, .slice none 0 0, .slice none 0 0, .slice none 0 0, .slice none 0 0, .slice none 0 0, .slice none 0 0]) 9 208 := ⟨Try.underlying31, by kernel_rfl⟩
instance ty33 : Ty Try.prog 33 (.int .i64) (.int .i64 0) 1 8 := ⟨Try.underlying33, by kernel_rfl⟩
instance ty37 : Ty Try.prog 37 (.struct #[{ name := "Name", type := 9, offset := 0, embedded := false, tag := "", pkgPath := "", byteOffset := 0 }, { name := "Kind", type := 9, offset := 1, embedded := false, tag := "", pkgPath := "", byteOffset := 16 }]) (.agg #[.string ByteArray.empty, .string ByteArray.empty]) 2 32 := ⟨Try.underlying37, by kernel_rfl⟩
instance ty38 : Ty Try.prog 38 (.struct #[{ name := "Name", type := 9, offset := 0, embedded := false, tag := "", pkgPath := "", byteOffset := 0 }, { name := "Kind", type := 9, offset := 1, embedded := false, tag := "", pkgPath := "", byteOffset := 16 }]) (.agg #[.string ByteArray.empty, .string ByteArray.empty]) 2 32 := ⟨Try.underlying38, by kernel_rfl⟩
instance ty42 : Ty Try.prog 42 (.slice 3) (.slice none 0 0) 1 24 := ⟨Try.underlying42, by kernel_rfl⟩
instance ty49 : Ty Try.prog 49 (.int .i64) (.int .i64 0) 1 8 := ⟨Try.underlying49, by kernel_rfl⟩
instance ty50 : Ty Try.prog 50 (.slice 64) (.slice none 0 0) 1 24 := ⟨Try.underlying50, by kernel_rfl⟩
instance ty51 : Ty Try.prog 51 (.int .i64) (.int .i64 0) 1 8 := ⟨Try.underlying51, by kernel_rfl⟩
instance ty52 : Ty Try.prog 52 (.int .i64) (.int .i64 0) 1 8 := ⟨Try.underlying52, by kernel_rfl⟩
instance ty53 : Ty Try.prog 53 (.struct #[{ name := "Neg", type := 4, offset := 0, embedded := false, tag := "", pkgPath := "", byteOffset := 0 }, { name := "Pred", type := 9, offset := 1, embedded := false, tag := "", pkgPath := "", byteOffset := 8 }, { name := "Args", type := 22, offset := 2, embedded := false, tag := "", pkgPath := "", byteOffset := 24 }, { name := "HasValue", type := 4, offset := 3, embedded := false, tag := "", pkgPath := "", byteOffset := 48 }, { name := "Value", type := 52, offset := 4, embedded := false, tag := "", pkgPath := "", byteOffset := 56 }]) (.agg #[.bool false, .string ByteArray.empty, .slice none 0 0, .bool false, .int .i64 0]) 5 64 := ⟨Try.underlying53, by kernel_rfl⟩
instance ty54 : Ty Try.prog 54 (.struct #[{ name := "Neg", type := 4, offset := 0, embedded := false, tag := "", pkgPath := "", byteOffset := 0 }, { name := "Pred", type := 9, offset := 1, embedded := false, tag := "", pkgPath := "", byteOffset := 8 }, { name := "Args", type := 22, offset := 2, embedded := false, tag := "", pkgPath := "", byteOffset := 24 }, { name := "HasValue", type := 4, offset := 3, embedded := false, tag := "", pkgPath := "", byteOffset := 48 }, { name := "Value", type := 52, offset := 4, embedded := false, tag := "", pkgPath := "", byteOffset := 56 }]) (.agg #[.bool false, .string ByteArray.empty, .slice none 0 0, .bool false, .int .i64 0]) 5 64 := ⟨Try.underlying54, by kernel_rfl⟩
instance ty55 : Ty Try.prog 55 (.struct #[{ name := "Name", type := 9, offset := 0, embedded := false, tag := "", pkgPath := "", byteOffset := 0 }, { name := "Source", type := 9, offset := 1, embedded := false, tag := "", pkgPath := "", byteOffset := 16 }, { name := "At", type := 49, offset := 2, embedded := false, tag := "", pkgPath := "", byteOffset := 32 }, { name := "Until", type := 49, offset := 3, embedded := false, tag := "", pkgPath := "", byteOffset := 40 }, { name := "Body", type := 50, offset := 4, embedded := false, tag := "", pkgPath := "", byteOffset := 48 }, { name := "Arrow", type := 51, offset := 5, embedded := false, tag := "", pkgPath := "", byteOffset := 72 }, { name := "Head", type := 54, offset := 6, embedded := false, tag := "", pkgPath := "", byteOffset := 80 }]) (.agg #[.string ByteArray.empty, .string ByteArray.empty, .int .i64 0, .int .i64 0, .slice none 0 0, .int .i64 0, .bool false, .string ByteArray.empty, .slice none 0 0, .bool false, .int .i64 0]) 11 144 := ⟨Try.underlying55, by kernel_rfl⟩
instance ty56 : Ty Try.prog 56 (.struct #[{ name := "Name", type := 9, offset := 0, embedded := false, tag := "", pkgPath := "", byteOffset := 0 }, { name := "Source", type := 9, offset := 1, embedded := false, tag := "", pkgPath := "", byteOffset := 16 }, { name := "At", type := 49, offset := 2, embedded := false, tag := "", pkgPath := "", byteOffset := 32 }, { name := "Until", type := 49, offset := 3, embedded := false, tag := "", pkgPath := "", byteOffset := 40 }, { name := "Body", type := 50, offset := 4, embedded := false, tag := "", pkgPath := "", byteOffset := 48 }, { name := "Arrow", type := 51, offset := 5, embedded := false, tag := "", pkgPath := "", byteOffset := 72 }, { name := "Head", type := 54, offset := 6, embedded := false, tag := "", pkgPath := "", byteOffset := 80 }]) (.agg #[.string ByteArray.empty, .string ByteArray.empty, .int .i64 0, .int .i64 0, .slice none 0 0, .int .i64 0, .bool false, .string ByteArray.empty, .slice none 0 0, .bool false, .int .i64 0]) 11 144 := ⟨Try.underlying56, by kernel_rfl⟩
instance ty58 : Ty Try.prog 58 (.int .i64) (.int .i64 0) 1 8 := ⟨Try.underlying58, by kernel_rfl⟩
instance ty59 : Ty Try.prog 59 (.slice 86) (.slice none 0 0) 1 24 := ⟨Try.underlying59, by kernel_rfl⟩
instance ty60 : Ty Try.prog 60 (.int .i64) (.int .i64 0) 1 8 := ⟨Try.underlying60, by kernel_rfl⟩
instance ty61 : Ty Try.prog 61 (.struct #[{ name := "Left", type := 59, offset := 0, embedded := false, tag := "", pkgPath := "", byteOffset := 0 }, { name := "Op", type := 60, offset := 1, embedded := false, tag := "", pkgPath := "", byteOffset := 24 }, { name := "Right", type := 59, offset := 2, embedded := false, tag := "", pkgPath := "", byteOffset := 32 }]) (.agg #[.slice none 0 0, .int .i64 0, .slice none 0 0]) 3 56 := ⟨Try.underlying61, by kernel_rfl⟩
instance ty62 : Ty Try.prog 62 (.struct #[{ name := "Left", type := 59, offset := 0, embedded := false, tag := "", pkgPath := "", byteOffset := 0 }, { name := "Op", type := 60, offset := 1, embedded := false, tag := "", pkgPath := "", byteOffset := 24 }, { name := "Right", type := 59, offset := 2, embedded := false, tag := "", pkgPath := "", byteOffset := 32 }]) (.agg #[.slice none 0 0, .int .i64 0, .slice none 0 0]) 3 56 := ⟨Try.underlying62, by kernel_rfl⟩
instance ty63 : Ty Try.prog 63 (.struct #[{ name := "Kind", type := 58, offset := 0, embedded := false, tag := "", pkgPath := "", byteOffset := 0 }, { name := "Lit", type := 54, offset := 1, embedded := false, tag := "", pkgPath := "", byteOffset := 8 }, { name := "Guard", type := 62, offset := 6, embedded := false, tag := "", pkgPath := "", byteOffset := 72 }, { name := "A", type := 9, offset := 9, embedded := false, tag := "", pkgPath := "", byteOffset := 128 }, { name := "B", type := 9, offset := 10, embedded := false, tag := "", pkgPath := "", byteOffset := 144 }]) (.agg #[.int .i64 0, .bool false, .string ByteArray.empty, .slice none 0 0, .bool false, .int .i64 0, .slice none 0 0, .int .i64 0, .slice none 0 0, .string ByteArray.empty, .string ByteArray.empty]) 11 160 := ⟨Try.underlying63, by kernel_rfl⟩
instance ty64 : Ty Try.prog 64 (.struct #[{ name := "Kind", type := 58, offset := 0, embedded := false, tag := "", pkgPath := "", byteOffset := 0 }, { name := "Lit", type := 54, offset := 1, embedded := false, tag := "", pkgPath := "", byteOffset := 8 }, { name := "Guard", type := 62, offset := 6, embedded := false, tag := "", pkgPath := "", byteOffset := 72 }, { name := "A", type := 9, offset := 9, embedded := false, tag := "", pkgPath := "", byteOffset := 128 }, { name := "B", type := 9, offset := 10, embedded := false, tag := "", pkgPath := "", byteOffset := 144 }]) (.agg #[.int .i64 0, .bool false, .string ByteArray.empty, .slice none 0 0, .bool false, .int .i64 0, .slice none 0 0, .int .i64 0, .slice none 0 0, .string ByteArray.empty, .string ByteArray.empty]) 11 160 := ⟨Try.underlying64, by kernel_rfl⟩
instance ty66 : Ty Try.prog 66 (.slice 68) (.slice none 0 0) 1 24 := ⟨Try.underlying66, by kernel_rfl⟩
instance ty68 : Ty Try.prog 68 (.int .i64) (.int .i64 0) 1 8 := ⟨Try.underlying68, by kernel_rfl⟩
instance ty73 : Ty Try.prog 73 (.pointer 80) (.pointer none) 1 8 := ⟨Try.underlying73, by kernel_rfl⟩
instance ty75 : Ty Try.prog 75 (.struct #[{ name := "err", type := 33, offset := 0, embedded := false, tag := "", pkgPath := "lexprior/resolve", byteOffset := 0 }, { name := "at", type := 3, offset := 1, embedded := false, tag := "", pkgPath := "lexprior/resolve", byteOffset := 8 }]) (.agg #[.int .i64 0, .int .i64 0]) 2 16 := ⟨Try.underlying75, by kernel_rfl⟩
instance ty76 : Ty Try.prog 76 (.struct #[{ name := "err", type := 33, offset := 0, embedded := false, tag := "", pkgPath := "lexprior/resolve", byteOffset := 0 }, { name := "at", type := 3, offset := 1, embedded := false, tag := "", pkgPath := "lexprior/resolve", byteOffset := 8 }]) (.agg #[.int .i64 0, .int .i64 0]) 2 16 := ⟨Try.underlying76, by kernel_rfl⟩
instance ty78 : Ty Try.prog 78 (.map 9 3) (.map none) 1 8 := ⟨Try.underlying78, by kernel_rfl⟩
instance ty79 : Ty Try.prog 79 (.struct #[{ name := "s", type := 31, offset := 0, embedded := false, tag := "", pkgPath := "lexprior/resolve", byteOffset := 0 }, { name := "at", type := 3, offset := 9, embedded := false, tag := "", pkgPath := "lexprior/resolve", byteOffset := 208 }, { name := "kinds", type := 78, offset := 10, embedded := false, tag := "", pkgPath := "lexprior/resolve", byteOffset := 216 }, { name := "members", type := 78, offset := 11, embedded := false, tag := "", pkgPath := "lexprior/resolve", byteOffset := 224 }, { name := "preds", type := 78, offset := 12, embedded := false, tag := "", pkgPath := "lexprior/resolve", byteOffset := 232 }, { name := "sources", type := 78, offset := 13, embedded := false, tag := "", pkgPath := "lexprior/resolve", byteOffset := 240 }, { name := "rules", type := 78, offset := 14, embedded := false, tag := "", pkgPath := "lexprior/resolve", byteOffset := 248 }, { name := "totals", type := 78, offset := 15, embedded := false, tag := "", pkgPath := "lexprior/resolve", byteOffset := 256 }]) (.agg #[.string ByteArray.empty, .slice none 0 0, .slice none 0 0, .slice none 0 0, .slice none 0 0, .slice none 0 0, .slice none 0 0, .slice none 0 0, .slice none 0 0, .int .i64 0, .map none, .map none, .map none, .map none, .map none, .map none]) 16 264 := ⟨Try.underlying79, by kernel_rfl⟩
instance ty80 : Ty Try.prog 80 (.struct #[{ name := "s", type := 31, offset := 0, embedded := false, tag := "", pkgPath := "lexprior/resolve", byteOffset := 0 }, { name := "at", type := 3, offset := 9, embedded := false, tag := "", pkgPath := "lexprior/resolve", byteOffset := 208 }, { name := "kinds", type := 78, offset := 10, embedded := false, tag := "", pkgPath := "lexprior/resolve", byteOffset := 216 }, { name := "members", type := 78, offset := 11, embedded := false, tag := "", pkgPath := "lexprior/resolve", byteOffset := 224 }, { name := "preds", type := 78, offset := 12, embedded := false, tag := "", pkgPath := "lexprior/resolve", byteOffset := 232 }, { name := "sources", type := 78, offset := 13, embedded := false, tag := "", pkgPath := "lexprior/resolve", byteOffset := 240 }, { name := "rules", type := 78, offset := 14, embedded := false, tag := "", pkgPath := "lexprior/resolve", byteOffset := 248 }, { name := "totals", type := 78, offset := 15, embedded := false, tag := "", pkgPath := "lexprior/resolve", byteOffset := 256 }]) (.agg #[.string ByteArray.empty, .slice none 0 0, .slice none 0 0, .slice none 0 0, .slice none 0 0, .slice none 0 0, .slice none 0 0, .slice none 0 0, .slice none 0 0, .int .i64 0, .map none, .map none, .map none, .map none, .map none, .map none]) 16 264 := ⟨Try.underlying80, by kernel_rfl⟩
instance ty84 : Ty Try.prog 84 (.pointer 64) (.pointer none) 1 8 := ⟨Try.underlying84, by kernel_rfl⟩
instance ty85 : Ty Try.prog 85 (.struct #[{ name := "Coef", type := 2, offset := 0, embedded := false, tag := "", pkgPath := "", byteOffset := 0 }, { name := "Pred", type := 9, offset := 1, embedded := false, tag := "", pkgPath := "", byteOffset := 8 }, { name := "Args", type := 22, offset := 2, embedded := false, tag := "", pkgPath := "", byteOffset := 24 }, { name := "Value", type := 52, offset := 3, embedded := false, tag := "", pkgPath := "", byteOffset := 48 }]) (.agg #[.int .i64 0, .string ByteArray.empty, .slice none 0 0, .int .i64 0]) 4 56 := ⟨Try.underlying85, by kernel_rfl⟩
instance ty86 : Ty Try.prog 86 (.struct #[{ name := "Coef", type := 2, offset := 0, embedded := false, tag := "", pkgPath := "", byteOffset := 0 }, { name := "Pred", type := 9, offset := 1, embedded := false, tag := "", pkgPath := "", byteOffset := 8 }, { name := "Args", type := 22, offset := 2, embedded := false, tag := "", pkgPath := "", byteOffset := 24 }, { name := "Value", type := 52, offset := 3, embedded := false, tag := "", pkgPath := "", byteOffset := 48 }]) (.agg #[.int .i64 0, .string ByteArray.empty, .slice none 0 0, .int .i64 0]) 4 56 := ⟨Try.underlying86, by kernel_rfl⟩
instance ty88 : Ty Try.prog 88 (.pointer 92) (.pointer none) 1 8 := ⟨Try.underlying88, by kernel_rfl⟩
instance ty90 : Ty Try.prog 90 (.map 9 9) (.map none) 1 8 := ⟨Try.underlying90, by kernel_rfl⟩
instance ty91 : Ty Try.prog 91 (.struct #[{ name := "names", type := 22, offset := 0, embedded := false, tag := "", pkgPath := "lexprior/resolve", byteOffset := 0 }, { name := "kinds", type := 90, offset := 1, embedded := false, tag := "", pkgPath := "lexprior/resolve", byteOffset := 24 }, { name := "free", type := 4, offset := 2, embedded := false, tag := "", pkgPath := "lexprior/resolve", byteOffset := 32 }]) (.agg #[.slice none 0 0, .map none, .bool false]) 3 40 := ⟨Try.underlying91, by kernel_rfl⟩
instance ty92 : Ty Try.prog 92 (.struct #[{ name := "names", type := 22, offset := 0, embedded := false, tag := "", pkgPath := "lexprior/resolve", byteOffset := 0 }, { name := "kinds", type := 90, offset := 1, embedded := false, tag := "", pkgPath := "lexprior/resolve", byteOffset := 24 }, { name := "free", type := 4, offset := 2, embedded := false, tag := "", pkgPath := "lexprior/resolve", byteOffset := 32 }]) (.agg #[.slice none 0 0, .map none, .bool false]) 3 40 := ⟨Try.underlying92, by kernel_rfl⟩
instance ty93 : Ty Try.prog 93 (.slice 52) (.slice none 0 0) 1 24 := ⟨Try.underlying93, by kernel_rfl⟩
instance ty94 : Ty Try.prog 94 (.struct #[{ name := "Name", type := 9, offset := 0, embedded := false, tag := "", pkgPath := "", byteOffset := 0 }, { name := "Sort", type := 68, offset := 1, embedded := false, tag := "", pkgPath := "", byteOffset := 16 }, { name := "Kinds", type := 22, offset := 2, embedded := false, tag := "", pkgPath := "", byteOffset := 24 }, { name := "Values", type := 93, offset := 3, embedded := false, tag := "", pkgPath := "", byteOffset := 48 }]) (.agg #[.string ByteArray.empty, .int .i64 0, .slice none 0 0, .slice none 0 0]) 4 72 := ⟨Try.underlying94, by kernel_rfl⟩
instance ty95 : Ty Try.prog 95 (.struct #[{ name := "Name", type := 9, offset := 0, embedded := false, tag := "", pkgPath := "", byteOffset := 0 }, { name := "Sort", type := 68, offset := 1, embedded := false, tag := "", pkgPath := "", byteOffset := 16 }, { name := "Kinds", type := 22, offset := 2, embedded := false, tag := "", pkgPath := "", byteOffset := 24 }, { name := "Values", type := 93, offset := 3, embedded := false, tag := "", pkgPath := "", byteOffset := 48 }]) (.agg #[.string ByteArray.empty, .int .i64 0, .slice none 0 0, .slice none 0 0]) 4 72 := ⟨Try.underlying95, by kernel_rfl⟩
instance ty102 : Ty Try.prog 102 (.struct #[{ name := "Name", type := 9, offset := 0, embedded := false, tag := "", pkgPath := "", byteOffset := 0 }, { name := "Rank", type := 3, offset := 1, embedded := false, tag := "", pkgPath := "", byteOffset := 16 }]) (.agg #[.string ByteArray.empty, .int .i64 0]) 2 24 := ⟨Try.underlying102, by kernel_rfl⟩
instance ty103 : Ty Try.prog 103 (.struct #[{ name := "Name", type := 9, offset := 0, embedded := false, tag := "", pkgPath := "", byteOffset := 0 }, { name := "Rank", type := 3, offset := 1, embedded := false, tag := "", pkgPath := "", byteOffset := 16 }]) (.agg #[.string ByteArray.empty, .int .i64 0]) 2 24 := ⟨Try.underlying103, by kernel_rfl⟩
instance ty115 : Ty Try.prog 115 (.struct #[{ name := "Name", type := 9, offset := 0, embedded := false, tag := "", pkgPath := "", byteOffset := 0 }, { name := "Kind", type := 9, offset := 1, embedded := false, tag := "", pkgPath := "", byteOffset := 16 }, { name := "Preds", type := 22, offset := 2, embedded := false, tag := "", pkgPath := "", byteOffset := 32 }, { name := "HasCap", type := 4, offset := 3, embedded := false, tag := "", pkgPath := "", byteOffset := 56 }, { name := "Cap", type := 52, offset := 4, embedded := false, tag := "", pkgPath := "", byteOffset := 64 }]) (.agg #[.string ByteArray.empty, .string ByteArray.empty, .slice none 0 0, .bool false, .int .i64 0]) 5 72 := ⟨Try.underlying115, by kernel_rfl⟩
instance ty116 : Ty Try.prog 116 (.struct #[{ name := "Name", type := 9, offset := 0, embedded := false, tag := "", pkgPath := "", byteOffset := 0 }, { name := "Kind", type := 9, offset := 1, embedded := false, tag := "", pkgPath := "", byteOffset := 16 }, { name := "Preds", type := 22, offset := 2, embedded := false, tag := "", pkgPath := "", byteOffset := 32 }, { name := "HasCap", type := 4, offset := 3, embedded := false, tag := "", pkgPath := "", byteOffset := 56 }, { name := "Cap", type := 52, offset := 4, embedded := false, tag := "", pkgPath := "", byteOffset := 64 }]) (.agg #[.string ByteArray.empty, .string ByteArray.empty, .slice none 0 0, .bool false, .int .i64 0]) 5 72 := ⟨Try.underlying116, by kernel_rfl⟩
instance ty135 : Ty Try.prog 135 (.map 138 3) (.map none) 1 8 := ⟨Try.underlying135, by kernel_rfl⟩
instance ty137 : Ty Try.prog 137 (.struct #[{ name := "Over", type := 9, offset := 0, embedded := false, tag := "", pkgPath := "", byteOffset := 0 }, { name := "Under", type := 9, offset := 1, embedded := false, tag := "", pkgPath := "", byteOffset := 16 }]) (.agg #[.string ByteArray.empty, .string ByteArray.empty]) 2 32 := ⟨Try.underlying137, by kernel_rfl⟩
instance ty138 : Ty Try.prog 138 (.struct #[{ name := "Over", type := 9, offset := 0, embedded := false, tag := "", pkgPath := "", byteOffset := 0 }, { name := "Under", type := 9, offset := 1, embedded := false, tag := "", pkgPath := "", byteOffset := 16 }]) (.agg #[.string ByteArray.empty, .string ByteArray.empty]) 2 32 := ⟨Try.underlying138, by kernel_rfl⟩
instance ty153 : Ty Try.prog 153 (.map 52 3) (.map none) 1 8 := ⟨Try.underlying153, by kernel_rfl⟩
instance ty169 : Ty Try.prog 169 (.slice 59) (.slice none 0 0) 1 24 := ⟨Try.underlying169, by kernel_rfl⟩
instance ty172 : Ty Try.prog 172 (.struct #[{ name := "year", type := 3, offset := 0, embedded := false, tag := "", pkgPath := "lexprior/calendar", byteOffset := 0 }, { name := "month", type := 3, offset := 1, embedded := false, tag := "", pkgPath := "lexprior/calendar", byteOffset := 8 }, { name := "day", type := 3, offset := 2, embedded := false, tag := "", pkgPath := "lexprior/calendar", byteOffset := 16 }]) (.agg #[.int .i64 0, .int .i64 0, .int .i64 0]) 3 24 := ⟨Try.underlying172, by kernel_rfl⟩
instance ty173 : Ty Try.prog 173 (.struct #[{ name := "year", type := 3, offset := 0, embedded := false, tag := "", pkgPath := "lexprior/calendar", byteOffset := 0 }, { name := "month", type := 3, offset := 1, embedded := false, tag := "", pkgPath := "lexprior/calendar", byteOffset := 8 }, { name := "day", type := 3, offset := 2, embedded := false, tag := "", pkgPath := "lexprior/calendar", byteOffset := 16 }]) (.agg #[.int .i64 0, .int .i64 0, .int .i64 0]) 3 24 := ⟨Try.underlying173, by kernel_rfl⟩
instance ty187 : Ty Try.prog 187 (.int .u32) (.int .u32 0) 1 4 := ⟨Try.underlying187, by kernel_rfl⟩
instance ty191 : Ty Try.prog 191 (.pointer 5) (.pointer none) 1 8 := ⟨Try.underlying191, by kernel_rfl⟩
instance ty194 : Ty Try.prog 194 (.struct #[{ name := "Size_", type := 12, offset := 0, embedded := false, tag := "", pkgPath := "", byteOffset := 0 }, { name := "PtrBytes", type := 12, offset := 1, embedded := false, tag := "", pkgPath := "", byteOffset := 8 }, { name := "Hash", type := 187, offset := 2, embedded := false, tag := "", pkgPath := "", byteOffset := 16 }, { name := "TFlag", type := 188, offset := 3, embedded := false, tag := "", pkgPath := "", byteOffset := 20 }, { name := "Align_", type := 5, offset := 4, embedded := false, tag := "", pkgPath := "", byteOffset := 21 }, { name := "FieldAlign_", type := 5, offset := 5, embedded := false, tag := "", pkgPath := "", byteOffset := 22 }, { name := "Kind_", type := 189, offset := 6, embedded := false, tag := "", pkgPath := "", byteOffset := 23 }, { name := "Equal", type := 190, offset := 7, embedded := false, tag := "", pkgPath := "", byteOffset := 24 }, { name := "GCData", type := 191, offset := 8, embedded := false, tag := "", pkgPath := "", byteOffset := 32 }, { name := "Str", type := 192, offset := 9, embedded := false, tag := "", pkgPath := "", byteOffset := 40 }, { name := "PtrToThis", type := 193, offset := 10, embedded := false, tag := "", pkgPath := "", byteOffset := 44 }]) (.agg #[.int .u64 0, .int .u64 0, .int .u32 0, .int .u8 0, .int .u8 0, .int .u8 0, .int .u8 0, .nilFunc, .pointer none, .int .i32 0, .int .i32 0]) 11 48 := ⟨Try.underlying194, by kernel_rfl⟩
instance : FA Try.prog 30 0 0 := FA.of ty30 ty9 rfl rfl
instance : FV Try.prog 30 0 0 1 false := FV.of ty30 ty9 rfl rfl
instance : FA Try.prog 30 1 1 := FA.of ty30 ty22 rfl rfl
instance : FV Try.prog 30 1 1 1 false := FV.of ty30 ty22 rfl rfl
instance : FA Try.prog 30 2 2 := FA.of ty30 ty23 rfl rfl
instance : FV Try.prog 30 2 2 1 false := FV.of ty30 ty23 rfl rfl
instance : FA Try.prog 30 3 3 := FA.of ty30 ty24 rfl rfl
instance : FV Try.prog 30 3 3 1 false := FV.of ty30 ty24 rfl rfl
instance : FA Try.prog 30 4 4 := FA.of ty30 ty25 rfl rfl
instance : FV Try.prog 30 4 4 1 false := FV.of ty30 ty25 rfl rfl
instance : FA Try.prog 30 5 5 := FA.of ty30 ty26 rfl rfl
instance : FV Try.prog 30 5 5 1 false := FV.of ty30 ty26 rfl rfl
instance : FA Try.prog 30 6 6 := FA.of ty30 ty27 rfl rfl
instance : FV Try.prog 30 6 6 1 false := FV.of ty30 ty27 rfl rfl
instance : FA Try.prog 30 7 7 := FA.of ty30 ty28 rfl rfl
instance : FV Try.prog 30 7 7 1 false := FV.of ty30 ty28 rfl rfl
instance : FA Try.prog 30 8 8 := FA.of ty30 ty29 rfl rfl
instance : FV Try.prog 30 8 8 1 false := FV.of ty30 ty29 rfl rfl
instance : FA Try.prog 31 0 0 := FA.of ty31 ty9 rfl rfl
instance : FV Try.prog 31 0 0 1 false := FV.of ty31 ty9 rfl rfl
instance : FA Try.prog 31 1 1 := FA.of ty31 ty22 rfl rfl
instance : FV Try.prog 31 1 1 1 false := FV.of ty31 ty22 rfl rfl
instance : FA Try.prog 31 2 2 := FA.of ty31 ty23 rfl rfl
instance : FV Try.prog 31 2 2 1 false := FV.of ty31 ty23 rfl rfl
instance : FA Try.prog 31 3 3 := FA.of ty31 ty24 rfl rfl
instance : FV Try.prog 31 3 3 1 false := FV.of ty31 ty24 rfl rfl
instance : FA Try.prog 31 4 4 := FA.of ty31 ty25 rfl rfl
instance : FV Try.prog 31 4 4 1 false := FV.of ty31 ty25 rfl rfl
instance : FA Try.prog 31 5 5 := FA.of ty31 ty26 rfl rfl
instance : FV Try.prog 31 5 5 1 false := FV.of ty31 ty26 rfl rfl
instance : FA Try.prog 31 6 6 := FA.of ty31 ty27 rfl rfl
instance : FV Try.prog 31 6 6 1 false := FV.of ty31 ty27 rfl rfl
instance : FA Try.prog 31 7 7 := FA.of ty31 ty28 rfl rfl
instance : FV Try.prog 31 7 7 1 false := FV.of ty31 ty28 rfl rfl
instance : FA Try.prog 31 8 8 := FA.of ty31 ty29 rfl rfl
instance : FV Try.prog 31 8 8 1 false := FV.of ty31 ty29 rfl rfl
instance : FA Try.prog 37 0 0 := FA.of ty37 ty9 rfl rfl
instance : FV Try.prog 37 0 0 1 false := FV.of ty37 ty9 rfl rfl
instance : FA Try.prog 37 1 1 := FA.of ty37 ty9 rfl rfl
instance : FV Try.prog 37 1 1 1 false := FV.of ty37 ty9 rfl rfl
instance : FA Try.prog 38 0 0 := FA.of ty38 ty9 rfl rfl
instance : FV Try.prog 38 0 0 1 false := FV.of ty38 ty9 rfl rfl
instance : FA Try.prog 38 1 1 := FA.of ty38 ty9 rfl rfl
instance : FV Try.prog 38 1 1 1 false := FV.of ty38 ty9 rfl rfl
instance : FA Try.prog 53 0 0 := FA.of ty53 ty4 rfl rfl
instance : FV Try.prog 53 0 0 1 false := FV.of ty53 ty4 rfl rfl
instance : FA Try.prog 53 1 1 := FA.of ty53 ty9 rfl rfl
instance : FV Try.prog 53 1 1 1 false := FV.of ty53 ty9 rfl rfl
instance : FA Try.prog 53 2 2 := FA.of ty53 ty22 rfl rfl
instance : FV Try.prog 53 2 2 1 false := FV.of ty53 ty22 rfl rfl
instance : FA Try.prog 53 3 3 := FA.of ty53 ty4 rfl rfl
instance : FV Try.prog 53 3 3 1 false := FV.of ty53 ty4 rfl rfl
instance : FA Try.prog 53 4 4 := FA.of ty53 ty52 rfl rfl
instance : FV Try.prog 53 4 4 1 false := FV.of ty53 ty52 rfl rfl
instance : FA Try.prog 54 0 0 := FA.of ty54 ty4 rfl rfl
instance : FV Try.prog 54 0 0 1 false := FV.of ty54 ty4 rfl rfl
instance : FA Try.prog 54 1 1 := FA.of ty54 ty9 rfl rfl
instance : FV Try.prog 54 1 1 1 false := FV.of ty54 ty9 rfl rfl
instance : FA Try.prog 54 2 2 := FA.of ty54 ty22 rfl rfl
instance : FV Try.prog 54 2 2 1 false := FV.of ty54 ty22 rfl rfl
instance : FA Try.prog 54 3 3 := FA.of ty54 ty4 rfl rfl
instance : FV Try.prog 54 3 3 1 false := FV.of ty54 ty4 rfl rfl
instance : FA Try.prog 54 4 4 := FA.of ty54 ty52 rfl rfl
instance : FV Try.prog 54 4 4 1 false := FV.of ty54 ty52 rfl rfl
instance : FA Try.prog 55 0 0 := FA.of ty55 ty9 rfl rfl
instance : FV Try.prog 55 0 0 1 false := FV.of ty55 ty9 rfl rfl
instance : FA Try.prog 55 1 1 := FA.of ty55 ty9 rfl rfl
instance : FV Try.prog 55 1 1 1 false := FV.of ty55 ty9 rfl rfl
instance : FA Try.prog 55 2 2 := FA.of ty55 ty49 rfl rfl
instance : FV Try.prog 55 2 2 1 false := FV.of ty55 ty49 rfl rfl
instance : FA Try.prog 55 3 3 := FA.of ty55 ty49 rfl rfl
instance : FV Try.prog 55 3 3 1 false := FV.of ty55 ty49 rfl rfl
instance : FA Try.prog 55 4 4 := FA.of ty55 ty50 rfl rfl
instance : FV Try.prog 55 4 4 1 false := FV.of ty55 ty50 rfl rfl
instance : FA Try.prog 55 5 5 := FA.of ty55 ty51 rfl rfl
instance : FV Try.prog 55 5 5 1 false := FV.of ty55 ty51 rfl rfl
instance : FA Try.prog 55 6 6 := FA.of ty55 ty54 rfl rfl
instance : FV Try.prog 55 6 6 5 true := FV.of ty55 ty54 rfl rfl
instance : FA Try.prog 56 0 0 := FA.of ty56 ty9 rfl rfl
instance : FV Try.prog 56 0 0 1 false := FV.of ty56 ty9 rfl rfl
instance : FA Try.prog 56 1 1 := FA.of ty56 ty9 rfl rfl
instance : FV Try.prog 56 1 1 1 false := FV.of ty56 ty9 rfl rfl
instance : FA Try.prog 56 2 2 := FA.of ty56 ty49 rfl rfl
instance : FV Try.prog 56 2 2 1 false := FV.of ty56 ty49 rfl rfl
instance : FA Try.prog 56 3 3 := FA.of ty56 ty49 rfl rfl
instance : FV Try.prog 56 3 3 1 false := FV.of ty56 ty49 rfl rfl
instance : FA Try.prog 56 4 4 := FA.of ty56 ty50 rfl rfl
instance : FV Try.prog 56 4 4 1 false := FV.of ty56 ty50 rfl rfl
instance : FA Try.prog 56 5 5 := FA.of ty56 ty51 rfl rfl
instance : FV Try.prog 56 5 5 1 false := FV.of ty56 ty51 rfl rfl
instance : FA Try.prog 56 6 6 := FA.of ty56 ty54 rfl rfl
instance : FV Try.prog 56 6 6 5 true := FV.of ty56 ty54 rfl rfl
instance : FA Try.prog 61 0 0 := FA.of ty61 ty59 rfl rfl
instance : FV Try.prog 61 0 0 1 false := FV.of ty61 ty59 rfl rfl
instance : FA Try.prog 61 1 1 := FA.of ty61 ty60 rfl rfl
instance : FV Try.prog 61 1 1 1 false := FV.of ty61 ty60 rfl rfl
instance : FA Try.prog 61 2 2 := FA.of ty61 ty59 rfl rfl
instance : FV Try.prog 61 2 2 1 false := FV.of ty61 ty59 rfl rfl
instance : FA Try.prog 62 0 0 := FA.of ty62 ty59 rfl rfl
instance : FV Try.prog 62 0 0 1 false := FV.of ty62 ty59 rfl rfl
instance : FA Try.prog 62 1 1 := FA.of ty62 ty60 rfl rfl
instance : FV Try.prog 62 1 1 1 false := FV.of ty62 ty60 rfl rfl
instance : FA Try.prog 62 2 2 := FA.of ty62 ty59 rfl rfl
instance : FV Try.prog 62 2 2 1 false := FV.of ty62 ty59 rfl rfl
instance : FA Try.prog 63 0 0 := FA.of ty63 ty58 rfl rfl
instance : FV Try.prog 63 0 0 1 false := FV.of ty63 ty58 rfl rfl
instance : FA Try.prog 63 1 1 := FA.of ty63 ty54 rfl rfl
instance : FV Try.prog 63 1 1 5 true := FV.of ty63 ty54 rfl rfl
instance : FA Try.prog 63 2 6 := FA.of ty63 ty62 rfl rfl
instance : FV Try.prog 63 2 6 3 true := FV.of ty63 ty62 rfl rfl
instance : FA Try.prog 63 3 9 := FA.of ty63 ty9 rfl rfl
instance : FV Try.prog 63 3 9 1 false := FV.of ty63 ty9 rfl rfl
instance : FA Try.prog 63 4 10 := FA.of ty63 ty9 rfl rfl
instance : FV Try.prog 63 4 10 1 false := FV.of ty63 ty9 rfl rfl
instance : FA Try.prog 64 0 0 := FA.of ty64 ty58 rfl rfl
instance : FV Try.prog 64 0 0 1 false := FV.of ty64 ty58 rfl rfl
instance : FA Try.prog 64 1 1 := FA.of ty64 ty54 rfl rfl
instance : FV Try.prog 64 1 1 5 true := FV.of ty64 ty54 rfl rfl
instance : FA Try.prog 64 2 6 := FA.of ty64 ty62 rfl rfl
instance : FV Try.prog 64 2 6 3 true := FV.of ty64 ty62 rfl rfl
instance : FA Try.prog 64 3 9 := FA.of ty64 ty9 rfl rfl
instance : FV Try.prog 64 3 9 1 false := FV.of ty64 ty9 rfl rfl
instance : FA Try.prog 64 4 10 := FA.of ty64 ty9 rfl rfl
instance : FV Try.prog 64 4 10 1 false := FV.of ty64 ty9 rfl rfl
instance : FA Try.prog 75 0 0 := FA.of ty75 ty33 rfl rfl
instance : FV Try.prog 75 0 0 1 false := FV.of ty75 ty33 rfl rfl
instance : FA Try.prog 75 1 1 := FA.of ty75 ty3 rfl rfl
instance : FV Try.prog 75 1 1 1 false := FV.of ty75 ty3 rfl rfl
instance : FA Try.prog 76 0 0 := FA.of ty76 ty33 rfl rfl
instance : FV Try.prog 76 0 0 1 false := FV.of ty76 ty33 rfl rfl
instance : FA Try.prog 76 1 1 := FA.of ty76 ty3 rfl rfl
instance : FV Try.prog 76 1 1 1 false := FV.of ty76 ty3 rfl rfl
instance : FA Try.prog 79 0 0 := FA.of ty79 ty31 rfl rfl
instance : FV Try.prog 79 0 0 9 true := FV.of ty79 ty31 rfl rfl
instance : FA Try.prog 79 1 9 := FA.of ty79 ty3 rfl rfl
instance : FV Try.prog 79 1 9 1 false := FV.of ty79 ty3 rfl rfl
instance : FA Try.prog 79 2 10 := FA.of ty79 ty78 rfl rfl
instance : FV Try.prog 79 2 10 1 false := FV.of ty79 ty78 rfl rfl
instance : FA Try.prog 79 3 11 := FA.of ty79 ty78 rfl rfl
instance : FV Try.prog 79 3 11 1 false := FV.of ty79 ty78 rfl rfl
instance : FA Try.prog 79 4 12 := FA.of ty79 ty78 rfl rfl
instance : FV Try.prog 79 4 12 1 false := FV.of ty79 ty78 rfl rfl
instance : FA Try.prog 79 5 13 := FA.of ty79 ty78 rfl rfl
instance : FV Try.prog 79 5 13 1 false := FV.of ty79 ty78 rfl rfl
instance : FA Try.prog 79 6 14 := FA.of ty79 ty78 rfl rfl
instance : FV Try.prog 79 6 14 1 false := FV.of ty79 ty78 rfl rfl
instance : FA Try.prog 79 7 15 := FA.of ty79 ty78 rfl rfl
instance : FV Try.prog 79 7 15 1 false := FV.of ty79 ty78 rfl rfl
instance : FA Try.prog 80 0 0 := FA.of ty80 ty31 rfl rfl
instance : FV Try.prog 80 0 0 9 true := FV.of ty80 ty31 rfl rfl
instance : FA Try.prog 80 1 9 := FA.of ty80 ty3 rfl rfl
instance : FV Try.prog 80 1 9 1 false := FV.of ty80 ty3 rfl rfl
instance : FA Try.prog 80 2 10 := FA.of ty80 ty78 rfl rfl
instance : FV Try.prog 80 2 10 1 false := FV.of ty80 ty78 rfl rfl
instance : FA Try.prog 80 3 11 := FA.of ty80 ty78 rfl rfl
instance : FV Try.prog 80 3 11 1 false := FV.of ty80 ty78 rfl rfl
instance : FA Try.prog 80 4 12 := FA.of ty80 ty78 rfl rfl
instance : FV Try.prog 80 4 12 1 false := FV.of ty80 ty78 rfl rfl
instance : FA Try.prog 80 5 13 := FA.of ty80 ty78 rfl rfl
instance : FV Try.prog 80 5 13 1 false := FV.of ty80 ty78 rfl rfl
instance : FA Try.prog 80 6 14 := FA.of ty80 ty78 rfl rfl
instance : FV Try.prog 80 6 14 1 false := FV.of ty80 ty78 rfl rfl
instance : FA Try.prog 80 7 15 := FA.of ty80 ty78 rfl rfl
instance : FV Try.prog 80 7 15 1 false := FV.of ty80 ty78 rfl rfl
instance : FA Try.prog 85 0 0 := FA.of ty85 ty2 rfl rfl
instance : FV Try.prog 85 0 0 1 false := FV.of ty85 ty2 rfl rfl
instance : FA Try.prog 85 1 1 := FA.of ty85 ty9 rfl rfl
instance : FV Try.prog 85 1 1 1 false := FV.of ty85 ty9 rfl rfl
instance : FA Try.prog 85 2 2 := FA.of ty85 ty22 rfl rfl
instance : FV Try.prog 85 2 2 1 false := FV.of ty85 ty22 rfl rfl
instance : FA Try.prog 85 3 3 := FA.of ty85 ty52 rfl rfl
instance : FV Try.prog 85 3 3 1 false := FV.of ty85 ty52 rfl rfl
instance : FA Try.prog 86 0 0 := FA.of ty86 ty2 rfl rfl
instance : FV Try.prog 86 0 0 1 false := FV.of ty86 ty2 rfl rfl
instance : FA Try.prog 86 1 1 := FA.of ty86 ty9 rfl rfl
instance : FV Try.prog 86 1 1 1 false := FV.of ty86 ty9 rfl rfl
instance : FA Try.prog 86 2 2 := FA.of ty86 ty22 rfl rfl
instance : FV Try.prog 86 2 2 1 false := FV.of ty86 ty22 rfl rfl
instance : FA Try.prog 86 3 3 := FA.of ty86 ty52 rfl rfl
instance : FV Try.prog 86 3 3 1 false := FV.of ty86 ty52 rfl rfl
instance : FA Try.prog 91 0 0 := FA.of ty91 ty22 rfl rfl
instance : FV Try.prog 91 0 0 1 false := FV.of ty91 ty22 rfl rfl
instance : FA Try.prog 91 1 1 := FA.of ty91 ty90 rfl rfl
instance : FV Try.prog 91 1 1 1 false := FV.of ty91 ty90 rfl rfl
instance : FA Try.prog 91 2 2 := FA.of ty91 ty4 rfl rfl
instance : FV Try.prog 91 2 2 1 false := FV.of ty91 ty4 rfl rfl
instance : FA Try.prog 92 0 0 := FA.of ty92 ty22 rfl rfl
instance : FV Try.prog 92 0 0 1 false := FV.of ty92 ty22 rfl rfl
instance : FA Try.prog 92 1 1 := FA.of ty92 ty90 rfl rfl
instance : FV Try.prog 92 1 1 1 false := FV.of ty92 ty90 rfl rfl
instance : FA Try.prog 92 2 2 := FA.of ty92 ty4 rfl rfl
instance : FV Try.prog 92 2 2 1 false := FV.of ty92 ty4 rfl rfl
instance : FA Try.prog 94 0 0 := FA.of ty94 ty9 rfl rfl
instance : FV Try.prog 94 0 0 1 false := FV.of ty94 ty9 rfl rfl
instance : FA Try.prog 94 1 1 := FA.of ty94 ty68 rfl rfl
instance : FV Try.prog 94 1 1 1 false := FV.of ty94 ty68 rfl rfl
instance : FA Try.prog 94 2 2 := FA.of ty94 ty22 rfl rfl
instance : FV Try.prog 94 2 2 1 false := FV.of ty94 ty22 rfl rfl
instance : FA Try.prog 94 3 3 := FA.of ty94 ty93 rfl rfl
instance : FV Try.prog 94 3 3 1 false := FV.of ty94 ty93 rfl rfl
instance : FA Try.prog 95 0 0 := FA.of ty95 ty9 rfl rfl
instance : FV Try.prog 95 0 0 1 false := FV.of ty95 ty9 rfl rfl
instance : FA Try.prog 95 1 1 := FA.of ty95 ty68 rfl rfl
instance : FV Try.prog 95 1 1 1 false := FV.of ty95 ty68 rfl rfl
instance : FA Try.prog 95 2 2 := FA.of ty95 ty22 rfl rfl
instance : FV Try.prog 95 2 2 1 false := FV.of ty95 ty22 rfl rfl
instance : FA Try.prog 95 3 3 := FA.of ty95 ty93 rfl rfl
instance : FV Try.prog 95 3 3 1 false := FV.of ty95 ty93 rfl rfl
instance : FA Try.prog 102 0 0 := FA.of ty102 ty9 rfl rfl
instance : FV Try.prog 102 0 0 1 false := FV.of ty102 ty9 rfl rfl
instance : FA Try.prog 102 1 1 := FA.of ty102 ty3 rfl rfl
instance : FV Try.prog 102 1 1 1 false := FV.of ty102 ty3 rfl rfl
instance : FA Try.prog 103 0 0 := FA.of ty103 ty9 rfl rfl
instance : FV Try.prog 103 0 0 1 false := FV.of ty103 ty9 rfl rfl
instance : FA Try.prog 103 1 1 := FA.of ty103 ty3 rfl rfl
instance : FV Try.prog 103 1 1 1 false := FV.of ty103 ty3 rfl rfl
instance : FA Try.prog 115 0 0 := FA.of ty115 ty9 rfl rfl
instance : FV Try.prog 115 0 0 1 false := FV.of ty115 ty9 rfl rfl
instance : FA Try.prog 115 1 1 := FA.of ty115 ty9 rfl rfl
instance : FV Try.prog 115 1 1 1 false := FV.of ty115 ty9 rfl rfl
instance : FA Try.prog 115 2 2 := FA.of ty115 ty22 rfl rfl
instance : FV Try.prog 115 2 2 1 false := FV.of ty115 ty22 rfl rfl
instance : FA Try.prog 115 3 3 := FA.of ty115 ty4 rfl rfl
instance : FV Try.prog 115 3 3 1 false := FV.of ty115 ty4 rfl rfl
instance : FA Try.prog 115 4 4 := FA.of ty115 ty52 rfl rfl
instance : FV Try.prog 115 4 4 1 false := FV.of ty115 ty52 rfl rfl
instance : FA Try.prog 116 0 0 := FA.of ty116 ty9 rfl rfl
instance : FV Try.prog 116 0 0 1 false := FV.of ty116 ty9 rfl rfl
instance : FA Try.prog 116 1 1 := FA.of ty116 ty9 rfl rfl
instance : FV Try.prog 116 1 1 1 false := FV.of ty116 ty9 rfl rfl
instance : FA Try.prog 116 2 2 := FA.of ty116 ty22 rfl rfl
instance : FV Try.prog 116 2 2 1 false := FV.of ty116 ty22 rfl rfl
instance : FA Try.prog 116 3 3 := FA.of ty116 ty4 rfl rfl
instance : FV Try.prog 116 3 3 1 false := FV.of ty116 ty4 rfl rfl
instance : FA Try.prog 116 4 4 := FA.of ty116 ty52 rfl rfl
instance : FV Try.prog 116 4 4 1 false := FV.of ty116 ty52 rfl rfl
instance : FA Try.prog 137 0 0 := FA.of ty137 ty9 rfl rfl
instance : FV Try.prog 137 0 0 1 false := FV.of ty137 ty9 rfl rfl
instance : FA Try.prog 137 1 1 := FA.of ty137 ty9 rfl rfl
instance : FV Try.prog 137 1 1 1 false := FV.of ty137 ty9 rfl rfl
instance : FA Try.prog 138 0 0 := FA.of ty138 ty9 rfl rfl
instance : FV Try.prog 138 0 0 1 false := FV.of ty138 ty9 rfl rfl
instance : FA Try.prog 138 1 1 := FA.of ty138 ty9 rfl rfl
instance : FV Try.prog 138 1 1 1 false := FV.of ty138 ty9 rfl rfl
instance : FA Try.prog 172 0 0 := FA.of ty172 ty3 rfl rfl
instance : FV Try.prog 172 0 0 1 false := FV.of ty172 ty3 rfl rfl
instance : FA Try.prog 172 1 1 := FA.of ty172 ty3 rfl rfl
instance : FV Try.prog 172 1 1 1 false := FV.of ty172 ty3 rfl rfl
instance : FA Try.prog 172 2 2 := FA.of ty172 ty3 rfl rfl
instance : FV Try.prog 172 2 2 1 false := FV.of ty172 ty3 rfl rfl
instance : FA Try.prog 173 0 0 := FA.of ty173 ty3 rfl rfl
instance : FV Try.prog 173 0 0 1 false := FV.of ty173 ty3 rfl rfl
instance : FA Try.prog 173 1 1 := FA.of ty173 ty3 rfl rfl
instance : FV Try.prog 173 1 1 1 false := FV.of ty173 ty3 rfl rfl
instance : FA Try.prog 173 2 2 := FA.of ty173 ty3 rfl rfl
instance : FV Try.prog 173 2 2 1 false := FV.of ty173 ty3 rfl rfl
instance : FA Try.prog 194 0 0 := FA.of ty194 ty12 rfl rfl
instance : FV Try.prog 194 0 0 1 false := FV.of ty194 ty12 rfl rfl
instance : FA Try.prog 194 1 1 := FA.of ty194 ty12 rfl rfl
instance : FV Try.prog 194 1 1 1 false := FV.of ty194 ty12 rfl rfl
instance : FA Try.prog 194 2 2 := FA.of ty194 ty187 rfl rfl
instance : FV Try.prog 194 2 2 1 false := FV.of ty194 ty187 rfl rfl
instance : FA Try.prog 194 4 4 := FA.of ty194 ty5 rfl rfl
instance : FV Try.prog 194 4 4 1 false := FV.of ty194 ty5 rfl rfl
instance : FA Try.prog 194 5 5 := FA.of ty194 ty5 rfl rfl
instance : FV Try.prog 194 5 5 1 false := FV.of ty194 ty5 rfl rfl
instance : FA Try.prog 194 8 8 := FA.of ty194 ty191 rfl rfl
instance : FV Try.prog 194 8 8 1 false := FV.of ty194 ty191 rfl rfl
end Go.Proofs.Ytkfmlekomfnleaa

/- The types of this program, as the calculus asks of them. Closed facts of the translation. -/
import Derived.Test.YtoknohnodlaimaaC
import Derived.Test.YtoknohnodlaimaaProg
import Derived.KernelRfl
namespace Go.Proofs.Ytoknohnodlaimaa
open Go Go.RowKit
instance ty2 : Ty Try.prog 2 (.int .i64) (.int .i64 0) 1 8 := ⟨Try.underlying2, by kernel_rfl⟩
instance ty3 : Ty Try.prog 3 (.int .i64) (.int .i64 0) 1 8 := ⟨Try.underlying3, by kernel_rfl⟩
instance ty4 : Ty Try.prog 4 (.bool) (.bool false) 1 1 := ⟨Try.underlying4, by kernel_rfl⟩
instance ty5 : Ty Try.prog 5 (.int .u8) (.int .u8 0) 1 1 := ⟨Try.underlying5, by kernel_rfl⟩
instance ty9 : Ty Try.prog 9 (.string) (.string ByteArray.empty) 1 16 := ⟨Try.underlying9, by kernel_rfl⟩
instance ty12 : Ty Try.prog 12 (.int .u64) (.int .u64 0) 1 8 := ⟨Try.underlying12, by kernel_rfl⟩
instance ty17 : Ty Try.prog 17 (.pointer 106) (.pointer none) 1 8 := ⟨Try.underlying17, by kernel_rfl⟩
instance ty20 : Ty Try.prog 20 (.interface #[]) (.nilIface) 1 16 := ⟨Try.underlying20, by kernel_rfl⟩
instance ty21 : Ty Try.prog 21 (.int .i32) (.int .i32 0) 1 4 := ⟨Try.underlying21, by kernel_rfl⟩
instance ty22 : Ty Try.prog 22 (.slice 3) (.slice none 0 0) 1 24 := ⟨Try.underlying22, by kernel_rfl⟩
instance ty23 : Ty Try.prog 23 (.int .i64) (.int .i64 0) 1 8 := ⟨Try.underlying23, by kernel_rfl⟩
instance ty24 : Ty Try.prog 24 (.struct #[{ name := "Pred", type := 3, offset := 0, embedded := false, tag := "", pkgPath := "", byteOffset := 0 }, { name := "Args", type := 22, offset := 1, embedded := false, tag := "", pkgPath := "", byteOffset := 8 }, { name := "Value", type := 23, offset := 2, embedded := false, tag := "", pkgPath := "", byteOffset := 32 }]) (.agg #[.int .i64 0, .slice none 0 0, .int .i64 0]) 3 40 := ⟨Try.underlying24, by kernel_rfl⟩
instance ty25 : Ty Try.prog 25 (.struct #[{ name := "Pred", type := 3, offset := 0, embedded := false, tag := "", pkgPath := "", byteOffset := 0 }, { name := "Args", type := 22, offset := 1, embedded := false, tag := "", pkgPath := "", byteOffset := 8 }, { name := "Value", type := 23, offset := 2, embedded := false, tag := "", pkgPath := "", byteOffset := 32 }]) (.agg #[.int .i64 0, .slice none 0 0, .int .i64 0]) 3 40 := ⟨Try.underlying25, by kernel_rfl⟩
instance ty26 : Ty Try.prog 26 (.struct #[{ name := "Neg", type := 4, offset := 0, embedded := false, tag := "", pkgPath := "", byteOffset := 0 }, { name := "Atom", type := 25, offset := 1, embedded := false, tag := "", pkgPath := "", byteOffset := 8 }, { name := "Guard", type := 3, offset := 4, embedded := false, tag := "", pkgPath := "", byteOffset := 48 }]) (.agg #[.bool false, .int .i64 0, .slice none 0 0, .int .i64 0, .int .i64 0]) 5 56 := ⟨Try.underlying26, by kernel_rfl⟩
instance ty27 : Ty Try.prog 27 (.struct #[{ name := "Neg", type := 4, offset := 0, embedded := false, tag := "", pkgPath := "", byteOffset := 0 }, { name := "Atom", type := 25, offset := 1, embedded := false, tag := "", pkgPath := "", byteOffset := 8 }, { name := "Guard", type := 3, offset := 4, embedded := false, tag := "", pkgPath := "", byteOffset := 48 }]) (.agg #[.bool false, .int .i64 0, .slice none 0 0, .int .i64 0, .int .i64 0]) 5 56 := ⟨Try.underlying27, by kernel_rfl⟩
instance ty32 : Ty Try.prog 32 (.slice 49) (.slice none 0 0) 1 24 := ⟨Try.underlying32, by kernel_rfl⟩
instance ty33 : Ty Try.prog 33 (.slice 27) (.slice none 0 0) 1 24 := ⟨Try.underlying33, by kernel_rfl⟩
instance ty35 : Ty Try.prog 35 (.int .i64) (.int .i64 0) 1 8 := ⟨Try.underlying35, by kernel_rfl⟩
instance ty44 : Ty Try.prog 44 (.slice 45) (.slice none 0 0) 1 24 := ⟨Try.underlying44, by kernel_rfl⟩
instance ty45 : Ty Try.prog 45 (.int .i64) (.int .i64 0) 1 8 := ⟨Try.underlying45, by kernel_rfl⟩
instance ty46 : Ty Try.prog 46 (.slice 9) (.slice none 0 0) 1 24 := ⟨Try.underlying46, by kernel_rfl⟩
instance ty47 : Ty Try.prog 47 (.slice 23) (.slice none 0 0) 1 24 := ⟨Try.underlying47, by kernel_rfl⟩
instance ty48 : Ty Try.prog 48 (.struct #[{ name := "Name", type := 9, offset := 0, embedded := false, tag := "", pkgPath := "", byteOffset := 0 }, { name := "Sort", type := 45, offset := 1, embedded := false, tag := "", pkgPath := "", byteOffset := 16 }, { name := "Kinds", type := 46, offset := 2, embedded := false, tag := "", pkgPath := "", byteOffset := 24 }, { name := "Values", type := 47, offset := 3, embedded := false, tag := "", pkgPath := "", byteOffset := 48 }]) (.agg #[.string ByteArray.empty, .int .i64 0, .slice none 0 0, .slice none 0 0]) 4 72 := ⟨Try.underlying48, by kernel_rfl⟩
instance ty49 : Ty Try.prog 49 (.struct #[{ name := "Name", type := 9, offset := 0, embedded := false, tag := "", pkgPath := "", byteOffset := 0 }, { name := "Sort", type := 45, offset := 1, embedded := false, tag := "", pkgPath := "", byteOffset := 16 }, { name := "Kinds", type := 46, offset := 2, embedded := false, tag := "", pkgPath := "", byteOffset := 24 }, { name := "Values", type := 47, offset := 3, embedded := false, tag := "", pkgPath := "", byteOffset := 48 }]) (.agg #[.string ByteArray.empty, .int .i64 0, .slice none 0 0, .slice none 0 0]) 4 72 := ⟨Try.underlying49, by kernel_rfl⟩
instance ty55 : Ty Try.prog 55 (.slice 22) (.slice none 0 0) 1 24 := ⟨Try.underlying55, by kernel_rfl⟩
instance ty88 : Ty Try.prog 88 (.int .u64) (.int .u64 0) 1 8 := ⟨Try.underlying88, by kernel_rfl⟩
instance ty98 : Ty Try.prog 98 (.int .u32) (.int .u32 0) 1 4 := ⟨Try.underlying98, by kernel_rfl⟩
instance ty102 : Ty Try.prog 102 (.pointer 5) (.pointer none) 1 8 := ⟨Try.underlying102, by kernel_rfl⟩
instance ty105 : Ty Try.prog 105 (.struct #[{ name := "Size_", type := 12, offset := 0, embedded := false, tag := "", pkgPath := "", byteOffset := 0 }, { name := "PtrBytes", type := 12, offset := 1, embedded := false, tag := "", pkgPath := "", byteOffset := 8 }, { name := "Hash", type := 98, offset := 2, embedded := false, tag := "", pkgPath := "", byteOffset := 16 }, { name := "TFlag", type := 99, offset := 3, embedded := false, tag := "", pkgPath := "", byteOffset := 20 }, { name := "Align_", type := 5, offset := 4, embedded := false, tag := "", pkgPath := "", byteOffset := 21 }, { name := "FieldAlign_", type := 5, offset := 5, embedded := false, tag := "", pkgPath := "", byteOffset := 22 }, { name := "Kind_", type := 100, offset := 6, embedded := false, tag := "", pkgPath := "", byteOffset := 23 }, { name := "Equal", type := 101, offset := 7, embedded := false, tag := "", pkgPath := "", byteOffset := 24 }, { name := "GCData", type := 102, offset := 8, embedded := false, tag := "", pkgPath := "", byteOffset := 32 }, { name := "Str", type := 103, offset := 9, embedded := false, tag := "", pkgPath := "", byteOffset := 40 }, { name := "PtrToThis", type := 104, offset := 10, embedded := false, tag := "", pkgPath := "", byteOffset := 44 }]) (.agg #[.int .u64 0, .int .u64 0, .int .u32 0, .int .u8 0, .int .u8 0, .int .u8 0, .int .u8 0, .nilFunc, .pointer none, .int .i32 0, .int .i32 0]) 11 48 := ⟨Try.underlying105, by kernel_rfl⟩
instance : FA Try.prog 24 0 0 := FA.of ty24 ty3 rfl rfl
instance : FV Try.prog 24 0 0 1 false := FV.of ty24 ty3 rfl rfl
instance : FA Try.prog 24 1 1 := FA.of ty24 ty22 rfl rfl
instance : FV Try.prog 24 1 1 1 false := FV.of ty24 ty22 rfl rfl
instance : FA Try.prog 24 2 2 := FA.of ty24 ty23 rfl rfl
instance : FV Try.prog 24 2 2 1 false := FV.of ty24 ty23 rfl rfl
instance : FA Try.prog 25 0 0 := FA.of ty25 ty3 rfl rfl
instance : FV Try.prog 25 0 0 1 false := FV.of ty25 ty3 rfl rfl
instance : FA Try.prog 25 1 1 := FA.of ty25 ty22 rfl rfl
instance : FV Try.prog 25 1 1 1 false := FV.of ty25 ty22 rfl rfl
instance : FA Try.prog 25 2 2 := FA.of ty25 ty23 rfl rfl
instance : FV Try.prog 25 2 2 1 false := FV.of ty25 ty23 rfl rfl
instance : FA Try.prog 26 0 0 := FA.of ty26 ty4 rfl rfl
instance : FV Try.prog 26 0 0 1 false := FV.of ty26 ty4 rfl rfl
instance : FA Try.prog 26 1 1 := FA.of ty26 ty25 rfl rfl
instance : FV Try.prog 26 1 1 3 true := FV.of ty26 ty25 rfl rfl
instance : FA Try.prog 26 2 4 := FA.of ty26 ty3 rfl rfl
instance : FV Try.prog 26 2 4 1 false := FV.of ty26 ty3 rfl rfl
instance : FA Try.prog 27 0 0 := FA.of ty27 ty4 rfl rfl
instance : FV Try.prog 27 0 0 1 false := FV.of ty27 ty4 rfl rfl
instance : FA Try.prog 27 1 1 := FA.of ty27 ty25 rfl rfl
instance : FV Try.prog 27 1 1 3 true := FV.of ty27 ty25 rfl rfl
instance : FA Try.prog 27 2 4 := FA.of ty27 ty3 rfl rfl
instance : FV Try.prog 27 2 4 1 false := FV.of ty27 ty3 rfl rfl
instance : FA Try.prog 48 0 0 := FA.of ty48 ty9 rfl rfl
instance : FV Try.prog 48 0 0 1 false := FV.of ty48 ty9 rfl rfl
instance : FA Try.prog 48 1 1 := FA.of ty48 ty45 rfl rfl
instance : FV Try.prog 48 1 1 1 false := FV.of ty48 ty45 rfl rfl
instance : FA Try.prog 48 2 2 := FA.of ty48 ty46 rfl rfl
instance : FV Try.prog 48 2 2 1 false := FV.of ty48 ty46 rfl rfl
instance : FA Try.prog 48 3 3 := FA.of ty48 ty47 rfl rfl
instance : FV Try.prog 48 3 3 1 false := FV.of ty48 ty47 rfl rfl
instance : FA Try.prog 49 0 0 := FA.of ty49 ty9 rfl rfl
instance : FV Try.prog 49 0 0 1 false := FV.of ty49 ty9 rfl rfl
instance : FA Try.prog 49 1 1 := FA.of ty49 ty45 rfl rfl
instance : FV Try.prog 49 1 1 1 false := FV.of ty49 ty45 rfl rfl
instance : FA Try.prog 49 2 2 := FA.of ty49 ty46 rfl rfl
instance : FV Try.prog 49 2 2 1 false := FV.of ty49 ty46 rfl rfl
instance : FA Try.prog 49 3 3 := FA.of ty49 ty47 rfl rfl
instance : FV Try.prog 49 3 3 1 false := FV.of ty49 ty47 rfl rfl
instance : FA Try.prog 105 0 0 := FA.of ty105 ty12 rfl rfl
instance : FV Try.prog 105 0 0 1 false := FV.of ty105 ty12 rfl rfl
instance : FA Try.prog 105 1 1 := FA.of ty105 ty12 rfl rfl
instance : FV Try.prog 105 1 1 1 false := FV.of ty105 ty12 rfl rfl
instance : FA Try.prog 105 2 2 := FA.of ty105 ty98 rfl rfl
instance : FV Try.prog 105 2 2 1 false := FV.of ty105 ty98 rfl rfl
instance : FA Try.prog 105 4 4 := FA.of ty105 ty5 rfl rfl
instance : FV Try.prog 105 4 4 1 false := FV.of ty105 ty5 rfl rfl
instance : FA Try.prog 105 5 5 := FA.of ty105 ty5 rfl rfl
instance : FV Try.prog 105 5 5 1 false := FV.of ty105 ty5 rfl rfl
instance : FA Try.prog 105 8 8 := FA.of ty105 ty102 rfl rfl
instance : FV Try.prog 105 8 8 1 false := FV.of ty105 ty102 rfl rfl
end Go.Proofs.Ytoknohnodlaimaa

/- Part 4 of the proof that stands in the last text. -/
import Derived.KernelRfl
import Derived.Test.YtbbaionoibkohaaRows
import Derived.Test.YtbbaionoibkohaaPac
set_option linter.all false
section
namespace Go.Proofs.Ytbbaionoibkohaa
open Go Go.Pal
def tree : Tr (TypeDesc × Nat × Nat × Value) :=
  .node (.node (.node (.node (.node (.node (.node (.node (.nil) 0 ((TypeDesc.tuple #[]), 1, 0, .tuple #[])
 (.nil)) 1 ((TypeDesc.func #[] #[] false), 1, 8, .nilFunc)
 (.nil)) 2 ((TypeDesc.int IntKind.i64), 1, 8, .int .i64 0)
 (.node (.node (.nil) 3 ((TypeDesc.int IntKind.i64), 1, 8, .int .i64 0)
 (.nil)) 4 (TypeDesc.bool, 1, 1, .bool false)
 (.nil))) 5 ((TypeDesc.int IntKind.u8), 1, 1, .int .u8 0)
 (.node (.node (.node (.nil) 6 ((TypeDesc.int IntKind.u8), 1, 1, .int .u8 0)
 (.nil)) 7 ((TypeDesc.struct #[{ name := "x", type := 2, offset := 0, embedded := false, tag := "", pkgPath := "runtime", byteOffset := 0 }, { name := "y", type := 3, offset := 1, embedded := false, tag := "", pkgPath := "runtime", byteOffset := 8 }, { name := "signed", type := 4, offset := 2, embedded := false, tag := "", pkgPath := "runtime", byteOffset := 16 }, { name := "code", type := 6, offset := 3, embedded := false, tag := "", pkgPath := "runtime", byteOffset := 17 }]), 4, 24, .agg #[.int .i64 0, .int .i64 0, .bool false, .int .u8 0])
 (.nil)) 8 ((TypeDesc.struct #[{ name := "x", type := 2, offset := 0, embedded := false, tag := "", pkgPath := "runtime", byteOffset := 0 }, { name := "y", type := 3, offset := 1, embedded := false, tag := "", pkgPath := "runtime", byteOffset := 8 }, { name := "signed", type := 4, offset := 2, embedded := false, tag := "", pkgPath := "runtime", byteOffset := 16 }, { name := "code", type := 6, offset := 3, embedded := false, tag := "", pkgPath := "runtime", byteOffset := 17 }]), 4, 24, .agg #[.int .i64 0, .int .i64 0, .bool false, .int .u8 0])
 (.node (.nil) 9 (TypeDesc.string, 1, 16, .string ByteArray.empty)
 (.nil)))) 10 (TypeDesc.string, 1, 16, .string ByteArray.empty)
 (.node (.node (.node (.node (.nil) 11 (TypeDesc.string, 1, 16, .string ByteArray.empty)
 (.nil)) 12 ((TypeDesc.int IntKind.u64), 1, 8, .int .u64 0)
 (.nil)) 13 ((TypeDesc.struct #[{ name := "msg", type := 9, offset := 0, embedded := false, tag := "", pkgPath := "runtime", byteOffset := 0 }, { name := "addr", type := 12, offset := 1, embedded := false, tag := "", pkgPath := "runtime", byteOffset := 16 }]), 2, 24, .agg #[.string ByteArray.empty, .int .u64 0])
 (.node (.node (.nil) 14 ((TypeDesc.struct #[{ name := "msg", type := 9, offset := 0, embedded := false, tag := "", pkgPath := "runtime", byteOffset := 0 }, { name := "addr", type := 12, offset := 1, embedded := false, tag := "", pkgPath := "runtime", byteOffset := 16 }]), 2, 24, .agg #[.string ByteArray.empty, .int .u64 0])
 (.nil)) 15 ((TypeDesc.pointer 157), 1, 8, .pointer none)
 (.nil))) 16 ((TypeDesc.pointer 160), 1, 8, .pointer none)
 (.node (.node (.node (.nil) 17 ((TypeDesc.pointer 168), 1, 8, .pointer none)
 (.nil)) 18 ((TypeDesc.struct #[{ name := "typ", type := 17, offset := 0, embedded := false, tag := "", pkgPath := "internal/runtime/maps", byteOffset := 0 }]), 1, 8, .agg #[.pointer none])
 (.nil)) 19 ((TypeDesc.struct #[{ name := "typ", type := 17, offset := 0, embedded := false, tag := "", pkgPath := "internal/runtime/maps", byteOffset := 0 }]), 1, 8, .agg #[.pointer none])
 (.node (.nil) 20 ((TypeDesc.interface #[]), 1, 16, .nilIface)
 (.nil))))) 21 ((TypeDesc.int IntKind.i32), 1, 4, .int .i32 0)
 (.node (.node (.node (.node (.node (.nil) 22 ((TypeDesc.slice 3), 1, 24, .slice none 0 0)
 (.nil)) 23 ((TypeDesc.pointer 52), 1, 8, .pointer none)
 (.nil)) 24 ((TypeDesc.func #[22] #[23] false), 1, 8, .nilFunc)
 (.node (.node (.nil) 25 ((TypeDesc.struct #[{ name := "Persons", type := 3, offset := 0, embedded := false, tag := "", pkgPath := "", byteOffset := 0 }, { name := "Dawn", type := 22, offset := 1, embedded := false, tag := "", pkgPath := "", byteOffset := 8 }]), 2, 32, .agg #[.int .i64 0, .slice none 0 0])
 (.nil)) 26 ((TypeDesc.struct #[{ name := "Persons", type := 3, offset := 0, embedded := false, tag := "", pkgPath := "", byteOffset := 0 }, { name := "Dawn", type := 22, offset := 1, embedded := false, tag := "", pkgPath := "", byteOffset := 8 }]), 2, 32, .agg #[.int .i64 0, .slice none 0 0])
 (.nil))) 27 ((TypeDesc.func #[23] #[26] false), 1, 8, .nilFunc)
 (.node (.node (.node (.nil) 28 ((TypeDesc.slice 40), 1, 24, .slice none 0 0)
 (.nil)) 29 ((TypeDesc.func #[23, 26, 3] #[28] false), 1, 8, .nilFunc)
 (.nil)) 30 ((TypeDesc.func #[3, 3] #[3] false), 1, 8, .nilFunc)
 (.node (.nil) 31 ((TypeDesc.slice 9), 1, 24, .slice none 0 0)
 (.nil)))) 32 ((TypeDesc.int IntKind.i64), 1, 8, .int .i64 0)
 (.node (.node (.node (.node (.nil) 33 ((TypeDesc.tuple #[31, 22, 32]), 1, 0, .tuple #[.slice none 0 0, .slice none 0 0, .int .i64 0])
 (.nil)) 34 ((TypeDesc.func #[26, 28] #[31, 22, 32] false), 1, 8, .nilFunc)
 (.nil)) 35 ((TypeDesc.slice 22), 1, 24, .slice none 0 0)
 (.node (.nil) 36 ((TypeDesc.slice 42), 1, 24, .slice none 0 0)
 (.nil))) 37 ((TypeDesc.struct #[{ name := "Purses", type := 35, offset := 0, embedded := false, tag := "", pkgPath := "", byteOffset := 0 }, { name := "Debts", type := 36, offset := 1, embedded := false, tag := "", pkgPath := "", byteOffset := 24 }]), 2, 48, .agg #[.slice none 0 0, .slice none 0 0])
 (.node (.node (.node (.nil) 38 ((TypeDesc.struct #[{ name := "Purses", type := 35, offset := 0, embedded := false, tag := "", pkgPath := "", byteOffset := 0 }, { name := "Debts", type := 36, offset := 1, embedded := false, tag := "", pkgPath := "", byteOffset := 24 }]), 2, 48, .agg #[.slice none 0 0, .slice none 0 0])
 (.nil)) 39 ((TypeDesc.struct #[{ name := "Kind", type := 3, offset := 0, embedded := false, tag := "", pkgPath := "", byteOffset := 0 }, { name := "A", type := 3, offset := 1, embedded := false, tag := "", pkgPath := "", byteOffset := 8 }, { name := "B", type := 3, offset := 2, embedded := false, tag := "", pkgPath := "", byteOffset := 16 }, { name := "H", type := 3, offset := 3, embedded := false, tag := "", pkgPath := "", byteOffset := 24 }]), 4, 32, .agg #[.int .i64 0, .int .i64 0, .int .i64 0, .int .i64 0])
 (.nil)) 40 ((TypeDesc.struct #[{ name := "Kind", type := 3, offset := 0, embedded := false, tag := "", pkgPath := "", byteOffset := 0 }, { name := "A", type := 3, offset := 1, embedded := false, tag := "", pkgPath := "", byteOffset := 8 }, { name := "B", type := 3, offset := 2, embedded := false, tag := "", pkgPath := "", byteOffset := 16 }, { name := "H", type := 3, offset := 3, embedded := false, tag := "", pkgPath := "", byteOffset := 24 }]), 4, 32, .agg #[.int .i64 0, .int .i64 0, .int .i64 0, .int .i64 0])
 (.node (.nil) 41 ((TypeDesc.struct #[{ name := "From", type := 3, offset := 0, embedded := false, tag := "", pkgPath := "", byteOffset := 0 }, { name := "To", type := 3, offset := 1, embedded := false, tag := "", pkgPath := "", byteOffset := 8 }, { name := "Pounds", type := 3, offset := 2, embedded := false, tag := "", pkgPath := "", byteOffset := 16 }]), 3, 24, .agg #[.int .i64 0, .int .i64 0, .int .i64 0])
 (.nil)))))) 42 ((TypeDesc.struct #[{ name := "From", type := 3, offset := 0, embedded := false, tag := "", pkgPath := "", byteOffset := 0 }, { name := "To", type := 3, offset := 1, embedded := false, tag := "", pkgPath := "", byteOffset := 8 }, { name := "Pounds", type := 3, offset := 2, embedded := false, tag := "", pkgPath := "", byteOffset := 16 }]), 3, 24, .agg #[.int .i64 0, .int .i64 0, .int .i64 0])
 (.node (.node (.node (.node (.node (.node (.nil) 43 ((TypeDesc.tuple #[22, 32]), 1, 0, .tuple #[.slice none 0 0, .int .i64 0])
 (.nil)) 44 ((TypeDesc.func #[38] #[22, 32] false), 1, 8, .nilFunc)
 (.nil)) 45 ((TypeDesc.tuple #[36, 32]), 1, 0, .tuple #[.slice none 0 0, .int .i64 0])
 (.node (.node (.nil) 46 ((TypeDesc.func #[38] #[36, 32] false), 1, 8, .nilFunc)
 (.nil)) 47 ((TypeDesc.func #[22, 22] #[4] false), 1, 8, .nilFunc)
 (.nil))) 48 ((TypeDesc.func #[] #[4] false), 1, 8, .nilFunc)
 (.node (.node (.node (.nil) 49 ((TypeDesc.func #[22] #[4] false), 1, 8, .nilFunc)
 (.nil)) 50 ((TypeDesc.int IntKind.u64), 1, 8, .int .u64 0)
 (.nil)) 51 ((TypeDesc.struct #[{ name := "nums", type := 22, offset := 0, embedded := false, tag := "", pkgPath := "palfrey/palfreykit", byteOffset := 0 }, { name := "taken", type := 3, offset := 1, embedded := false, tag := "", pkgPath := "palfrey/palfreykit", byteOffset := 24 }, { name := "mixed", type := 50, offset := 2, embedded := false, tag := "", pkgPath := "palfrey/palfreykit", byteOffset := 32 }]), 3, 40, .agg #[.slice none 0 0, .int .i64 0, .int .u64 0])
 (.node (.nil) 52 ((TypeDesc.struct #[{ name := "nums", type := 22, offset := 0, embedded := false, tag := "", pkgPath := "palfrey/palfreykit", byteOffset := 0 }, { name := "taken", type := 3, offset := 1, embedded := false, tag := "", pkgPath := "palfrey/palfreykit", byteOffset := 24 }, { name := "mixed", type := 50, offset := 2, embedded := false, tag := "", pkgPath := "palfrey/palfreykit", byteOffset := 32 }]), 3, 40, .agg #[.slice none 0 0, .int .i64 0, .int .u64 0])
 (.nil)))) 53 ((TypeDesc.func #[3] #[3] false), 1, 8, .nilFunc)
 (.node (.node (.node (.node (.nil) 54 ((TypeDesc.func #[22] #[22] false), 1, 8, .nilFunc)
 (.nil)) 55 ((TypeDesc.func #[23, 26, 22] #[40] false), 1, 8, .nilFunc)
 (.nil)) 56 ((TypeDesc.func #[3] #[4] false), 1, 8, .nilFunc)
 (.node (.node (.nil) 57 ((TypeDesc.func #[26, 3, 92] #[32] true), 1, 8, .nilFunc)
 (.nil)) 58 ((TypeDesc.pointer 66), 1, 8, .pointer none)
 (.nil))) 59 ((TypeDesc.func #[26] #[58] false), 1, 8, .nilFunc)
 (.node (.node (.node (.nil) 60 ((TypeDesc.interface #[("Error", 155)]), 1, 16, .nilIface)
 (.nil)) 61 ((TypeDesc.interface #[("Error", 155)]), 1, 16, .nilIface)
 (.nil)) 62 ((TypeDesc.tuple #[9, 61]), 1, 0, .tuple #[.string ByteArray.empty, .nilIface])
 (.node (.nil) 63 ((TypeDesc.array 3 3), 3, 24, .agg #[.int .i64 0, .int .i64 0, .int .i64 0])
 (.nil))))) 64 ((TypeDesc.array 3 3), 3, 24, .agg #[.int .i64 0, .int .i64 0, .int .i64 0])
 (.node (.node (.node (.node (.node (.nil) 65 ((TypeDesc.struct #[{ name := "Morn", type := 26, offset := 0, embedded := true, tag := "", pkgPath := "", byteOffset := 0 }, { name := "now", type := 64, offset := 2, embedded := false, tag := "", pkgPath := "palfrey/toll", byteOffset := 32 }]), 5, 56, .agg #[.int .i64 0, .slice none 0 0, .int .i64 0, .int .i64 0, .int .i64 0])
 (.nil)) 66 ((TypeDesc.struct #[{ name := "Morn", type := 26, offset := 0, embedded := true, tag := "", pkgPath := "", byteOffset := 0 }, { name := "now", type := 64, offset := 2, embedded := false, tag := "", pkgPath := "palfrey/toll", byteOffset := 32 }]), 5, 56, .agg #[.int .i64 0, .slice none 0 0, .int .i64 0, .int .i64 0, .int .i64 0])
 (.nil)) 67 ((TypeDesc.func #[69] #[9, 61] false), 1, 8, .nilFunc)
 (.node (.node (.nil) 68 ((TypeDesc.interface #[("palfrey/toll.of", 96)]), 1, 16, .nilIface)
 (.nil)) 69 ((TypeDesc.interface #[("palfrey/toll.of", 96)]), 1, 16, .nilIface)
 (.nil))) 70 ((TypeDesc.func #[40] #[69] false), 1, 8, .nilFunc)
 (.node (.node (.node (.nil) 71 ((TypeDesc.func #[] #[22] false), 1, 8, .nilFunc)
 (.nil)) 72 ((TypeDesc.struct #[{ name := "Owing", type := 38, offset := 0, embedded := true, tag := "", pkgPath := "", byteOffset := 0 }]), 2, 48, .agg #[.slice none 0 0, .slice none 0 0])
 (.nil)) 73 ((TypeDesc.struct #[{ name := "Owing", type := 38, offset := 0, embedded := true, tag := "", pkgPath := "", byteOffset := 0 }]), 2, 48, .agg #[.slice none 0 0, .slice none 0 0])
 (.node (.nil) 74 ((TypeDesc.tuple #[73, 32]), 1, 0, .tuple #[.agg #[.slice none 0 0, .slice none 0 0], .int .i64 0])
 (.nil)))) 75 ((TypeDesc.func #[38, 22] #[73, 32] true), 1, 8, .nilFunc)
 (.node (.node (.node (.node (.nil) 76 ((TypeDesc.array 5 3), 5, 40, .agg #[.int .i64 0, .int .i64 0, .int .i64 0, .int .i64 0, .int .i64 0])
 (.nil)) 77 ((TypeDesc.array 5 3), 5, 40, .agg #[.int .i64 0, .int .i64 0, .int .i64 0, .int .i64 0, .int .i64 0])
 (.nil)) 78 ((TypeDesc.func #[] #[77] false), 1, 8, .nilFunc)
 (.node (.nil) 79 ((TypeDesc.slice 42), 1, 24, .slice none 0 0)
 (.nil))) 80 ((TypeDesc.struct #[{ name := "best", type := 79, offset := 0, embedded := false, tag := "", pkgPath := "palfrey/debt", byteOffset := 0 }, { name := "some", type := 4, offset := 1, embedded := false, tag := "", pkgPath := "palfrey/debt", byteOffset := 24 }]), 2, 32, .agg #[.slice none 0 0, .bool false])
 (.node (.node (.node (.nil) 81 ((TypeDesc.struct #[{ name := "best", type := 79, offset := 0, embedded := false, tag := "", pkgPath := "palfrey/debt", byteOffset := 0 }, { name := "some", type := 4, offset := 1, embedded := false, tag := "", pkgPath := "palfrey/debt", byteOffset := 24 }]), 2, 32, .agg #[.slice none 0 0, .bool false])
 (.nil)) 82 ((TypeDesc.slice 79), 1, 24, .slice none 0 0)
 (.nil)) 83 ((TypeDesc.func #[85] #[82] false), 1, 8, .nilFunc)
 (.node (.nil) 84 ((TypeDesc.int IntKind.u32), 1, 4, .int .u32 0)
 (.nil))))))) 85 ((TypeDesc.int IntKind.u32), 1, 4, .int .u32 0)
 (.node (.node (.node (.node (.node (.node (.node (.nil) 86 ((TypeDesc.func #[79, 88] #[] false), 1, 8, .nilFunc)
 (.nil)) 87 ((TypeDesc.func #[79] #[3] false), 1, 8, .nilFunc)
 (.nil)) 88 ((TypeDesc.func #[79, 79] #[4] false), 1, 8, .nilFunc)
 (.node (.node (.nil) 89 ((TypeDesc.func #[31, 31] #[4] false), 1, 8, .nilFunc)
 (.nil)) 90 ((TypeDesc.func #[] #[50] false), 1, 8, .nilFunc)
 (.nil))) 91 ((TypeDesc.func #[22] #[3] true), 1, 8, .nilFunc)
 (.node (.node (.node (.nil) 92 ((TypeDesc.slice 28), 1, 24, .slice none 0 0)
 (.nil)) 93 ((TypeDesc.func #[26] #[32] false), 1, 8, .nilFunc)
 (.nil)) 94 ((TypeDesc.func #[26, 40] #[32] false), 1, 8, .nilFunc)
 (.node (.nil) 95 ((TypeDesc.pointer 64), 1, 8, .pointer none)
 (.nil)))) 96 ((TypeDesc.func #[] #[3] false), 1, 8, .nilFunc)
 (.node (.node (.node (.node (.nil) 97 ((TypeDesc.struct #[{ name := "seller", type := 3, offset := 0, embedded := false, tag := "", pkgPath := "palfrey/toll", byteOffset := 0 }, { name := "buyer", type := 3, offset := 1, embedded := false, tag := "", pkgPath := "palfrey/toll", byteOffset := 8 }, { name := "horse", type := 3, offset := 2, embedded := false, tag := "", pkgPath := "palfrey/toll", byteOffset := 16 }]), 3, 24, .agg #[.int .i64 0, .int .i64 0, .int .i64 0])
 (.nil)) 98 ((TypeDesc.struct #[{ name := "seller", type := 3, offset := 0, embedded := false, tag := "", pkgPath := "palfrey/toll", byteOffset := 0 }, { name := "buyer", type := 3, offset := 1, embedded := false, tag := "", pkgPath := "palfrey/toll", byteOffset := 8 }, { name := "horse", type := 3, offset := 2, embedded := false, tag := "", pkgPath := "palfrey/toll", byteOffset := 16 }]), 3, 24, .agg #[.int .i64 0, .int .i64 0, .int .i64 0])
 (.nil)) 99 ((TypeDesc.struct #[{ name := "sale", type := 98, offset := 0, embedded := true, tag := "", pkgPath := "palfrey/toll", byteOffset := 0 }]), 3, 24, .agg #[.int .i64 0, .int .i64 0, .int .i64 0])
 (.node (.node (.nil) 100 ((TypeDesc.struct #[{ name := "sale", type := 98, offset := 0, embedded := true, tag := "", pkgPath := "palfrey/toll", byteOffset := 0 }]), 3, 24, .agg #[.int .i64 0, .int .i64 0, .int .i64 0])
 (.nil)) 101 ((TypeDesc.struct #[{ name := "by", type := 3, offset := 0, embedded := false, tag := "", pkgPath := "palfrey/toll", byteOffset := 0 }, { name := "owner", type := 3, offset := 1, embedded := false, tag := "", pkgPath := "palfrey/toll", byteOffset := 8 }, { name := "horse", type := 3, offset := 2, embedded := false, tag := "", pkgPath := "palfrey/toll", byteOffset := 16 }]), 3, 24, .agg #[.int .i64 0, .int .i64 0, .int .i64 0])
 (.nil))) 102 ((TypeDesc.struct #[{ name := "by", type := 3, offset := 0, embedded := false, tag := "", pkgPath := "palfrey/toll", byteOffset := 0 }, { name := "owner", type := 3, offset := 1, embedded := false, tag := "", pkgPath := "palfrey/toll", byteOffset := 8 }, { name := "horse", type := 3, offset := 2, embedded := false, tag := "", pkgPath := "palfrey/toll", byteOffset := 16 }]), 3, 24, .agg #[.int .i64 0, .int .i64 0, .int .i64 0])
 (.node (.node (.node (.nil) 103 ((TypeDesc.struct #[{ name := "horse", type := 3, offset := 0, embedded := false, tag := "", pkgPath := "palfrey/toll", byteOffset := 0 }]), 1, 8, .agg #[.int .i64 0])
 (.nil)) 104 ((TypeDesc.struct #[{ name := "horse", type := 3, offset := 0, embedded := false, tag := "", pkgPath := "palfrey/toll", byteOffset := 0 }]), 1, 8, .agg #[.int .i64 0])
 (.nil)) 105 ((TypeDesc.func #[38] #[32] false), 1, 8, .nilFunc)
 (.node (.nil) 106 ((TypeDesc.func #[3, 3, 3] #[4] false), 1, 8, .nilFunc)
 (.nil))))) 107 ((TypeDesc.func #[115] #[] false), 1, 8, .nilFunc)
 (.node (.node (.node (.node (.node (.nil) 108 ((TypeDesc.func #[115] #[] false), 1, 8, .nilFunc)
 (.nil)) 109 ((TypeDesc.func #[3, 85] #[108] false), 1, 8, .nilFunc)
 (.nil)) 110 ((TypeDesc.pointer 81), 1, 8, .pointer none)
 (.node (.node (.nil) 111 ((TypeDesc.func #[79, 79, 112] #[3] false), 1, 8, .nilFunc)
 (.nil)) 112 ((TypeDesc.func #[42, 42] #[3] false), 1, 8, .nilFunc)
 (.nil))) 113 ((TypeDesc.int IntKind.u64), 1, 8, .int .u64 0)
 (.node (.node (.node (.nil) 114 ((TypeDesc.func #[42, 3, 3] #[32] false), 1, 8, .nilFunc)
 (.nil)) 115 ((TypeDesc.func #[79] #[4] false), 1, 8, .nilFunc)
 (.nil)) 116 ((TypeDesc.slice 123), 1, 24, .slice none 0 0)
 (.node (.nil) 117 ((TypeDesc.func #[] #[116] false), 1, 8, .nilFunc)
 (.nil)))) 118 ((TypeDesc.func #[116, 3] #[4] false), 1, 8, .nilFunc)
 (.node (.node (.node (.node (.nil) 119 ((TypeDesc.tuple #[79, 4]), 1, 0, .tuple #[.slice none 0 0, .bool false])
 (.nil)) 120 ((TypeDesc.func #[116] #[79, 4] false), 1, 8, .nilFunc)
 (.nil)) 121 ((TypeDesc.func #[3, 3] #[4] false), 1, 8, .nilFunc)
 (.node (.nil) 122 ((TypeDesc.struct #[{ name := "a", type := 3, offset := 0, embedded := false, tag := "", pkgPath := "palfrey/debt", byteOffset := 0 }, { name := "b", type := 3, offset := 1, embedded := false, tag := "", pkgPath := "palfrey/debt", byteOffset := 8 }]), 2, 16, .agg #[.int .i64 0, .int .i64 0])
 (.nil))) 123 ((TypeDesc.struct #[{ name := "a", type := 3, offset := 0, embedded := false, tag := "", pkgPath := "palfrey/debt", byteOffset := 0 }, { name := "b", type := 3, offset := 1, embedded := false, tag := "", pkgPath := "palfrey/debt", byteOffset := 8 }]), 2, 16, .agg #[.int .i64 0, .int .i64 0])
 (.node (.node (.node (.nil) 124 ((TypeDesc.struct #[]), 0, 0, .agg #[])
 (.nil)) 125 ((TypeDesc.struct #[]), 0, 0, .agg #[])
 (.nil)) 126 ((TypeDesc.tuple #[125, 4]), 1, 0, .tuple #[.agg #[], .bool false])
 (.node (.nil) 127 ((TypeDesc.func #[116] #[79] false), 1, 8, .nilFunc)
 (.nil)))))) 128 ((TypeDesc.func #[3, 3] #[85] false), 1, 8, .nilFunc)
 (.node (.node (.node (.node (.node (.node (.nil) 129 ((TypeDesc.func #[116] #[] false), 1, 8, .nilFunc)
 (.nil)) 130 ((TypeDesc.func #[42] #[77] false), 1, 8, .nilFunc)
 (.nil)) 131 ((TypeDesc.func #[79] #[79] false), 1, 8, .nilFunc)
 (.node (.node (.nil) 132 ((TypeDesc.func #[] #[79] false), 1, 8, .nilFunc)
 (.nil)) 133 ((TypeDesc.array 4 85), 4, 16, .agg #[.int .u32 0, .int .u32 0, .int .u32 0, .int .u32 0])
 (.nil))) 134 ((TypeDesc.func #[79, 112] #[] false), 1, 8, .nilFunc)
 (.node (.node (.node (.nil) 135 ((TypeDesc.func #[36, 3, 3, 3, 112] #[] false), 1, 8, .nilFunc)
 (.nil)) 136 ((TypeDesc.func #[113] #[3] false), 1, 8, .nilFunc)
 (.nil)) 137 ((TypeDesc.func #[36, 3, 3, 112] #[] false), 1, 8, .nilFunc)
 (.node (.nil) 138 ((TypeDesc.int IntKind.i64), 1, 8, .int .i64 0)
 (.nil)))) 139 ((TypeDesc.tuple #[3, 138]), 1, 0, .tuple #[.int .i64 0, .int .i64 0])
 (.node (.node (.node (.node (.nil) 140 ((TypeDesc.func #[36, 3, 3, 112] #[3, 138] false), 1, 8, .nilFunc)
 (.nil)) 141 ((TypeDesc.func #[36, 3, 3, 112] #[4] false), 1, 8, .nilFunc)
 (.nil)) 142 ((TypeDesc.func #[36, 3, 3, 3, 112] #[3] false), 1, 8, .nilFunc)
 (.node (.nil) 143 ((TypeDesc.tuple #[3, 4]), 1, 0, .tuple #[.int .i64 0, .bool false])
 (.nil))) 144 ((TypeDesc.func #[36, 3, 3, 3, 112] #[3, 4] false), 1, 8, .nilFunc)
 (.node (.node (.node (.nil) 145 ((TypeDesc.func #[84] #[3] false), 1, 8, .nilFunc)
 (.nil)) 146 ((TypeDesc.func #[50] #[3] false), 1, 8, .nilFunc)
 (.nil)) 147 ((TypeDesc.int IntKind.u64), 1, 8, .int .u64 0)
 (.node (.nil) 148 ((TypeDesc.func #[3] #[113] false), 1, 8, .nilFunc)
 (.nil))))) 149 ((TypeDesc.func #[36, 3, 150, 112] #[3] false), 1, 8, .nilFunc)
 (.node (.node (.node (.node (.node (.nil) 150 ((TypeDesc.pointer 3), 1, 8, .pointer none)
 (.nil)) 151 ((TypeDesc.func #[36, 3, 3, 3, 150, 112] #[3] false), 1, 8, .nilFunc)
 (.nil)) 152 ((TypeDesc.pointer 147), 1, 8, .pointer none)
 (.node (.node (.nil) 153 ((TypeDesc.tuple #[3, 3]), 1, 0, .tuple #[.int .i64 0, .int .i64 0])
 (.nil)) 154 ((TypeDesc.func #[36, 3, 3, 150, 112] #[3, 3] false), 1, 8, .nilFunc)
 (.nil))) 155 ((TypeDesc.func #[] #[9] false), 1, 8, .nilFunc)
 (.node (.node (.node (.nil) 156 ((TypeDesc.struct #[{ name := "_interface", type := 17, offset := 0, embedded := false, tag := "", pkgPath := "runtime", byteOffset := 0 }, { name := "concrete", type := 17, offset := 1, embedded := false, tag := "", pkgPath := "runtime", byteOffset := 8 }, { name := "asserted", type := 17, offset := 2, embedded := false, tag := "", pkgPath := "runtime", byteOffset := 16 }, { name := "missingMethod", type := 9, offset := 3, embedded := false, tag := "", pkgPath := "runtime", byteOffset := 24 }]), 4, 40, .agg #[.pointer none, .pointer none, .pointer none, .string ByteArray.empty])
 (.nil)) 157 ((TypeDesc.struct #[{ name := "_interface", type := 17, offset := 0, embedded := false, tag := "", pkgPath := "runtime", byteOffset := 0 }, { name := "concrete", type := 17, offset := 1, embedded := false, tag := "", pkgPath := "runtime", byteOffset := 8 }, { name := "asserted", type := 17, offset := 2, embedded := false, tag := "", pkgPath := "runtime", byteOffset := 16 }, { name := "missingMethod", type := 9, offset := 3, embedded := false, tag := "", pkgPath := "runtime", byteOffset := 24 }]), 4, 40, .agg #[.pointer none, .pointer none, .pointer none, .string ByteArray.empty])
 (.nil)) 158 ((TypeDesc.array 0 16), 0, 0, .agg #[])
 (.node (.nil) 159 ((TypeDesc.struct #[{ name := "_", type := 158, offset := 0, embedded := false, tag := "", pkgPath := "runtime", byteOffset := 0 }]), 0, 0, .agg #[])
 (.nil)))) 160 ((TypeDesc.struct #[{ name := "_", type := 158, offset := 0, embedded := false, tag := "", pkgPath := "runtime", byteOffset := 0 }]), 0, 0, .agg #[])
 (.node (.node (.node (.node (.nil) 161 ((TypeDesc.int IntKind.u8), 1, 1, .int .u8 0)
 (.nil)) 162 ((TypeDesc.int IntKind.u8), 1, 1, .int .u8 0)
 (.nil)) 163 ((TypeDesc.func #[169, 169] #[4] false), 1, 8, .nilFunc)
 (.node (.nil) 164 ((TypeDesc.pointer 5), 1, 8, .pointer none)
 (.nil))) 165 ((TypeDesc.int IntKind.i32), 1, 4, .int .i32 0)
 (.node (.node (.node (.nil) 166 ((TypeDesc.int IntKind.i32), 1, 4, .int .i32 0)
 (.nil)) 167 ((TypeDesc.struct #[{ name := "Size_", type := 12, offset := 0, embedded := false, tag := "", pkgPath := "", byteOffset := 0 }, { name := "PtrBytes", type := 12, offset := 1, embedded := false, tag := "", pkgPath := "", byteOffset := 8 }, { name := "Hash", type := 84, offset := 2, embedded := false, tag := "", pkgPath := "", byteOffset := 16 }, { name := "TFlag", type := 161, offset := 3, embedded := false, tag := "", pkgPath := "", byteOffset := 20 }, { name := "Align_", type := 5, offset := 4, embedded := false, tag := "", pkgPath := "", byteOffset := 21 }, { name := "FieldAlign_", type := 5, offset := 5, embedded := false, tag := "", pkgPath := "", byteOffset := 22 }, { name := "Kind_", type := 162, offset := 6, embedded := false, tag := "", pkgPath := "", byteOffset := 23 }, { name := "Equal", type := 163, offset := 7, embedded := false, tag := "", pkgPath := "", byteOffset := 24 }, { name := "GCData", type := 164, offset := 8, embedded := false, tag := "", pkgPath := "", byteOffset := 32 }, { name := "Str", type := 165, offset := 9, embedded := false, tag := "", pkgPath := "", byteOffset := 40 }, { name := "PtrToThis", type := 166, offset := 10, embedded := false, tag := "", pkgPath := "", byteOffset := 44 }]), 11, 48, .agg #[.int .u64 0, .int .u64 0, .int .u32 0, .int .u8 0, .int .u8 0, .int .u8 0, .int .u8 0, .nilFunc, .pointer none, .int .i32 0, .int .i32 0])
 (.nil)) 168 ((TypeDesc.struct #[{ name := "Size_", type := 12, offset := 0, embedded := false, tag := "", pkgPath := "", byteOffset := 0 }, { name := "PtrBytes", type := 12, offset := 1, embedded := false, tag := "", pkgPath := "", byteOffset := 8 }, { name := "Hash", type := 84, offset := 2, embedded := false, tag := "", pkgPath := "", byteOffset := 16 }, { name := "TFlag", type := 161, offset := 3, embedded := false, tag := "", pkgPath := "", byteOffset := 20 }, { name := "Align_", type := 5, offset := 4, embedded := false, tag := "", pkgPath := "", byteOffset := 21 }, { name := "FieldAlign_", type := 5, offset := 5, embedded := false, tag := "", pkgPath := "", byteOffset := 22 }, { name := "Kind_", type := 162, offset := 6, embedded := false, tag := "", pkgPath := "", byteOffset := 23 }, { name := "Equal", type := 163, offset := 7, embedded := false, tag := "", pkgPath := "", byteOffset := 24 }, { name := "GCData", type := 164, offset := 8, embedded := false, tag := "", pkgPath := "", byteOffset := 32 }, { name := "Str", type := 165, offset := 9, embedded := false, tag := "", pkgPath := "", byteOffset := 40 }, { name := "PtrToThis", type := 166, offset := 10, embedded := false, tag := "", pkgPath := "", byteOffset := 44 }]), 11, 48, .agg #[.int .u64 0, .int .u64 0, .int .u32 0, .int .u8 0, .int .u8 0, .int .u8 0, .int .u8 0, .nilFunc, .pointer none, .int .i32 0, .int .i32 0])
 (.node (.nil) 169 (TypeDesc.unsafePointer, 1, 8, .pointer none)
 (.nil)))))))
set_option maxRecDepth 100000 in
theorem tree_ok : tree.All (fun k x => Try.prog.underlying k = some x.1 ∧ (Try.prog.info? k).map (fun i => (i.size, i.bytes, i.zero)) = some (x.2.1, x.2.2.1, some x.2.2.2)) :=
  ⟨⟨⟨⟨⟨⟨⟨⟨trivial, ⟨Go.Proofs.Try.underlying0, by kernel_rfl⟩, trivial⟩,
 ⟨Go.Proofs.Try.underlying1, by kernel_rfl⟩, trivial⟩,
 ⟨Go.Proofs.Try.underlying2, by kernel_rfl⟩,
 ⟨⟨trivial, ⟨Go.Proofs.Try.underlying3, by kernel_rfl⟩, trivial⟩,
 ⟨Go.Proofs.Try.underlying4, by kernel_rfl⟩, trivial⟩⟩,
 ⟨Go.Proofs.Try.underlying5, by kernel_rfl⟩,
 ⟨⟨⟨trivial, ⟨Go.Proofs.Try.underlying6, by kernel_rfl⟩, trivial⟩,
 ⟨Go.Proofs.Try.underlying7, by kernel_rfl⟩, trivial⟩,
 ⟨Go.Proofs.Try.underlying8, by kernel_rfl⟩,
 ⟨trivial, ⟨Go.Proofs.Try.underlying9, by kernel_rfl⟩, trivial⟩⟩⟩,
 ⟨Go.Proofs.Try.underlying10, by kernel_rfl⟩,
 ⟨⟨⟨⟨trivial, ⟨Go.Proofs.Try.underlying11, by kernel_rfl⟩, trivial⟩,
 ⟨Go.Proofs.Try.underlying12, by kernel_rfl⟩, trivial⟩,
 ⟨Go.Proofs.Try.underlying13, by kernel_rfl⟩,
 ⟨⟨trivial, ⟨Go.Proofs.Try.underlying14, by kernel_rfl⟩, trivial⟩,
 ⟨Go.Proofs.Try.underlying15, by kernel_rfl⟩, trivial⟩⟩,
 ⟨Go.Proofs.Try.underlying16, by kernel_rfl⟩,
 ⟨⟨⟨trivial, ⟨Go.Proofs.Try.underlying17, by kernel_rfl⟩, trivial⟩,
 ⟨Go.Proofs.Try.underlying18, by kernel_rfl⟩, trivial⟩,
 ⟨Go.Proofs.Try.underlying19, by kernel_rfl⟩,
 ⟨trivial, ⟨Go.Proofs.Try.underlying20, by kernel_rfl⟩, trivial⟩⟩⟩⟩,
 ⟨Go.Proofs.Try.underlying21, by kernel_rfl⟩,
 ⟨⟨⟨⟨⟨trivial, ⟨Go.Proofs.Try.underlying22, by kernel_rfl⟩, trivial⟩,
 ⟨Go.Proofs.Try.underlying23, by kernel_rfl⟩, trivial⟩,
 ⟨Go.Proofs.Try.underlying24, by kernel_rfl⟩,
 ⟨⟨trivial, ⟨Go.Proofs.Try.underlying25, by kernel_rfl⟩, trivial⟩,
 ⟨Go.Proofs.Try.underlying26, by kernel_rfl⟩, trivial⟩⟩,
 ⟨Go.Proofs.Try.underlying27, by kernel_rfl⟩,
 ⟨⟨⟨trivial, ⟨Go.Proofs.Try.underlying28, by kernel_rfl⟩, trivial⟩,
 ⟨Go.Proofs.Try.underlying29, by kernel_rfl⟩, trivial⟩,
 ⟨Go.Proofs.Try.underlying30, by kernel_rfl⟩,
 ⟨trivial, ⟨Go.Proofs.Try.underlying31, by kernel_rfl⟩, trivial⟩⟩⟩,
 ⟨Go.Proofs.Try.underlying32, by kernel_rfl⟩,
 ⟨⟨⟨⟨trivial, ⟨Go.Proofs.Try.underlying33, by kernel_rfl⟩, trivial⟩,
 ⟨Go.Proofs.Try.underlying34, by kernel_rfl⟩, trivial⟩,
 ⟨Go.Proofs.Try.underlying35, by kernel_rfl⟩,
 ⟨trivial, ⟨Go.Proofs.Try.underlying36, by kernel_rfl⟩, trivial⟩⟩,
 ⟨Go.Proofs.Try.underlying37, by kernel_rfl⟩,
 ⟨⟨⟨trivial, ⟨Go.Proofs.Try.underlying38, by kernel_rfl⟩, trivial⟩,
 ⟨Go.Proofs.Try.underlying39, by kernel_rfl⟩, trivial⟩,
 ⟨Go.Proofs.Try.underlying40, by kernel_rfl⟩,
 ⟨trivial, ⟨Go.Proofs.Try.underlying41, by kernel_rfl⟩, trivial⟩⟩⟩⟩⟩,
 ⟨Go.Proofs.Try.underlying42, by kernel_rfl⟩,
 ⟨⟨⟨⟨⟨⟨trivial, ⟨Go.Proofs.Try.underlying43, by kernel_rfl⟩, trivial⟩,
 ⟨Go.Proofs.Try.underlying44, by kernel_rfl⟩, trivial⟩,
 ⟨Go.Proofs.Try.underlying45, by kernel_rfl⟩,
 ⟨⟨trivial, ⟨Go.Proofs.Try.underlying46, by kernel_rfl⟩, trivial⟩,
 ⟨Go.Proofs.Try.underlying47, by kernel_rfl⟩, trivial⟩⟩,
 ⟨Go.Proofs.Try.underlying48, by kernel_rfl⟩,
 ⟨⟨⟨trivial, ⟨Go.Proofs.Try.underlying49, by kernel_rfl⟩, trivial⟩,
 ⟨Go.Proofs.Try.underlying50, by kernel_rfl⟩, trivial⟩,
 ⟨Go.Proofs.Try.underlying51, by kernel_rfl⟩,
 ⟨trivial, ⟨Go.Proofs.Try.underlying52, by kernel_rfl⟩, trivial⟩⟩⟩,
 ⟨Go.Proofs.Try.underlying53, by kernel_rfl⟩,
 ⟨⟨⟨⟨trivial, ⟨Go.Proofs.Try.underlying54, by kernel_rfl⟩, trivial⟩,
 ⟨Go.Proofs.Try.underlying55, by kernel_rfl⟩, trivial⟩,
 ⟨Go.Proofs.Try.underlying56, by kernel_rfl⟩,
 ⟨⟨trivial, ⟨Go.Proofs.Try.underlying57, by kernel_rfl⟩, trivial⟩,
 ⟨Go.Proofs.Try.underlying58, by kernel_rfl⟩, trivial⟩⟩,
 ⟨Go.Proofs.Try.underlying59, by kernel_rfl⟩,
 ⟨⟨⟨trivial, ⟨Go.Proofs.Try.underlying60, by kernel_rfl⟩, trivial⟩,
 ⟨Go.Proofs.Try.underlying61, by kernel_rfl⟩, trivial⟩,
 ⟨Go.Proofs.Try.underlying62, by kernel_rfl⟩,
 ⟨trivial, ⟨Go.Proofs.Try.underlying63, by kernel_rfl⟩, trivial⟩⟩⟩⟩,
 ⟨Go.Proofs.Try.underlying64, by kernel_rfl⟩,
 ⟨⟨⟨⟨⟨trivial, ⟨Go.Proofs.Try.underlying65, by kernel_rfl⟩, trivial⟩,
 ⟨Go.Proofs.Try.underlying66, by kernel_rfl⟩, trivial⟩,
 ⟨Go.Proofs.Try.underlying67, by kernel_rfl⟩,
 ⟨⟨trivial, ⟨Go.Proofs.Try.underlying68, by kernel_rfl⟩, trivial⟩,
 ⟨Go.Proofs.Try.underlying69, by kernel_rfl⟩, trivial⟩⟩,
 ⟨Go.Proofs.Try.underlying70, by kernel_rfl⟩,
 ⟨⟨⟨trivial, ⟨Go.Proofs.Try.underlying71, by kernel_rfl⟩, trivial⟩,
 ⟨Go.Proofs.Try.underlying72, by kernel_rfl⟩, trivial⟩,
 ⟨Go.Proofs.Try.underlying73, by kernel_rfl⟩,
 ⟨trivial, ⟨Go.Proofs.Try.underlying74, by kernel_rfl⟩, trivial⟩⟩⟩,
 ⟨Go.Proofs.Try.underlying75, by kernel_rfl⟩,
 ⟨⟨⟨⟨trivial, ⟨Go.Proofs.Try.underlying76, by kernel_rfl⟩, trivial⟩,
 ⟨Go.Proofs.Try.underlying77, by kernel_rfl⟩, trivial⟩,
 ⟨Go.Proofs.Try.underlying78, by kernel_rfl⟩,
 ⟨trivial, ⟨Go.Proofs.Try.underlying79, by kernel_rfl⟩, trivial⟩⟩,
 ⟨Go.Proofs.Try.underlying80, by kernel_rfl⟩,
 ⟨⟨⟨trivial, ⟨Go.Proofs.Try.underlying81, by kernel_rfl⟩, trivial⟩,
 ⟨Go.Proofs.Try.underlying82, by kernel_rfl⟩, trivial⟩,
 ⟨Go.Proofs.Try.underlying83, by kernel_rfl⟩,
 ⟨trivial, ⟨Go.Proofs.Try.underlying84, by kernel_rfl⟩, trivial⟩⟩⟩⟩⟩⟩,
 ⟨Go.Proofs.Try.underlying85, by kernel_rfl⟩,
 ⟨⟨⟨⟨⟨⟨⟨trivial, ⟨Go.Proofs.Try.underlying86, by kernel_rfl⟩, trivial⟩,
 ⟨Go.Proofs.Try.underlying87, by kernel_rfl⟩, trivial⟩,
 ⟨Go.Proofs.Try.underlying88, by kernel_rfl⟩,
 ⟨⟨trivial, ⟨Go.Proofs.Try.underlying89, by kernel_rfl⟩, trivial⟩,
 ⟨Go.Proofs.Try.underlying90, by kernel_rfl⟩, trivial⟩⟩,
 ⟨Go.Proofs.Try.underlying91, by kernel_rfl⟩,
 ⟨⟨⟨trivial, ⟨Go.Proofs.Try.underlying92, by kernel_rfl⟩, trivial⟩,
 ⟨Go.Proofs.Try.underlying93, by kernel_rfl⟩, trivial⟩,
 ⟨Go.Proofs.Try.underlying94, by kernel_rfl⟩,
 ⟨trivial, ⟨Go.Proofs.Try.underlying95, by kernel_rfl⟩, trivial⟩⟩⟩,
 ⟨Go.Proofs.Try.underlying96, by kernel_rfl⟩,
 ⟨⟨⟨⟨trivial, ⟨Go.Proofs.Try.underlying97, by kernel_rfl⟩, trivial⟩,
 ⟨Go.Proofs.Try.underlying98, by kernel_rfl⟩, trivial⟩,
 ⟨Go.Proofs.Try.underlying99, by kernel_rfl⟩,
 ⟨⟨trivial, ⟨Go.Proofs.Try.underlying100, by kernel_rfl⟩, trivial⟩,
 ⟨Go.Proofs.Try.underlying101, by kernel_rfl⟩, trivial⟩⟩,
 ⟨Go.Proofs.Try.underlying102, by kernel_rfl⟩,
 ⟨⟨⟨trivial, ⟨Go.Proofs.Try.underlying103, by kernel_rfl⟩, trivial⟩,
 ⟨Go.Proofs.Try.underlying104, by kernel_rfl⟩, trivial⟩,
 ⟨Go.Proofs.Try.underlying105, by kernel_rfl⟩,
 ⟨trivial, ⟨Go.Proofs.Try.underlying106, by kernel_rfl⟩, trivial⟩⟩⟩⟩,
 ⟨Go.Proofs.Try.underlying107, by kernel_rfl⟩,
 ⟨⟨⟨⟨⟨trivial, ⟨Go.Proofs.Try.underlying108, by kernel_rfl⟩, trivial⟩,
 ⟨Go.Proofs.Try.underlying109, by kernel_rfl⟩, trivial⟩,
 ⟨Go.Proofs.Try.underlying110, by kernel_rfl⟩,
 ⟨⟨trivial, ⟨Go.Proofs.Try.underlying111, by kernel_rfl⟩, trivial⟩,
 ⟨Go.Proofs.Try.underlying112, by kernel_rfl⟩, trivial⟩⟩,
 ⟨Go.Proofs.Try.underlying113, by kernel_rfl⟩,
 ⟨⟨⟨trivial, ⟨Go.Proofs.Try.underlying114, by kernel_rfl⟩, trivial⟩,
 ⟨Go.Proofs.Try.underlying115, by kernel_rfl⟩, trivial⟩,
 ⟨Go.Proofs.Try.underlying116, by kernel_rfl⟩,
 ⟨trivial, ⟨Go.Proofs.Try.underlying117, by kernel_rfl⟩, trivial⟩⟩⟩,
 ⟨Go.Proofs.Try.underlying118, by kernel_rfl⟩,
 ⟨⟨⟨⟨trivial, ⟨Go.Proofs.Try.underlying119, by kernel_rfl⟩, trivial⟩,
 ⟨Go.Proofs.Try.underlying120, by kernel_rfl⟩, trivial⟩,
 ⟨Go.Proofs.Try.underlying121, by kernel_rfl⟩,
 ⟨trivial, ⟨Go.Proofs.Try.underlying122, by kernel_rfl⟩, trivial⟩⟩,
 ⟨Go.Proofs.Try.underlying123, by kernel_rfl⟩,
 ⟨⟨⟨trivial, ⟨Go.Proofs.Try.underlying124, by kernel_rfl⟩, trivial⟩,
 ⟨Go.Proofs.Try.underlying125, by kernel_rfl⟩, trivial⟩,
 ⟨Go.Proofs.Try.underlying126, by kernel_rfl⟩,
 ⟨trivial, ⟨Go.Proofs.Try.underlying127, by kernel_rfl⟩, trivial⟩⟩⟩⟩⟩,
 ⟨Go.Proofs.Try.underlying128, by kernel_rfl⟩,
 ⟨⟨⟨⟨⟨⟨trivial, ⟨Go.Proofs.Try.underlying129, by kernel_rfl⟩, trivial⟩,
 ⟨Go.Proofs.Try.underlying130, by kernel_rfl⟩, trivial⟩,
 ⟨Go.Proofs.Try.underlying131, by kernel_rfl⟩,
 ⟨⟨trivial, ⟨Go.Proofs.Try.underlying132, by kernel_rfl⟩, trivial⟩,
 ⟨Go.Proofs.Try.underlying133, by kernel_rfl⟩, trivial⟩⟩,
 ⟨Go.Proofs.Try.underlying134, by kernel_rfl⟩,
 ⟨⟨⟨trivial, ⟨Go.Proofs.Try.underlying135, by kernel_rfl⟩, trivial⟩,
 ⟨Go.Proofs.Try.underlying136, by kernel_rfl⟩, trivial⟩,
 ⟨Go.Proofs.Try.underlying137, by kernel_rfl⟩,
 ⟨trivial, ⟨Go.Proofs.Try.underlying138, by kernel_rfl⟩, trivial⟩⟩⟩,
 ⟨Go.Proofs.Try.underlying139, by kernel_rfl⟩,
 ⟨⟨⟨⟨trivial, ⟨Go.Proofs.Try.underlying140, by kernel_rfl⟩, trivial⟩,
 ⟨Go.Proofs.Try.underlying141, by kernel_rfl⟩, trivial⟩,
 ⟨Go.Proofs.Try.underlying142, by kernel_rfl⟩,
 ⟨trivial, ⟨Go.Proofs.Try.underlying143, by kernel_rfl⟩, trivial⟩⟩,
 ⟨Go.Proofs.Try.underlying144, by kernel_rfl⟩,
 ⟨⟨⟨trivial, ⟨Go.Proofs.Try.underlying145, by kernel_rfl⟩, trivial⟩,
 ⟨Go.Proofs.Try.underlying146, by kernel_rfl⟩, trivial⟩,
 ⟨Go.Proofs.Try.underlying147, by kernel_rfl⟩,
 ⟨trivial, ⟨Go.Proofs.Try.underlying148, by kernel_rfl⟩, trivial⟩⟩⟩⟩,
 ⟨Go.Proofs.Try.underlying149, by kernel_rfl⟩,
 ⟨⟨⟨⟨⟨trivial, ⟨Go.Proofs.Try.underlying150, by kernel_rfl⟩, trivial⟩,
 ⟨Go.Proofs.Try.underlying151, by kernel_rfl⟩, trivial⟩,
 ⟨Go.Proofs.Try.underlying152, by kernel_rfl⟩,
 ⟨⟨trivial, ⟨Go.Proofs.Try.underlying153, by kernel_rfl⟩, trivial⟩,
 ⟨Go.Proofs.Try.underlying154, by kernel_rfl⟩, trivial⟩⟩,
 ⟨Go.Proofs.Try.underlying155, by kernel_rfl⟩,
 ⟨⟨⟨trivial, ⟨Go.Proofs.Try.underlying156, by kernel_rfl⟩, trivial⟩,
 ⟨Go.Proofs.Try.underlying157, by kernel_rfl⟩, trivial⟩,
 ⟨Go.Proofs.Try.underlying158, by kernel_rfl⟩,
 ⟨trivial, ⟨Go.Proofs.Try.underlying159, by kernel_rfl⟩, trivial⟩⟩⟩,
 ⟨Go.Proofs.Try.underlying160, by kernel_rfl⟩,
 ⟨⟨⟨⟨trivial, ⟨Go.Proofs.Try.underlying161, by kernel_rfl⟩, trivial⟩,
 ⟨Go.Proofs.Try.underlying162, by kernel_rfl⟩, trivial⟩,
 ⟨Go.Proofs.Try.underlying163, by kernel_rfl⟩,
 ⟨trivial, ⟨Go.Proofs.Try.underlying164, by kernel_rfl⟩, trivial⟩⟩,
 ⟨Go.Proofs.Try.underlying165, by kernel_rfl⟩,
 ⟨⟨⟨trivial, ⟨Go.Proofs.Try.underlying166, by kernel_rfl⟩, trivial⟩,
 ⟨Go.Proofs.Try.underlying167, by kernel_rfl⟩, trivial⟩,
 ⟨Go.Proofs.Try.underlying168, by kernel_rfl⟩,
 ⟨trivial, ⟨Go.Proofs.Try.underlying169, by kernel_rfl⟩, trivial⟩⟩⟩⟩⟩⟩⟩
def tab : Tab Try.prog := tabOf tree tree_ok
theorem mixed : Try.prog.follows .mixedOrders = true := by kernel_rfl
theorem bod4 : Bodied Try.prog 4 := ⟨_, _, Go.Proofs.Try.func4, rfl, by decide⟩
theorem bod5 : Bodied Try.prog 5 := ⟨_, _, Go.Proofs.Try.func5, rfl, by decide⟩
theorem bod6 : Bodied Try.prog 6 := ⟨_, _, Go.Proofs.Try.func6, rfl, by decide⟩
theorem bod7 : Bodied Try.prog 7 := ⟨_, _, Go.Proofs.Try.func7, rfl, by decide⟩
theorem bod8 : Bodied Try.prog 8 := ⟨_, _, Go.Proofs.Try.func8, rfl, by decide⟩
theorem bod9 : Bodied Try.prog 9 := ⟨_, _, Go.Proofs.Try.func9, rfl, by decide⟩
theorem bod10 : Bodied Try.prog 10 := ⟨_, _, Go.Proofs.Try.func10, rfl, by decide⟩
theorem bod11 : Bodied Try.prog 11 := ⟨_, _, Go.Proofs.Try.func11, rfl, by decide⟩
theorem bod12 : Bodied Try.prog 12 := ⟨_, _, Go.Proofs.Try.func12, rfl, by decide⟩
theorem bod13 : Bodied Try.prog 13 := ⟨_, _, Go.Proofs.Try.func13, rfl, by decide⟩
theorem bod14 : Bodied Try.prog 14 := ⟨_, _, Go.Proofs.Try.func14, rfl, by decide⟩
theorem bod15 : Bodied Try.prog 15 := ⟨_, _, Go.Proofs.Try.func15, rfl, by decide⟩
theorem bod16 : Bodied Try.prog 16 := ⟨_, _, Go.Proofs.Try.func16, rfl, by decide⟩
theorem bod17 : Bodied Try.prog 17 := ⟨_, _, Go.Proofs.Try.func17, rfl, by decide⟩
theorem bod18 : Bodied Try.prog 18 := ⟨_, _, Go.Proofs.Try.func18, rfl, by decide⟩
theorem bod19 : Bodied Try.prog 19 := ⟨_, _, Go.Proofs.Try.func19, rfl, by decide⟩
theorem bod20 : Bodied Try.prog 20 := ⟨_, _, Go.Proofs.Try.func20, rfl, by decide⟩
theorem bod21 : Bodied Try.prog 21 := ⟨_, _, Go.Proofs.Try.func21, rfl, by decide⟩
theorem bod22 : Bodied Try.prog 22 := ⟨_, _, Go.Proofs.Try.func22, rfl, by decide⟩
theorem bod23 : Bodied Try.prog 23 := ⟨_, _, Go.Proofs.Try.func23, rfl, by decide⟩
theorem bod24 : Bodied Try.prog 24 := ⟨_, _, Go.Proofs.Try.func24, rfl, by decide⟩
theorem bod25 : Bodied Try.prog 25 := ⟨_, _, Go.Proofs.Try.func25, rfl, by decide⟩
theorem bod26 : Bodied Try.prog 26 := ⟨_, _, Go.Proofs.Try.func26, rfl, by decide⟩
theorem bod27 : Bodied Try.prog 27 := ⟨_, _, Go.Proofs.Try.func27, rfl, by decide⟩
theorem bod28 : Bodied Try.prog 28 := ⟨_, _, Go.Proofs.Try.func28, rfl, by decide⟩
theorem bod29 : Bodied Try.prog 29 := ⟨_, _, Go.Proofs.Try.func29, rfl, by decide⟩
theorem bod30 : Bodied Try.prog 30 := ⟨_, _, Go.Proofs.Try.func30, rfl, by decide⟩
theorem bod31 : Bodied Try.prog 31 := ⟨_, _, Go.Proofs.Try.func31, rfl, by decide⟩
theorem bod32 : Bodied Try.prog 32 := ⟨_, _, Go.Proofs.Try.func32, rfl, by decide⟩
theorem bod33 : Bodied Try.prog 33 := ⟨_, _, Go.Proofs.Try.func33, rfl, by decide⟩
theorem bod34 : Bodied Try.prog 34 := ⟨_, _, Go.Proofs.Try.func34, rfl, by decide⟩
theorem bod35 : Bodied Try.prog 35 := ⟨_, _, Go.Proofs.Try.func35, rfl, by decide⟩
theorem bod36 : Bodied Try.prog 36 := ⟨_, _, Go.Proofs.Try.func36, rfl, by decide⟩
theorem bod37 : Bodied Try.prog 37 := ⟨_, _, Go.Proofs.Try.func37, rfl, by decide⟩
theorem bod38 : Bodied Try.prog 38 := ⟨_, _, Go.Proofs.Try.func38, rfl, by decide⟩
theorem bod39 : Bodied Try.prog 39 := ⟨_, _, Go.Proofs.Try.func39, rfl, by decide⟩
theorem bod40 : Bodied Try.prog 40 := ⟨_, _, Go.Proofs.Try.func40, rfl, by decide⟩
theorem bod41 : Bodied Try.prog 41 := ⟨_, _, Go.Proofs.Try.func41, rfl, by decide⟩
theorem bod42 : Bodied Try.prog 42 := ⟨_, _, Go.Proofs.Try.func42, rfl, by decide⟩
theorem bod43 : Bodied Try.prog 43 := ⟨_, _, Go.Proofs.Try.func43, rfl, by decide⟩
theorem bod44 : Bodied Try.prog 44 := ⟨_, _, Go.Proofs.Try.func44, rfl, by decide⟩
theorem bod45 : Bodied Try.prog 45 := ⟨_, _, Go.Proofs.Try.func45, rfl, by decide⟩
theorem bod46 : Bodied Try.prog 46 := ⟨_, _, Go.Proofs.Try.func46, rfl, by decide⟩
theorem bod47 : Bodied Try.prog 47 := ⟨_, _, Go.Proofs.Try.func47, rfl, by decide⟩
theorem bod48 : Bodied Try.prog 48 := ⟨_, _, Go.Proofs.Try.func48, rfl, by decide⟩
theorem bod49 : Bodied Try.prog 49 := ⟨_, _, Go.Proofs.Try.func49, rfl, by decide⟩
theorem bod50 : Bodied Try.prog 50 := ⟨_, _, Go.Proofs.Try.func50, rfl, by decide⟩
theorem bod51 : Bodied Try.prog 51 := ⟨_, _, Go.Proofs.Try.func51, rfl, by decide⟩
theorem bod52 : Bodied Try.prog 52 := ⟨_, _, Go.Proofs.Try.func52, rfl, by decide⟩
theorem bod53 : Bodied Try.prog 53 := ⟨_, _, Go.Proofs.Try.func53, rfl, by decide⟩
theorem bod54 : Bodied Try.prog 54 := ⟨_, _, Go.Proofs.Try.func54, rfl, by decide⟩
theorem bod55 : Bodied Try.prog 55 := ⟨_, _, Go.Proofs.Try.func55, rfl, by decide⟩
theorem bod56 : Bodied Try.prog 56 := ⟨_, _, Go.Proofs.Try.func56, rfl, by decide⟩
theorem bod57 : Bodied Try.prog 57 := ⟨_, _, Go.Proofs.Try.func57, rfl, by decide⟩
theorem bod58 : Bodied Try.prog 58 := ⟨_, _, Go.Proofs.Try.func58, rfl, by decide⟩
theorem bod67 : Bodied Try.prog 67 := ⟨_, _, Go.Proofs.Try.func67, rfl, by decide⟩
theorem bod90 : Bodied Try.prog 90 := ⟨_, _, Go.Proofs.Try.func90, rfl, by decide⟩
theorem bod92 : Bodied Try.prog 92 := ⟨_, _, Go.Proofs.Try.func92, rfl, by decide⟩
theorem bod93 : Bodied Try.prog 93 := ⟨_, _, Go.Proofs.Try.func93, rfl, by decide⟩
end Go.Proofs.Ytbbaionoibkohaa
end

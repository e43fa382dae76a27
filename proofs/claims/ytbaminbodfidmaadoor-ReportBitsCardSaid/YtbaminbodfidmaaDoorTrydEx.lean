/- The seat's types and functions, as tables. Printed by a program. -/
import Derived.Test.YtbaminbodfidmaaDoorProg
import Derived.Test.YtbaminbodfidmaaDoorAmShelf
import Derived.Lib.ItoaNum
import Derived.KernelRfl
set_option linter.unusedVariables false
set_option linter.unusedSimpArgs false
namespace Go.Am
open Go Go.Proofs
set_option maxRecDepth 100000
def ti1 : TI := ⟨(.func #[] #[] false), 1, 8, [.nilfn]⟩
def ti2 : TI := ⟨(.int .i64), 1, 8, [(.int .i64 0)]⟩
def ti3 : TI := ⟨(.int .i64), 1, 8, [(.int .i64 0)]⟩
def ti4 : TI := ⟨.bool, 1, 1, [(.bool false)]⟩
def ti5 : TI := ⟨(.int .u8), 1, 1, [(.int .u8 0)]⟩
def ti6 : TI := ⟨(.int .u8), 1, 1, [(.int .u8 0)]⟩
def ti7 : TI := ⟨(.struct #[⟨ "x", 2, 0, false, "", "runtime", 0⟩, ⟨ "y", 3, 1, false, "", "runtime", 8⟩, ⟨ "signed", 4, 2, false, "", "runtime", 16⟩, ⟨ "code", 6, 3, false, "", "runtime", 17⟩]), 4, 24, [(.int .i64 0), (.int .i64 0), (.bool false), (.int .u8 0)]⟩
def ti8 : TI := ⟨(.struct #[⟨ "x", 2, 0, false, "", "runtime", 0⟩, ⟨ "y", 3, 1, false, "", "runtime", 8⟩, ⟨ "signed", 4, 2, false, "", "runtime", 16⟩, ⟨ "code", 6, 3, false, "", "runtime", 17⟩]), 4, 24, [(.int .i64 0), (.int .i64 0), (.bool false), (.int .u8 0)]⟩
def ti9 : TI := ⟨.string, 1, 16, [(.str [])]⟩
def ti10 : TI := ⟨.string, 1, 16, [(.str [])]⟩
def ti11 : TI := ⟨.string, 1, 16, [(.str [])]⟩
def ti12 : TI := ⟨(.int .u64), 1, 8, [(.int .u64 0)]⟩
def ti13 : TI := ⟨(.struct #[⟨ "msg", 9, 0, false, "", "runtime", 0⟩, ⟨ "addr", 12, 1, false, "", "runtime", 16⟩]), 2, 24, [(.str []), (.int .u64 0)]⟩
def ti14 : TI := ⟨(.struct #[⟨ "msg", 9, 0, false, "", "runtime", 0⟩, ⟨ "addr", 12, 1, false, "", "runtime", 16⟩]), 2, 24, [(.str []), (.int .u64 0)]⟩
def ti15 : TI := ⟨(.pointer 127), 1, 8, [.nilp]⟩
def ti16 : TI := ⟨(.pointer 130), 1, 8, [.nilp]⟩
def ti17 : TI := ⟨(.pointer 137), 1, 8, [.nilp]⟩
def ti18 : TI := ⟨(.struct #[⟨ "typ", 17, 0, false, "", "internal/runtime/maps", 0⟩]), 1, 8, [.nilp]⟩
def ti19 : TI := ⟨(.struct #[⟨ "typ", 17, 0, false, "", "internal/runtime/maps", 0⟩]), 1, 8, [.nilp]⟩
def ti20 : TI := ⟨(.interface #[]), 1, 16, [.nilifc]⟩
def ti21 : TI := ⟨(.int .i32), 1, 4, [(.int .i32 0)]⟩
def ti22 : TI := ⟨(.slice 5), 1, 24, [(.sl 1 true [] .any)]⟩
def ti23 : TI := ⟨(.func #[] #[4] false), 1, 8, [.nilfn]⟩
def ti24 : TI := ⟨(.int .u64), 1, 8, [(.int .u64 0)]⟩
def ti25 : TI := ⟨(.array 32 5), 32, 32, bl (List.replicate 32 0)⟩
def ti26 : TI := ⟨(.array 32 5), 32, 32, bl (List.replicate 32 0)⟩
def ti27 : TI := ⟨(.struct #[⟨ "Instance", 24, 0, false, "", "", 0⟩, ⟨ "Measure", 26, 1, false, "", "", 8⟩, ⟨ "Challenge", 26, 33, false, "", "", 40⟩]), 65, 72, [(.int .u64 0)] ++ bl (List.replicate 64 0)⟩
def ti28 : TI := ⟨(.struct #[⟨ "Instance", 24, 0, false, "", "", 0⟩, ⟨ "Measure", 26, 1, false, "", "", 8⟩, ⟨ "Challenge", 26, 33, false, "", "", 40⟩]), 65, 72, [(.int .u64 0)] ++ bl (List.replicate 64 0)⟩
def ti29 : TI := ⟨(.int .i64), 1, 8, [(.int .i64 0)]⟩
def ti31 : TI := ⟨(.func #[22] #[28, 29] false), 1, 8, [.nilfn]⟩
def ti33 : TI := ⟨(.func #[22] #[28, 4] false), 1, 8, [.nilfn]⟩
def ti34 : TI := ⟨(.func #[29] #[3] false), 1, 8, [.nilfn]⟩
def ti35 : TI := ⟨(.func #[9] #[28, 29] false), 1, 8, [.nilfn]⟩
def ti36 : TI := ⟨(.func #[9] #[28, 4] false), 1, 8, [.nilfn]⟩
def ti37 : TI := ⟨(.func #[22, 9] #[4] false), 1, 8, [.nilfn]⟩
def ti38 : TI := ⟨(.func #[28] #[22] false), 1, 8, [.nilfn]⟩
def ti39 : TI := ⟨(.func #[28] #[9] false), 1, 8, [.nilfn]⟩
def ti40 : TI := ⟨(.func #[22, 22] #[4] false), 1, 8, [.nilfn]⟩
def ti41 : TI := ⟨(.func #[] #[3] false), 1, 8, [.nilfn]⟩
def ti42 : TI := ⟨(.func #[28, 28] #[4] false), 1, 8, [.nilfn]⟩
def ti43 : TI := ⟨(.int .u64), 1, 8, [(.int .u64 0)]⟩
def ti44 : TI := ⟨(.func #[28, 3] #[4] false), 1, 8, [.nilfn]⟩
def ti45 : TI := ⟨(.func #[28, 28, 28, 24] #[4] false), 1, 8, [.nilfn]⟩
def ti46 : TI := ⟨(.slice 22), 1, 24, [(.sl 1 true [] .any)]⟩
def ti48 : TI := ⟨(.func #[22, 71] #[46, 29] true), 1, 8, [.nilfn]⟩
def ti50 : TI := ⟨(.func #[22] #[24, 29] false), 1, 8, [.nilfn]⟩
def ti51 : TI := ⟨(.func #[22] #[24] false), 1, 8, [.nilfn]⟩
def ti52 : TI := ⟨(.slice 9), 1, 24, [(.sl 1 true [] .any)]⟩
def ti53 : TI := ⟨(.func #[86] #[] false), 1, 8, [.nilfn]⟩
def ti54 : TI := ⟨(.func #[86] #[] false), 1, 8, [.nilfn]⟩
def ti55 : TI := ⟨(.func #[9, 9] #[54] false), 1, 8, [.nilfn]⟩
def ti56 : TI := ⟨(.interface #[("Error", 84)]), 1, 16, [.nilifc]⟩
def ti57 : TI := ⟨(.interface #[("Error", 84)]), 1, 16, [.nilifc]⟩
def ti59 : TI := ⟨(.func #[9, 3, 3] #[24, 57] false), 1, 8, [.nilfn]⟩
def ti61 : TI := ⟨(.func #[9] #[22, 29] false), 1, 8, [.nilfn]⟩
def ti62 : TI := ⟨(.func #[9] #[52] false), 1, 8, [.nilfn]⟩
def ti64 : TI := ⟨(.func #[9] #[26, 4] false), 1, 8, [.nilfn]⟩
def ti65 : TI := ⟨(.func #[24, 3] #[22, 29] false), 1, 8, [.nilfn]⟩
def ti66 : TI := ⟨(.func #[22] #[] false), 1, 8, [.nilfn]⟩
def ti67 : TI := ⟨(.func #[24, 3] #[9] false), 1, 8, [.nilfn]⟩
def ti68 : TI := ⟨(.func #[22] #[9] false), 1, 8, [.nilfn]⟩
def ti69 : TI := ⟨(.func #[46] #[22] false), 1, 8, [.nilfn]⟩
def ti70 : TI := ⟨(.func #[24, 3] #[22] false), 1, 8, [.nilfn]⟩
def ti71 : TI := ⟨(.slice 3), 1, 24, [(.sl 1 true [] .any)]⟩
def ti72 : TI := ⟨(.func #[71, 73] #[4] false), 1, 8, [.nilfn]⟩
def ti73 : TI := ⟨(.func #[3] #[4] false), 1, 8, [.nilfn]⟩
def ti74 : TI := ⟨(.func #[22] #[22] false), 1, 8, [.nilfn]⟩
def ti75 : TI := ⟨(.func #[9, 9, 3] #[54] false), 1, 8, [.nilfn]⟩
def ti76 : TI := ⟨(.func #[9, 9, 3, 3, 57] #[57] false), 1, 8, [.nilfn]⟩
def ti77 : TI := ⟨(.func #[9, 5] #[3] false), 1, 8, [.nilfn]⟩
def ti79 : TI := ⟨(.func #[9] #[22, 4] false), 1, 8, [.nilfn]⟩
def ti80 : TI := ⟨(.pointer 82), 1, 8, [.nilp]⟩
def ti81 : TI := ⟨(.struct #[⟨ "addr", 80, 0, false, "", "strings", 0⟩, ⟨ "buf", 22, 1, false, "", "strings", 8⟩]), 2, 32, [.nilp, (.sl 1 true [] .any)]⟩
def ti82 : TI := ⟨(.struct #[⟨ "addr", 80, 0, false, "", "strings", 0⟩, ⟨ "buf", 22, 1, false, "", "strings", 8⟩]), 2, 32, [.nilp, (.sl 1 true [] .any)]⟩
def ti83 : TI := ⟨(.func #[5] #[57] false), 1, 8, [.nilfn]⟩
def ti84 : TI := ⟨(.func #[] #[9] false), 1, 8, [.nilfn]⟩
def ti85 : TI := ⟨(.func #[71, 73] #[3] false), 1, 8, [.nilfn]⟩
def ti86 : TI := ⟨(.func #[9] #[4] false), 1, 8, [.nilfn]⟩
def ti88 : TI := ⟨(.func #[9] #[21, 3] false), 1, 8, [.nilfn]⟩
def ti89 : TI := ⟨(.func #[9, 9] #[3] false), 1, 8, [.nilfn]⟩
def ti90 : TI := ⟨(.int .i64), 1, 8, [(.int .i64 0)]⟩
def ti91 : TI := ⟨(.func #[5] #[5] false), 1, 8, [.nilfn]⟩
def ti92 : TI := ⟨(.pointer 104), 1, 8, [.nilp]⟩
def ti93 : TI := ⟨(.func #[9, 9] #[92] false), 1, 8, [.nilfn]⟩
def ti94 : TI := ⟨(.func #[9, 9, 3] #[92] false), 1, 8, [.nilfn]⟩
def ti95 : TI := ⟨(.func #[3] #[9] false), 1, 8, [.nilfn]⟩
def ti96 : TI := ⟨(.array 24 5), 24, 24, bl (List.replicate 24 0)⟩
def ti97 : TI := ⟨(.func #[24] #[3] false), 1, 8, [.nilfn]⟩
def ti98 : TI := ⟨(.func #[22, 24] #[] false), 1, 8, [.nilfn]⟩
def ti100 : TI := ⟨(.func #[22, 24, 3, 4, 4] #[22, 9] false), 1, 8, [.nilfn]⟩
def ti101 : TI := ⟨(.pointer 5), 1, 8, [.nilp]⟩
def ti102 : TI := ⟨(.func #[9] #[9] false), 1, 8, [.nilfn]⟩
def ti103 : TI := ⟨(.struct #[⟨ "Func", 9, 0, false, "", "", 0⟩, ⟨ "Num", 9, 1, false, "", "", 16⟩, ⟨ "Err", 57, 2, false, "", "", 32⟩]), 3, 48, [(.str []), (.str []), .nilifc]⟩
def ti104 : TI := ⟨(.struct #[⟨ "Func", 9, 0, false, "", "", 0⟩, ⟨ "Num", 9, 1, false, "", "", 16⟩, ⟨ "Err", 57, 2, false, "", "", 32⟩]), 3, 48, [(.str []), (.str []), .nilifc]⟩
def ti105 : TI := ⟨(.func #[9] #[57] false), 1, 8, [.nilfn]⟩
def ti106 : TI := ⟨(.func #[3] #[3] false), 1, 8, [.nilfn]⟩
def ti107 : TI := ⟨(.func #[4] #[3] false), 1, 8, [.nilfn]⟩
def ti108 : TI := ⟨(.array 20 24), 20, 160, List.replicate 20 (.int .u64 0)⟩
def ti109 : TI := ⟨(.int .u32), 1, 4, [(.int .u32 0)]⟩
def ti110 : TI := ⟨(.array 65 5), 65, 65, bl (List.replicate 65 0)⟩
def ti111 : TI := ⟨(.func #[43] #[3] false), 1, 8, [.nilfn]⟩
def ti112 : TI := ⟨.unsafePointer, 1, 8, [.nilp]⟩
def ti113 : TI := ⟨(.func #[112] #[112] false), 1, 8, [.nilfn]⟩
def ti114 : TI := ⟨(.array 256 5), 256, 256, bl (List.replicate 256 0)⟩
def ti115 : TI := ⟨(.struct #[⟨ "lo", 5, 0, false, "", "unicode/utf8", 0⟩, ⟨ "hi", 5, 1, false, "", "unicode/utf8", 1⟩]), 2, 2, [(.int .u8 0), (.int .u8 0)]⟩
def ti116 : TI := ⟨(.struct #[⟨ "lo", 5, 0, false, "", "unicode/utf8", 0⟩, ⟨ "hi", 5, 1, false, "", "unicode/utf8", 1⟩]), 2, 2, [(.int .u8 0), (.int .u8 0)]⟩
def ti117 : TI := ⟨(.array 16 116), 32, 32, bl (List.replicate 32 0)⟩
def ti118 : TI := ⟨(.pointer 120), 1, 8, [.nilp]⟩
def ti119 : TI := ⟨(.struct #[⟨ "s", 9, 0, false, "", "errors", 0⟩]), 1, 16, [(.str [])]⟩
def ti120 : TI := ⟨(.struct #[⟨ "s", 9, 0, false, "", "errors", 0⟩]), 1, 16, [(.str [])]⟩
def ti121 : TI := ⟨(.func #[109] #[3] false), 1, 8, [.nilfn]⟩
def ti123 : TI := ⟨(.func #[9] #[109, 109] false), 1, 8, [.nilfn]⟩
def ti124 : TI := ⟨(.func #[2, 3] #[9] false), 1, 8, [.nilfn]⟩
def ti125 : TI := ⟨(.array 64 5), 64, 64, bl (List.replicate 64 0)⟩
def ti126 : TI := ⟨(.struct #[⟨ "_interface", 17, 0, false, "", "runtime", 0⟩, ⟨ "concrete", 17, 1, false, "", "runtime", 8⟩, ⟨ "asserted", 17, 2, false, "", "runtime", 16⟩, ⟨ "missingMethod", 9, 3, false, "", "runtime", 24⟩]), 4, 40, [.nilp, .nilp, .nilp, (.str [])]⟩
def ti127 : TI := ⟨(.struct #[⟨ "_interface", 17, 0, false, "", "runtime", 0⟩, ⟨ "concrete", 17, 1, false, "", "runtime", 8⟩, ⟨ "asserted", 17, 2, false, "", "runtime", 16⟩, ⟨ "missingMethod", 9, 3, false, "", "runtime", 24⟩]), 4, 40, [.nilp, .nilp, .nilp, (.str [])]⟩
def ti128 : TI := ⟨(.array 0 16), 0, 0, []⟩
def ti129 : TI := ⟨(.struct #[⟨ "_", 128, 0, false, "", "runtime", 0⟩]), 0, 0, []⟩
def ti130 : TI := ⟨(.struct #[⟨ "_", 128, 0, false, "", "runtime", 0⟩]), 0, 0, []⟩
def ti131 : TI := ⟨(.int .u8), 1, 1, [(.int .u8 0)]⟩
def ti132 : TI := ⟨(.int .u8), 1, 1, [(.int .u8 0)]⟩
def ti133 : TI := ⟨(.func #[112, 112] #[4] false), 1, 8, [.nilfn]⟩
def ti134 : TI := ⟨(.int .i32), 1, 4, [(.int .i32 0)]⟩
def ti135 : TI := ⟨(.int .i32), 1, 4, [(.int .i32 0)]⟩
def ti136 : TI := ⟨(.struct #[⟨ "Size_", 12, 0, false, "", "", 0⟩, ⟨ "PtrBytes", 12, 1, false, "", "", 8⟩, ⟨ "Hash", 109, 2, false, "", "", 16⟩, ⟨ "TFlag", 131, 3, false, "", "", 20⟩, ⟨ "Align_", 5, 4, false, "", "", 21⟩, ⟨ "FieldAlign_", 5, 5, false, "", "", 22⟩, ⟨ "Kind_", 132, 6, false, "", "", 23⟩, ⟨ "Equal", 133, 7, false, "", "", 24⟩, ⟨ "GCData", 101, 8, false, "", "", 32⟩, ⟨ "Str", 134, 9, false, "", "", 40⟩, ⟨ "PtrToThis", 135, 10, false, "", "", 44⟩]), 11, 48, [(.int .u64 0), (.int .u64 0), (.int .u32 0), (.int .u8 0), (.int .u8 0), (.int .u8 0), (.int .u8 0), .nilfn, .nilp, (.int .i32 0), (.int .i32 0)]⟩
def ti137 : TI := ⟨(.struct #[⟨ "Size_", 12, 0, false, "", "", 0⟩, ⟨ "PtrBytes", 12, 1, false, "", "", 8⟩, ⟨ "Hash", 109, 2, false, "", "", 16⟩, ⟨ "TFlag", 131, 3, false, "", "", 20⟩, ⟨ "Align_", 5, 4, false, "", "", 21⟩, ⟨ "FieldAlign_", 5, 5, false, "", "", 22⟩, ⟨ "Kind_", 132, 6, false, "", "", 23⟩, ⟨ "Equal", 133, 7, false, "", "", 24⟩, ⟨ "GCData", 101, 8, false, "", "", 32⟩, ⟨ "Str", 134, 9, false, "", "", 40⟩, ⟨ "PtrToThis", 135, 10, false, "", "", 44⟩]), 11, 48, [(.int .u64 0), (.int .u64 0), (.int .u32 0), (.int .u8 0), (.int .u8 0), (.int .u8 0), (.int .u8 0), .nilfn, .nilp, (.int .i32 0), (.int .i32 0)]⟩
def tT (t : TypeId) : Option TI := (bif Nat.blt t 71 then (bif Nat.blt t 34 then (bif Nat.blt t 16 then (bif Nat.blt t 8 then (bif Nat.blt t 4 then (bif Nat.blt t 2 then (bif Nat.blt t 1 then none else bif Nat.beq t 1 then some ti1 else none) else bif Nat.beq t 2 then some ti2 else (bif Nat.blt t 3 then none else bif Nat.beq t 3 then some ti3 else none)) else bif Nat.beq t 4 then some ti4 else (bif Nat.blt t 6 then (bif Nat.blt t 5 then none else bif Nat.beq t 5 then some ti5 else none) else bif Nat.beq t 6 then some ti6 else (bif Nat.blt t 7 then none else bif Nat.beq t 7 then some ti7 else none))) else bif Nat.beq t 8 then some ti8 else (bif Nat.blt t 12 then (bif Nat.blt t 10 then (bif Nat.blt t 9 then none else bif Nat.beq t 9 then some ti9 else none) else bif Nat.beq t 10 then some ti10 else (bif Nat.blt t 11 then none else bif Nat.beq t 11 then some ti11 else none)) else bif Nat.beq t 12 then some ti12 else (bif Nat.blt t 14 then (bif Nat.blt t 13 then none else bif Nat.beq t 13 then some ti13 else none) else bif Nat.beq t 14 then some ti14 else (bif Nat.blt t 15 then none else bif Nat.beq t 15 then some ti15 else none)))) else bif Nat.beq t 16 then some ti16 else (bif Nat.blt t 24 then (bif Nat.blt t 20 then (bif Nat.blt t 18 then (bif Nat.blt t 17 then none else bif Nat.beq t 17 then some ti17 else none) else bif Nat.beq t 18 then some ti18 else (bif Nat.blt t 19 then none else bif Nat.beq t 19 then some ti19 else none)) else bif Nat.beq t 20 then some ti20 else (bif Nat.blt t 22 then (bif Nat.blt t 21 then none else bif Nat.beq t 21 then some ti21 else none) else bif Nat.beq t 22 then some ti22 else (bif Nat.blt t 23 then none else bif Nat.beq t 23 then some ti23 else none))) else bif Nat.beq t 24 then some ti24 else (bif Nat.blt t 28 then (bif Nat.blt t 26 then (bif Nat.blt t 25 then none else bif Nat.beq t 25 then some ti25 else none) else bif Nat.beq t 26 then some ti26 else (bif Nat.blt t 27 then none else bif Nat.beq t 27 then some ti27 else none)) else bif Nat.beq t 28 then some ti28 else (bif Nat.blt t 31 then (bif Nat.blt t 29 then none else bif Nat.beq t 29 then some ti29 else none) else bif Nat.beq t 31 then some ti31 else (bif Nat.blt t 33 then none else bif Nat.beq t 33 then some ti33 else none))))) else bif Nat.beq t 34 then some ti34 else (bif Nat.blt t 52 then (bif Nat.blt t 42 then (bif Nat.blt t 38 then (bif Nat.blt t 36 then (bif Nat.blt t 35 then none else bif Nat.beq t 35 then some ti35 else none) else bif Nat.beq t 36 then some ti36 else (bif Nat.blt t 37 then none else bif Nat.beq t 37 then some ti37 else none)) else bif Nat.beq t 38 then some ti38 else (bif Nat.blt t 40 then (bif Nat.blt t 39 then none else bif Nat.beq t 39 then some ti39 else none) else bif Nat.beq t 40 then some ti40 else (bif Nat.blt t 41 then none else bif Nat.beq t 41 then some ti41 else none))) else bif Nat.beq t 42 then some ti42 else (bif Nat.blt t 46 then (bif Nat.blt t 44 then (bif Nat.blt t 43 then none else bif Nat.beq t 43 then some ti43 else none) else bif Nat.beq t 44 then some ti44 else (bif Nat.blt t 45 then none else bif Nat.beq t 45 then some ti45 else none)) else bif Nat.beq t 46 then some ti46 else (bif Nat.blt t 50 then (bif Nat.blt t 48 then none else bif Nat.beq t 48 then some ti48 else none) else bif Nat.beq t 50 then some ti50 else (bif Nat.blt t 51 then none else bif Nat.beq t 51 then some ti51 else none)))) else bif Nat.beq t 52 then some ti52 else (bif Nat.blt t 62 then (bif Nat.blt t 56 then (bif Nat.blt t 54 then (bif Nat.blt t 53 then none else bif Nat.beq t 53 then some ti53 else none) else bif Nat.beq t 54 then some ti54 else (bif Nat.blt t 55 then none else bif Nat.beq t 55 then some ti55 else none)) else bif Nat.beq t 56 then some ti56 else (bif Nat.blt t 59 then (bif Nat.blt t 57 then none else bif Nat.beq t 57 then some ti57 else none) else bif Nat.beq t 59 then some ti59 else (bif Nat.blt t 61 then none else bif Nat.beq t 61 then some ti61 else none))) else bif Nat.beq t 62 then some ti62 else (bif Nat.blt t 67 then (bif Nat.blt t 65 then (bif Nat.blt t 64 then none else bif Nat.beq t 64 then some ti64 else none) else bif Nat.beq t 65 then some ti65 else (bif Nat.blt t 66 then none else bif Nat.beq t 66 then some ti66 else none)) else bif Nat.beq t 67 then some ti67 else (bif Nat.blt t 69 then (bif Nat.blt t 68 then none else bif Nat.beq t 68 then some ti68 else none) else bif Nat.beq t 69 then some ti69 else (bif Nat.blt t 70 then none else bif Nat.beq t 70 then some ti70 else none)))))) else bif Nat.beq t 71 then some ti71 else (bif Nat.blt t 106 then (bif Nat.blt t 89 then (bif Nat.blt t 80 then (bif Nat.blt t 75 then (bif Nat.blt t 73 then (bif Nat.blt t 72 then none else bif Nat.beq t 72 then some ti72 else none) else bif Nat.beq t 73 then some ti73 else (bif Nat.blt t 74 then none else bif Nat.beq t 74 then some ti74 else none)) else bif Nat.beq t 75 then some ti75 else (bif Nat.blt t 77 then (bif Nat.blt t 76 then none else bif Nat.beq t 76 then some ti76 else none) else bif Nat.beq t 77 then some ti77 else (bif Nat.blt t 79 then none else bif Nat.beq t 79 then some ti79 else none))) else bif Nat.beq t 80 then some ti80 else (bif Nat.blt t 84 then (bif Nat.blt t 82 then (bif Nat.blt t 81 then none else bif Nat.beq t 81 then some ti81 else none) else bif Nat.beq t 82 then some ti82 else (bif Nat.blt t 83 then none else bif Nat.beq t 83 then some ti83 else none)) else bif Nat.beq t 84 then some ti84 else (bif Nat.blt t 86 then (bif Nat.blt t 85 then none else bif Nat.beq t 85 then some ti85 else none) else bif Nat.beq t 86 then some ti86 else (bif Nat.blt t 88 then none else bif Nat.beq t 88 then some ti88 else none)))) else bif Nat.beq t 89 then some ti89 else (bif Nat.blt t 97 then (bif Nat.blt t 93 then (bif Nat.blt t 91 then (bif Nat.blt t 90 then none else bif Nat.beq t 90 then some ti90 else none) else bif Nat.beq t 91 then some ti91 else (bif Nat.blt t 92 then none else bif Nat.beq t 92 then some ti92 else none)) else bif Nat.beq t 93 then some ti93 else (bif Nat.blt t 95 then (bif Nat.blt t 94 then none else bif Nat.beq t 94 then some ti94 else none) else bif Nat.beq t 95 then some ti95 else (bif Nat.blt t 96 then none else bif Nat.beq t 96 then some ti96 else none))) else bif Nat.beq t 97 then some ti97 else (bif Nat.blt t 102 then (bif Nat.blt t 100 then (bif Nat.blt t 98 then none else bif Nat.beq t 98 then some ti98 else none) else bif Nat.beq t 100 then some ti100 else (bif Nat.blt t 101 then none else bif Nat.beq t 101 then some ti101 else none)) else bif Nat.beq t 102 then some ti102 else (bif Nat.blt t 104 then (bif Nat.blt t 103 then none else bif Nat.beq t 103 then some ti103 else none) else bif Nat.beq t 104 then some ti104 else (bif Nat.blt t 105 then none else bif Nat.beq t 105 then some ti105 else none))))) else bif Nat.beq t 106 then some ti106 else (bif Nat.blt t 123 then (bif Nat.blt t 114 then (bif Nat.blt t 110 then (bif Nat.blt t 108 then (bif Nat.blt t 107 then none else bif Nat.beq t 107 then some ti107 else none) else bif Nat.beq t 108 then some ti108 else (bif Nat.blt t 109 then none else bif Nat.beq t 109 then some ti109 else none)) else bif Nat.beq t 110 then some ti110 else (bif Nat.blt t 112 then (bif Nat.blt t 111 then none else bif Nat.beq t 111 then some ti111 else none) else bif Nat.beq t 112 then some ti112 else (bif Nat.blt t 113 then none else bif Nat.beq t 113 then some ti113 else none))) else bif Nat.beq t 114 then some ti114 else (bif Nat.blt t 118 then (bif Nat.blt t 116 then (bif Nat.blt t 115 then none else bif Nat.beq t 115 then some ti115 else none) else bif Nat.beq t 116 then some ti116 else (bif Nat.blt t 117 then none else bif Nat.beq t 117 then some ti117 else none)) else bif Nat.beq t 118 then some ti118 else (bif Nat.blt t 120 then (bif Nat.blt t 119 then none else bif Nat.beq t 119 then some ti119 else none) else bif Nat.beq t 120 then some ti120 else (bif Nat.blt t 121 then none else bif Nat.beq t 121 then some ti121 else none)))) else bif Nat.beq t 123 then some ti123 else (bif Nat.blt t 131 then (bif Nat.blt t 127 then (bif Nat.blt t 125 then (bif Nat.blt t 124 then none else bif Nat.beq t 124 then some ti124 else none) else bif Nat.beq t 125 then some ti125 else (bif Nat.blt t 126 then none else bif Nat.beq t 126 then some ti126 else none)) else bif Nat.beq t 127 then some ti127 else (bif Nat.blt t 129 then (bif Nat.blt t 128 then none else bif Nat.beq t 128 then some ti128 else none) else bif Nat.beq t 129 then some ti129 else (bif Nat.blt t 130 then none else bif Nat.beq t 130 then some ti130 else none))) else bif Nat.beq t 131 then some ti131 else (bif Nat.blt t 135 then (bif Nat.blt t 133 then (bif Nat.blt t 132 then none else bif Nat.beq t 132 then some ti132 else none) else bif Nat.beq t 133 then some ti133 else (bif Nat.blt t 134 then none else bif Nat.beq t 134 then some ti134 else none)) else bif Nat.beq t 135 then some ti135 else (bif Nat.blt t 137 then (bif Nat.blt t 136 then none else bif Nat.beq t 136 then some ti136 else none) else bif Nat.beq t 137 then some ti137 else none))))))
noncomputable def gT (g : Nat) : Option AVal := bif Nat.beq g 0 then some (.any) else bif Nat.beq g 1 then some (.any) else bif Nat.beq g 2 then some (.cptr (Lib.pow10Tab.map fun z => .int .u64 z)) else bif Nat.beq g 5 then some (.cptr [.any]) else none
theorem cond_some {α : Type} {b : Bool} {x y : Option α} {e : α} (h : (bif b then x else y) = some e) : (b = true ∧ x = some e) ∨ (b = false ∧ y = some e) := by cases b <;> simp_all
noncomputable def cx : Cx := ⟨Tryd.prog, tT, gT, fun _ => false, fun _ => none⟩
theorem tT_small : (List.range 138).map tT = (List.range 138).map (tyB Tryd.prog 138) := by kernel_rfl
theorem nblt (t k : Nat) (h : k ≤ t) : Nat.blt t k = false := by cases hb : Nat.blt t k; rfl; exact absurd (blt_iff.1 hb) (by omega)
theorem nbne (t k : Nat) (h : t ≠ k) : Nat.beq t k = false := by cases hb : Nat.beq t k; rfl; exact absurd (nbeq hb) h
theorem tT_big (t : Nat) (h : 138 ≤ t) : tT t = none := by
  unfold tT
  rw [show Nat.blt t 71 = false from nblt t 71 (by omega), cond_false, show Nat.beq t 71 = false from nbne t 71 (by omega), cond_false, show Nat.blt t 106 = false from nblt t 106 (by omega), cond_false, show Nat.beq t 106 = false from nbne t 106 (by omega), cond_false, show Nat.blt t 123 = false from nblt t 123 (by omega), cond_false, show Nat.beq t 123 = false from nbne t 123 (by omega), cond_false, show Nat.blt t 131 = false from nblt t 131 (by omega), cond_false, show Nat.beq t 131 = false from nbne t 131 (by omega), cond_false, show Nat.blt t 135 = false from nblt t 135 (by omega), cond_false, show Nat.beq t 135 = false from nbne t 135 (by omega), cond_false, show Nat.blt t 137 = false from nblt t 137 (by omega), cond_false, show Nat.beq t 137 = false from nbne t 137 (by omega), cond_false]
theorem tT_eq (t : TypeId) (i : TI) (h : tT t = some i) : tyB Tryd.prog 138 t = some i := by
  rcases Nat.lt_or_ge t 138 with hl | hl
  · have := congrArg (fun l => l[t]?) tT_small
    simp only [List.getElem?_map, List.getElem?_range hl, Option.map_some, Option.some.injEq] at this
    rw [← this]; exact h
  · exact absurd h (by have e := tT_big t hl; rw [e]; exact fun h => by cases h)
theorem cxT : TOk cx.P cx.T := by
  have h : TOk Tryd.prog (tyB Tryd.prog 138) := tyB_ok (by kernel_rfl)
  have e : tyB Tryd.prog 138 = tT := by
    funext t
    rcases Nat.lt_or_ge t 138 with hl | hl
    · have := congrArg (fun l => l[t]?) tT_small
      simp only [List.getElem?_map, List.getElem?_range hl, Option.map_some, Option.some.injEq] at this
      exact this.symm
    · rw [tT_big t hl]
      unfold tyB basicOk
      rw [decide_eq_false (Nat.not_lt.2 hl : ¬ (t : Nat) < 138)]
      rfl
  rw [e] at h
  exact h
theorem cxOk : cx.Ok := ⟨cxT, fun t i h => cells_of t i (tT_eq t i h), by kernel_rfl⟩
theorem cxG : GClosed cx := fun g v h => by
  have h : gT g = some v := h
  unfold gT at h
  rcases cond_some h with ⟨_, h⟩ | ⟨_, h⟩
  · injection h with h
    subst h
    first | exact .any | exact .cptr _ (fun c hc => by obtain ⟨z, _, rfl⟩ := List.mem_map.1 hc; exact .int _ _) | exact .cptr _ (fun c hc => by obtain rfl := List.mem_singleton.1 hc; exact .any)
  rcases cond_some h with ⟨_, h⟩ | ⟨_, h⟩
  · injection h with h
    subst h
    first | exact .any | exact .cptr _ (fun c hc => by obtain ⟨z, _, rfl⟩ := List.mem_map.1 hc; exact .int _ _) | exact .cptr _ (fun c hc => by obtain rfl := List.mem_singleton.1 hc; exact .any)
  rcases cond_some h with ⟨_, h⟩ | ⟨_, h⟩
  · injection h with h
    subst h
    first | exact .any | exact .cptr _ (fun c hc => by obtain ⟨z, _, rfl⟩ := List.mem_map.1 hc; exact .int _ _) | exact .cptr _ (fun c hc => by obtain rfl := List.mem_singleton.1 hc; exact .any)
  rcases cond_some h with ⟨_, h⟩ | ⟨_, h⟩
  · injection h with h
    subst h
    first | exact .any | exact .cptr _ (fun c hc => by obtain ⟨z, _, rfl⟩ := List.mem_map.1 hc; exact .int _ _) | exact .cptr _ (fun c hc => by obtain rfl := List.mem_singleton.1 hc; exact .any)
  cases h
/-- A function of the program's, as the reckoning has it. -/
def mkFE (fn : Func) (q : Nat → Option UL) (pl : Bool) : FE := ⟨LB fn, fn.ntmps, fn.results.toList, q, pl⟩
def FEOk (f : FuncId) (e : FE) : Prop := FnOk cx f e.body e.N e.rs ∧ BodyOk cx f pF e.q
inductive Tr
  | z
  | n (l : Tr) (k : Nat) (v : FE) (r : Tr)
def Tr.get : Tr → Nat → Option FE
  | .z, _ => none
  | .n l k v r, f => bif Nat.blt f k then l.get f else bif Nat.beq f k then some v else r.get f
def Tr.All : Tr → Prop
  | .z => True
  | .n l k v r => l.All ∧ FEOk k v ∧ r.All
theorem Tr.ok : ∀ {t : Tr} {f : Nat} {e : FE}, t.All → t.get f = some e → FEOk f e
  | .z, _, _, _, h => by cases h
  | .n l k v r, f, e, a, h => by
    rcases cond_some (h : (bif Nat.blt f k then l.get f else bif Nat.beq f k then some v else r.get f) = some e) with ⟨_, h1⟩ | ⟨_, h1⟩
    · exact Tr.ok a.1 h1
    · rcases cond_some h1 with ⟨d, h2⟩ | ⟨_, h2⟩
      · have hk := nbeq d
        have hv := Option.some.inj h2
        rw [hk, ← hv]
        exact a.2.1
      · exact Tr.ok a.2.2 h2
def q0 (_ : Nat) : Option UL := none
noncomputable def fe3 : FE := mkFE Tryd.f3 (q0) true
noncomputable def fe4 : FE := mkFE Tryd.f4 (fun i => bif Nat.beq i 3 then some [(some 15, some 14)] else bif Nat.beq i 6 then some [(some 48, some 47), (some 49, some 47), (some 56, some 55), (some 59, some 55), (some 59, some 57), (some 60, some 55), (some 60, some 57)] else none) true
noncomputable def fe5 : FE := mkFE Tryd.f5 (q0) true
noncomputable def fe6 : FE := mkFE Tryd.f6 (fun i => bif Nat.beq i 1 then some [(some 7, some 6), (some 13, some 12), (some 21, some 20), (some 22, some 20)] else none) true
noncomputable def fe7 : FE := mkFE Tryd.f7 (fun i => bif Nat.beq i 3 then some [(some 19, some 18), (some 20, some 18), (some 22, some 18), (some 22, some 21), (some 23, some 18), (some 23, some 21)] else none) true
noncomputable def fe8 : FE := mkFE Tryd.f8 (q0) true
noncomputable def fe9 : FE := mkFE Tryd.f9 (q0) true
noncomputable def fe10 : FE := mkFE Tryd.f10 (q0) true
noncomputable def fe11 : FE := mkFE Tryd.f11 (q0) true
noncomputable def fe12 : FE := mkFE Tryd.f12 (fun i => bif Nat.beq i 12 then some [(some 69, some 12), (some 72, some 12)] else none) true
noncomputable def fe13 : FE := mkFE Tryd.f13 (q0) true
noncomputable def fe14 : FE := mkFE Tryd.f14 (q0) false
noncomputable def fe15 : FE := mkFE Tryd.f15 (q0) true
noncomputable def fe16 : FE := mkFE Tryd.f16 (q0) true
noncomputable def fe17 : FE := mkFE Tryd.f17 (q0) true
noncomputable def fe18 : FE := mkFE Tryd.f18 (q0) false
noncomputable def fe19 : FE := mkFE Tryd.f19 (q0) true
noncomputable def fe20 : FE := mkFE Tryd.f20 (q0) true
noncomputable def fe21 : FE := mkFE Tryd.f21 (q0) true
noncomputable def fe22 : FE := mkFE Tryd.f22 (q0) false
noncomputable def fe23 : FE := mkFE Tryd.f23 (q0) true
noncomputable def fe24 : FE := mkFE Tryd.f24 (q0) true
noncomputable def fe25 : FE := mkFE Tryd.f25 (q0) false
noncomputable def fe26 : FE := mkFE Tryd.f26 (q0) false
noncomputable def fe27 : FE := mkFE Tryd.f27 (q0) false
noncomputable def fe28 : FE := mkFE Tryd.f28 (q0) false
noncomputable def fe29 : FE := mkFE Tryd.f29 (q0) true
noncomputable def fe30 : FE := mkFE Tryd.f30 (q0) false
noncomputable def fe31 : FE := mkFE Tryd.f31 (q0) true
noncomputable def fe32 : FE := mkFE Tryd.f32 (q0) true
noncomputable def fe33 : FE := mkFE Tryd.f33 (q0) true
noncomputable def fe34 : FE := mkFE Tryd.f34 (q0) false
noncomputable def fe35 : FE := mkFE Tryd.f35 (q0) false
noncomputable def fe36 : FE := mkFE Tryd.f36 (q0) true
noncomputable def fe37 : FE := mkFE Tryd.f37 (q0) true
noncomputable def fe38 : FE := mkFE Tryd.f38 (q0) true
noncomputable def fe39 : FE := mkFE Tryd.f39 (q0) true
noncomputable def fe40 : FE := mkFE Tryd.f40 (q0) true
noncomputable def fe41 : FE := mkFE Tryd.f41 (q0) false
noncomputable def fe42 : FE := mkFE Tryd.f42 (q0) false
noncomputable def fe43 : FE := mkFE Tryd.f43 (q0) false
noncomputable def fe44 : FE := mkFE Tryd.f44 (q0) true
noncomputable def fe45 : FE := mkFE Tryd.f45 (q0) false
noncomputable def fe46 : FE := mkFE Tryd.f46 (q0) true
noncomputable def fe47 : FE := mkFE Tryd.f47 (q0) false
noncomputable def fe48 : FE := mkFE Tryd.f48 (fun i => bif Nat.beq i 1 then some [(some 11, some 7)] else none) true
noncomputable def fe49 : FE := mkFE Tryd.f49 (q0) true
noncomputable def fe50 : FE := mkFE Tryd.f50 (q0) true
noncomputable def fe51 : FE := mkFE Tryd.f51 (q0) true
noncomputable def fe52 : FE := mkFE Tryd.f52 (q0) true
noncomputable def fe53 : FE := mkFE Tryd.f53 (q0) true
noncomputable def fe54 : FE := mkFE Tryd.f54 (q0) true
noncomputable def fe55 : FE := mkFE Tryd.f55 (fun i => bif Nat.beq i 1 then some [(some 8, some 7)] else none) false
noncomputable def fe56 : FE := mkFE Tryd.f56 (fun i => bif Nat.beq i 1 then some [(some 8, some 7)] else none) false
noncomputable def fe57 : FE := mkFE Tryd.f57 (q0) false
noncomputable def fe58 : FE := mkFE Tryd.f58 (q0) false
noncomputable def fe59 : FE := mkFE Tryd.f59 (q0) true
noncomputable def fe60 : FE := mkFE Tryd.f60 (q0) true
noncomputable def fe61 : FE := mkFE Tryd.f61 (q0) true
noncomputable def fe62 : FE := mkFE Tryd.f62 (q0) true
noncomputable def fe63 : FE := mkFE Tryd.f63 (q0) true
noncomputable def fe64 : FE := mkFE Tryd.f64 (q0) false
noncomputable def fe65 : FE := mkFE Tryd.f65 (q0) true
noncomputable def fe66 : FE := mkFE Tryd.f66 (q0) true
noncomputable def fe67 : FE := mkFE Tryd.f67 (q0) true
noncomputable def fe68 : FE := mkFE Tryd.f68 (q0) true
noncomputable def fe69 : FE := mkFE Tryd.f69 (q0) false
noncomputable def fe70 : FE := mkFE Tryd.f70 (q0) true
noncomputable def fe72 : FE := mkFE Tryd.f72 (q0) true
noncomputable def fe73 : FE := mkFE Tryd.f73 (q0) true
noncomputable def fe74 : FE := mkFE Tryd.f74 (q0) true
noncomputable def fe75 : FE := mkFE Tryd.f75 (q0) true
noncomputable def fe76 : FE := mkFE Tryd.f76 (q0) true
noncomputable def fe79 : FE := mkFE Tryd.f79 (q0) true
noncomputable def fe80 : FE := mkFE Tryd.f80 (q0) true
noncomputable def fe81 : FE := mkFE Tryd.f81 (q0) true
noncomputable def fe82 : FE := mkFE Tryd.f82 (q0) true
noncomputable def fe83 : FE := mkFE Tryd.f83 (q0) true
noncomputable def fe84 : FE := mkFE Tryd.f84 (q0) true
noncomputable def fe85 : FE := mkFE Tryd.f85 (q0) true
noncomputable def tabT : Tr := (.n (.n (.n (.n (.n (.n (.n .z 3 fe3 .z) 4 fe4 .z) 5 fe5 (.n (.n .z 6 fe6 .z) 7 fe7 .z)) 8 fe8 (.n (.n (.n .z 9 fe9 .z) 10 fe10 .z) 11 fe11 (.n .z 12 fe12 .z))) 13 fe13 (.n (.n (.n (.n .z 14 fe14 .z) 15 fe15 .z) 16 fe16 (.n .z 17 fe17 .z)) 18 fe18 (.n (.n (.n .z 19 fe19 .z) 20 fe20 .z) 21 fe21 (.n .z 22 fe22 .z)))) 23 fe23 (.n (.n (.n (.n (.n .z 24 fe24 .z) 25 fe25 .z) 26 fe26 (.n .z 27 fe27 .z)) 28 fe28 (.n (.n (.n .z 29 fe29 .z) 30 fe30 .z) 31 fe31 (.n .z 32 fe32 .z))) 33 fe33 (.n (.n (.n (.n .z 34 fe34 .z) 35 fe35 .z) 36 fe36 (.n .z 37 fe37 .z)) 38 fe38 (.n (.n (.n .z 39 fe39 .z) 40 fe40 .z) 41 fe41 (.n .z 42 fe42 .z))))) 43 fe43 (.n (.n (.n (.n (.n (.n .z 44 fe44 .z) 45 fe45 .z) 46 fe46 (.n .z 47 fe47 .z)) 48 fe48 (.n (.n (.n .z 49 fe49 .z) 50 fe50 .z) 51 fe51 (.n .z 52 fe52 .z))) 53 fe53 (.n (.n (.n (.n .z 54 fe54 .z) 55 fe55 .z) 56 fe56 (.n .z 57 fe57 .z)) 58 fe58 (.n (.n (.n .z 59 fe59 .z) 60 fe60 .z) 61 fe61 (.n .z 62 fe62 .z)))) 63 fe63 (.n (.n (.n (.n (.n .z 64 fe64 .z) 65 fe65 .z) 66 fe66 (.n .z 67 fe67 .z)) 68 fe68 (.n (.n (.n .z 69 fe69 .z) 70 fe70 .z) 72 fe72 (.n .z 73 fe73 .z))) 74 fe74 (.n (.n (.n (.n .z 75 fe75 .z) 76 fe76 .z) 79 fe79 (.n .z 80 fe80 .z)) 81 fe81 (.n (.n (.n .z 82 fe82 .z) 83 fe83 .z) 84 fe84 (.n .z 85 fe85 .z))))))
noncomputable def tab (f : FuncId) : Option FE := tabT.get f
end Go.Am

/- The seat's types and functions, as tables. Printed by a program. -/
import Derived.Test.YtbkfnbnechpolaaDoorProg
import Derived.Test.YtbkfnbnechpolaaDoorAmShelf
import Derived.Lib.ItoaNum
import Derived.KernelRfl
set_option linter.unusedVariables false
set_option linter.unusedSimpArgs false
namespace Go.Am
open Go Go.Proofs
set_option maxRecDepth 100000
def ti1 : TI := ⟨(.func #[] #[] false), 1, 8, [.nilfn]⟩
def ti2 : TI := ⟨(.int .i64), 1, 8, [(.int .i64 0)]⟩
def ti3 : TI := ⟨(.int .i64), 1, 8, [(.int .i64 0)]⟩
def ti4 : TI := ⟨.bool, 1, 1, [(.bool false)]⟩
def ti5 : TI := ⟨(.int .u8), 1, 1, [(.int .u8 0)]⟩
def ti6 : TI := ⟨(.int .u8), 1, 1, [(.int .u8 0)]⟩
def ti7 : TI := ⟨(.struct #[⟨ "x", 2, 0, false, "", "runtime", 0⟩, ⟨ "y", 3, 1, false, "", "runtime", 8⟩, ⟨ "signed", 4, 2, false, "", "runtime", 16⟩, ⟨ "code", 6, 3, false, "", "runtime", 17⟩]), 4, 24, [(.int .i64 0), (.int .i64 0), (.bool false), (.int .u8 0)]⟩
def ti8 : TI := ⟨(.struct #[⟨ "x", 2, 0, false, "", "runtime", 0⟩, ⟨ "y", 3, 1, false, "", "runtime", 8⟩, ⟨ "signed", 4, 2, false, "", "runtime", 16⟩, ⟨ "code", 6, 3, false, "", "runtime", 17⟩]), 4, 24, [(.int .i64 0), (.int .i64 0), (.bool false), (.int .u8 0)]⟩
def ti9 : TI := ⟨.string, 1, 16, [(.str [])]⟩
def ti10 : TI := ⟨.string, 1, 16, [(.str [])]⟩
def ti11 : TI := ⟨.string, 1, 16, [(.str [])]⟩
def ti12 : TI := ⟨(.int .u64), 1, 8, [(.int .u64 0)]⟩
def ti13 : TI := ⟨(.struct #[⟨ "msg", 9, 0, false, "", "runtime", 0⟩, ⟨ "addr", 12, 1, false, "", "runtime", 16⟩]), 2, 24, [(.str []), (.int .u64 0)]⟩
def ti14 : TI := ⟨(.struct #[⟨ "msg", 9, 0, false, "", "runtime", 0⟩, ⟨ "addr", 12, 1, false, "", "runtime", 16⟩]), 2, 24, [(.str []), (.int .u64 0)]⟩
def ti15 : TI := ⟨(.pointer 154), 1, 8, [.nilp]⟩
def ti16 : TI := ⟨(.pointer 157), 1, 8, [.nilp]⟩
def ti17 : TI := ⟨(.pointer 165), 1, 8, [.nilp]⟩
def ti18 : TI := ⟨(.struct #[⟨ "typ", 17, 0, false, "", "internal/runtime/maps", 0⟩]), 1, 8, [.nilp]⟩
def ti19 : TI := ⟨(.struct #[⟨ "typ", 17, 0, false, "", "internal/runtime/maps", 0⟩]), 1, 8, [.nilp]⟩
def ti20 : TI := ⟨(.interface #[]), 1, 16, [.nilifc]⟩
def ti21 : TI := ⟨(.int .i32), 1, 4, [(.int .i32 0)]⟩
def ti22 : TI := ⟨(.int .u64), 1, 8, [(.int .u64 0)]⟩
def ti23 : TI := ⟨(.func #[] #[4] false), 1, 8, [.nilfn]⟩
def ti24 : TI := ⟨(.int .i64), 1, 8, [(.int .i64 0)]⟩
def ti25 : TI := ⟨(.struct #[⟨ "Op", 24, 0, false, "", "", 0⟩, ⟨ "D", 3, 1, false, "", "", 8⟩, ⟨ "A", 3, 2, false, "", "", 16⟩, ⟨ "B", 3, 3, false, "", "", 24⟩, ⟨ "Imm", 2, 4, false, "", "", 32⟩]), 5, 40, [(.int .i64 0), (.int .i64 0), (.int .i64 0), (.int .i64 0), (.int .i64 0)]⟩
def ti26 : TI := ⟨(.struct #[⟨ "Op", 24, 0, false, "", "", 0⟩, ⟨ "D", 3, 1, false, "", "", 8⟩, ⟨ "A", 3, 2, false, "", "", 16⟩, ⟨ "B", 3, 3, false, "", "", 24⟩, ⟨ "Imm", 2, 4, false, "", "", 32⟩]), 5, 40, [(.int .i64 0), (.int .i64 0), (.int .i64 0), (.int .i64 0), (.int .i64 0)]⟩
def ti27 : TI := ⟨(.int .i64), 1, 8, [(.int .i64 0)]⟩
def ti29 : TI := ⟨(.func #[22] #[26, 27] false), 1, 8, [.nilfn]⟩
def ti31 : TI := ⟨(.func #[22] #[26, 4] false), 1, 8, [.nilfn]⟩
def ti32 : TI := ⟨(.func #[27] #[3] false), 1, 8, [.nilfn]⟩
def ti33 : TI := ⟨(.func #[9] #[26, 27] false), 1, 8, [.nilfn]⟩
def ti34 : TI := ⟨(.func #[9] #[26, 4] false), 1, 8, [.nilfn]⟩
def ti35 : TI := ⟨(.func #[22, 9] #[4] false), 1, 8, [.nilfn]⟩
def ti36 : TI := ⟨(.array 8 22), 8, 64, [(.int .u64 0), (.int .u64 0), (.int .u64 0), (.int .u64 0), (.int .u64 0), (.int .u64 0), (.int .u64 0), (.int .u64 0)]⟩
def ti37 : TI := ⟨(.struct #[⟨ "Regs", 36, 0, false, "", "", 0⟩, ⟨ "PC", 22, 8, false, "", "", 64⟩]), 9, 72, List.replicate 9 (.int .u64 0)⟩
def ti38 : TI := ⟨(.struct #[⟨ "Regs", 36, 0, false, "", "", 0⟩, ⟨ "PC", 22, 8, false, "", "", 64⟩]), 9, 72, List.replicate 9 (.int .u64 0)⟩
def ti39 : TI := ⟨(.int .i64), 1, 8, [(.int .i64 0)]⟩
def ti40 : TI := ⟨(.struct #[⟨ "Kind", 39, 0, false, "", "", 0⟩, ⟨ "Number", 3, 1, false, "", "", 8⟩]), 2, 16, [(.int .i64 0), (.int .i64 0)]⟩
def ti41 : TI := ⟨(.struct #[⟨ "Kind", 39, 0, false, "", "", 0⟩, ⟨ "Number", 3, 1, false, "", "", 8⟩]), 2, 16, [(.int .i64 0), (.int .i64 0)]⟩
def ti43 : TI := ⟨(.func #[38, 26, 22] #[38, 41] false), 1, 8, [.nilfn]⟩
def ti44 : TI := ⟨(.int .i64), 1, 8, [(.int .i64 0)]⟩
def ti45 : TI := ⟨(.struct #[⟨ "Kind", 44, 0, false, "", "", 0⟩, ⟨ "Addr", 22, 1, false, "", "", 8⟩, ⟨ "Word", 22, 2, false, "", "", 16⟩]), 3, 24, [(.int .i64 0), (.int .u64 0), (.int .u64 0)]⟩
def ti46 : TI := ⟨(.struct #[⟨ "Kind", 44, 0, false, "", "", 0⟩, ⟨ "Addr", 22, 1, false, "", "", 8⟩, ⟨ "Word", 22, 2, false, "", "", 16⟩]), 3, 24, [(.int .i64 0), (.int .u64 0), (.int .u64 0)]⟩
def ti47 : TI := ⟨(.func #[38, 26] #[46] false), 1, 8, [.nilfn]⟩
def ti48 : TI := ⟨(.func #[38, 26, 22] #[4] false), 1, 8, [.nilfn]⟩
def ti50 : TI := ⟨(.func #[26] #[22, 27] false), 1, 8, [.nilfn]⟩
def ti52 : TI := ⟨(.func #[26] #[9, 27] false), 1, 8, [.nilfn]⟩
def ti53 : TI := ⟨(.func #[26] #[4] false), 1, 8, [.nilfn]⟩
def ti54 : TI := ⟨(.func #[26] #[22] false), 1, 8, [.nilfn]⟩
def ti55 : TI := ⟨(.func #[26] #[9] false), 1, 8, [.nilfn]⟩
def ti57 : TI := ⟨(.func #[38, 3, 22] #[38, 27] false), 1, 8, [.nilfn]⟩
def ti58 : TI := ⟨(.func #[38, 3, 22] #[4] false), 1, 8, [.nilfn]⟩
def ti59 : TI := ⟨(.slice 22), 1, 24, [(.sl 1 true [] .any)]⟩
def ti60 : TI := ⟨(.func #[59] #[9, 27] true), 1, 8, [.nilfn]⟩
def ti62 : TI := ⟨(.func #[9] #[59, 3, 27] false), 1, 8, [.nilfn]⟩
def ti63 : TI := ⟨(.func #[59, 59] #[4] false), 1, 8, [.nilfn]⟩
def ti64 : TI := ⟨(.func #[26, 38, 22, 59] #[4] false), 1, 8, [.nilfn]⟩
def ti65 : TI := ⟨(.slice 26), 1, 24, [(.sl 1 true [] .any)]⟩
def ti66 : TI := ⟨(.func #[65, 38, 22] #[4] false), 1, 8, [.nilfn]⟩
def ti67 : TI := ⟨(.int .u64), 1, 8, [(.int .u64 0)]⟩
def ti68 : TI := ⟨(.slice 5), 1, 24, [(.sl 1 true [] .any)]⟩
def ti69 : TI := ⟨(.func #[22, 3] #[68] false), 1, 8, [.nilfn]⟩
def ti70 : TI := ⟨(.func #[68] #[22] false), 1, 8, [.nilfn]⟩
def ti71 : TI := ⟨(.func #[9, 72] #[26, 4] false), 1, 8, [.nilfn]⟩
def ti72 : TI := ⟨(.map 24 85), 1, 8, [.nilmap]⟩
def ti73 : TI := ⟨(.func #[] #[72] false), 1, 8, [.nilfn]⟩
def ti74 : TI := ⟨(.slice 9), 1, 24, [(.sl 1 true [] .any)]⟩
def ti75 : TI := ⟨(.func #[9] #[74] false), 1, 8, [.nilfn]⟩
def ti76 : TI := ⟨(.struct #[⟨ "d", 4, 0, false, "", "anchorite/anchoriteref13", 0⟩, ⟨ "a", 4, 1, false, "", "anchorite/anchoriteref13", 1⟩, ⟨ "b", 4, 2, false, "", "anchorite/anchoriteref13", 2⟩, ⟨ "imm", 4, 3, false, "", "anchorite/anchoriteref13", 3⟩, ⟨ "word", 9, 4, false, "", "anchorite/anchoriteref13", 8⟩]), 5, 24, [(.bool false), (.bool false), (.bool false), (.bool false), (.str [])]⟩
def ti77 : TI := ⟨(.struct #[⟨ "d", 4, 0, false, "", "anchorite/anchoriteref13", 0⟩, ⟨ "a", 4, 1, false, "", "anchorite/anchoriteref13", 1⟩, ⟨ "b", 4, 2, false, "", "anchorite/anchoriteref13", 2⟩, ⟨ "imm", 4, 3, false, "", "anchorite/anchoriteref13", 3⟩, ⟨ "word", 9, 4, false, "", "anchorite/anchoriteref13", 8⟩]), 5, 24, [(.bool false), (.bool false), (.bool false), (.bool false), (.str [])]⟩
def ti78 : TI := ⟨(.func #[24] #[77] false), 1, 8, [.nilfn]⟩
def ti79 : TI := ⟨(.slice 4), 1, 24, [(.sl 1 true [] .any)]⟩
def ti80 : TI := ⟨(.func #[9] #[2] false), 1, 8, [.nilfn]⟩
def ti81 : TI := ⟨(.func #[22, 22] #[22] false), 1, 8, [.nilfn]⟩
def ti82 : TI := ⟨(.map 24 81), 1, 8, [.nilmap]⟩
def ti83 : TI := ⟨(.func #[] #[82] false), 1, 8, [.nilfn]⟩
def ti84 : TI := ⟨(.struct #[⟨ "word", 9, 0, false, "", "anchorite/cpu", 0⟩, ⟨ "parts", 9, 1, false, "", "anchorite/cpu", 16⟩]), 2, 32, [(.str []), (.str [])]⟩
def ti85 : TI := ⟨(.struct #[⟨ "word", 9, 0, false, "", "anchorite/cpu", 0⟩, ⟨ "parts", 9, 1, false, "", "anchorite/cpu", 16⟩]), 2, 32, [(.str []), (.str [])]⟩
def ti86 : TI := ⟨(.func #[26, 85] #[4] false), 1, 8, [.nilfn]⟩
def ti87 : TI := ⟨(.func #[26, 85] #[9] false), 1, 8, [.nilfn]⟩
def ti88 : TI := ⟨(.func #[4, 3] #[4] false), 1, 8, [.nilfn]⟩
def ti89 : TI := ⟨(.func #[3] #[9] false), 1, 8, [.nilfn]⟩
def ti90 : TI := ⟨(.func #[2, 3] #[9] false), 1, 8, [.nilfn]⟩
def ti91 : TI := ⟨(.pointer 93), 1, 8, [.nilp]⟩
def ti92 : TI := ⟨(.struct #[⟨ "addr", 91, 0, false, "", "strings", 0⟩, ⟨ "buf", 68, 1, false, "", "strings", 8⟩]), 2, 32, [.nilp, (.sl 1 true [] .any)]⟩
def ti93 : TI := ⟨(.struct #[⟨ "addr", 91, 0, false, "", "strings", 0⟩, ⟨ "buf", 68, 1, false, "", "strings", 8⟩]), 2, 32, [.nilp, (.sl 1 true [] .any)]⟩
def ti94 : TI := ⟨(.func #[59] #[59] false), 1, 8, [.nilfn]⟩
def ti95 : TI := ⟨(.interface #[("Error", 99)]), 1, 16, [.nilifc]⟩
def ti96 : TI := ⟨(.interface #[("Error", 99)]), 1, 16, [.nilifc]⟩
def ti98 : TI := ⟨(.func #[9] #[3, 96] false), 1, 8, [.nilfn]⟩
def ti99 : TI := ⟨(.func #[] #[9] false), 1, 8, [.nilfn]⟩
def ti100 : TI := ⟨(.func #[9, 9] #[74] false), 1, 8, [.nilfn]⟩
def ti101 : TI := ⟨(.func #[9, 9] #[9] false), 1, 8, [.nilfn]⟩
def ti102 : TI := ⟨(.func #[9, 9] #[4] false), 1, 8, [.nilfn]⟩
def ti103 : TI := ⟨(.func #[9, 3] #[4] false), 1, 8, [.nilfn]⟩
def ti104 : TI := ⟨(.pointer 5), 1, 8, [.nilp]⟩
def ti105 : TI := ⟨(.func #[9, 9, 3, 3] #[74] false), 1, 8, [.nilfn]⟩
def ti107 : TI := ⟨(.func #[9, 3, 3] #[2, 96] false), 1, 8, [.nilfn]⟩
def ti108 : TI := ⟨(.func #[9, 9] #[3] false), 1, 8, [.nilfn]⟩
def ti109 : TI := ⟨(.array 24 5), 24, 24, bl (List.replicate 24 0)⟩
def ti110 : TI := ⟨(.func #[22] #[3] false), 1, 8, [.nilfn]⟩
def ti111 : TI := ⟨(.func #[68, 22] #[] false), 1, 8, [.nilfn]⟩
def ti113 : TI := ⟨(.func #[68, 22, 3, 4, 4] #[68, 9] false), 1, 8, [.nilfn]⟩
def ti114 : TI := ⟨.unsafePointer, 1, 8, [.nilp]⟩
def ti115 : TI := ⟨(.func #[114] #[114] false), 1, 8, [.nilfn]⟩
def ti116 : TI := ⟨(.func #[9, 3] #[74] false), 1, 8, [.nilfn]⟩
def ti117 : TI := ⟨(.func #[9, 9, 3, 3, 96] #[96] false), 1, 8, [.nilfn]⟩
def ti118 : TI := ⟨(.func #[3] #[3] false), 1, 8, [.nilfn]⟩
def ti119 : TI := ⟨(.func #[4] #[3] false), 1, 8, [.nilfn]⟩
def ti120 : TI := ⟨(.array 20 22), 20, 160, List.replicate 20 (.int .u64 0)⟩
def ti121 : TI := ⟨(.int .u32), 1, 4, [(.int .u32 0)]⟩
def ti122 : TI := ⟨(.array 65 5), 65, 65, bl (List.replicate 65 0)⟩
def ti123 : TI := ⟨(.func #[3] #[4] false), 1, 8, [.nilfn]⟩
def ti124 : TI := ⟨(.func #[67] #[3] false), 1, 8, [.nilfn]⟩
def ti125 : TI := ⟨(.func #[9] #[3] false), 1, 8, [.nilfn]⟩
def ti127 : TI := ⟨(.func #[9] #[21, 3] false), 1, 8, [.nilfn]⟩
def ti128 : TI := ⟨(.func #[9, 5] #[3] false), 1, 8, [.nilfn]⟩
def ti129 : TI := ⟨(.int .i64), 1, 8, [(.int .i64 0)]⟩
def ti131 : TI := ⟨(.func #[9, 3, 3] #[22, 96] false), 1, 8, [.nilfn]⟩
def ti132 : TI := ⟨(.pointer 140), 1, 8, [.nilp]⟩
def ti133 : TI := ⟨(.func #[9, 9] #[132] false), 1, 8, [.nilfn]⟩
def ti134 : TI := ⟨(.func #[9, 9, 3] #[132] false), 1, 8, [.nilfn]⟩
def ti135 : TI := ⟨(.func #[121] #[3] false), 1, 8, [.nilfn]⟩
def ti136 : TI := ⟨(.func #[5] #[5] false), 1, 8, [.nilfn]⟩
def ti137 : TI := ⟨(.func #[9] #[4] false), 1, 8, [.nilfn]⟩
def ti138 : TI := ⟨(.func #[9] #[9] false), 1, 8, [.nilfn]⟩
def ti139 : TI := ⟨(.struct #[⟨ "Func", 9, 0, false, "", "", 0⟩, ⟨ "Num", 9, 1, false, "", "", 16⟩, ⟨ "Err", 96, 2, false, "", "", 32⟩]), 3, 48, [(.str []), (.str []), .nilifc]⟩
def ti140 : TI := ⟨(.struct #[⟨ "Func", 9, 0, false, "", "", 0⟩, ⟨ "Num", 9, 1, false, "", "", 16⟩, ⟨ "Err", 96, 2, false, "", "", 32⟩]), 3, 48, [(.str []), (.str []), .nilifc]⟩
def ti141 : TI := ⟨(.func #[9] #[96] false), 1, 8, [.nilfn]⟩
def ti143 : TI := ⟨(.func #[9] #[121, 121] false), 1, 8, [.nilfn]⟩
def ti144 : TI := ⟨(.array 32 5), 32, 32, bl (List.replicate 32 0)⟩
def ti145 : TI := ⟨(.array 64 5), 64, 64, bl (List.replicate 64 0)⟩
def ti146 : TI := ⟨(.array 256 5), 256, 256, bl (List.replicate 256 0)⟩
def ti147 : TI := ⟨(.struct #[⟨ "lo", 5, 0, false, "", "unicode/utf8", 0⟩, ⟨ "hi", 5, 1, false, "", "unicode/utf8", 1⟩]), 2, 2, [(.int .u8 0), (.int .u8 0)]⟩
def ti148 : TI := ⟨(.struct #[⟨ "lo", 5, 0, false, "", "unicode/utf8", 0⟩, ⟨ "hi", 5, 1, false, "", "unicode/utf8", 1⟩]), 2, 2, [(.int .u8 0), (.int .u8 0)]⟩
def ti149 : TI := ⟨(.array 16 148), 32, 32, bl (List.replicate 32 0)⟩
def ti150 : TI := ⟨(.pointer 152), 1, 8, [.nilp]⟩
def ti151 : TI := ⟨(.struct #[⟨ "s", 9, 0, false, "", "errors", 0⟩]), 1, 16, [(.str [])]⟩
def ti152 : TI := ⟨(.struct #[⟨ "s", 9, 0, false, "", "errors", 0⟩]), 1, 16, [(.str [])]⟩
def ti153 : TI := ⟨(.struct #[⟨ "_interface", 17, 0, false, "", "runtime", 0⟩, ⟨ "concrete", 17, 1, false, "", "runtime", 8⟩, ⟨ "asserted", 17, 2, false, "", "runtime", 16⟩, ⟨ "missingMethod", 9, 3, false, "", "runtime", 24⟩]), 4, 40, [.nilp, .nilp, .nilp, (.str [])]⟩
def ti154 : TI := ⟨(.struct #[⟨ "_interface", 17, 0, false, "", "runtime", 0⟩, ⟨ "concrete", 17, 1, false, "", "runtime", 8⟩, ⟨ "asserted", 17, 2, false, "", "runtime", 16⟩, ⟨ "missingMethod", 9, 3, false, "", "runtime", 24⟩]), 4, 40, [.nilp, .nilp, .nilp, (.str [])]⟩
def ti155 : TI := ⟨(.array 0 16), 0, 0, []⟩
def ti156 : TI := ⟨(.struct #[⟨ "_", 155, 0, false, "", "runtime", 0⟩]), 0, 0, []⟩
def ti157 : TI := ⟨(.struct #[⟨ "_", 155, 0, false, "", "runtime", 0⟩]), 0, 0, []⟩
def ti158 : TI := ⟨(.func #[] #[3] false), 1, 8, [.nilfn]⟩
def ti159 : TI := ⟨(.int .u8), 1, 1, [(.int .u8 0)]⟩
def ti160 : TI := ⟨(.int .u8), 1, 1, [(.int .u8 0)]⟩
def ti161 : TI := ⟨(.func #[114, 114] #[4] false), 1, 8, [.nilfn]⟩
def ti162 : TI := ⟨(.int .i32), 1, 4, [(.int .i32 0)]⟩
def ti163 : TI := ⟨(.int .i32), 1, 4, [(.int .i32 0)]⟩
def ti164 : TI := ⟨(.struct #[⟨ "Size_", 12, 0, false, "", "", 0⟩, ⟨ "PtrBytes", 12, 1, false, "", "", 8⟩, ⟨ "Hash", 121, 2, false, "", "", 16⟩, ⟨ "TFlag", 159, 3, false, "", "", 20⟩, ⟨ "Align_", 5, 4, false, "", "", 21⟩, ⟨ "FieldAlign_", 5, 5, false, "", "", 22⟩, ⟨ "Kind_", 160, 6, false, "", "", 23⟩, ⟨ "Equal", 161, 7, false, "", "", 24⟩, ⟨ "GCData", 104, 8, false, "", "", 32⟩, ⟨ "Str", 162, 9, false, "", "", 40⟩, ⟨ "PtrToThis", 163, 10, false, "", "", 44⟩]), 11, 48, [(.int .u64 0), (.int .u64 0), (.int .u32 0), (.int .u8 0), (.int .u8 0), (.int .u8 0), (.int .u8 0), .nilfn, .nilp, (.int .i32 0), (.int .i32 0)]⟩
def ti165 : TI := ⟨(.struct #[⟨ "Size_", 12, 0, false, "", "", 0⟩, ⟨ "PtrBytes", 12, 1, false, "", "", 8⟩, ⟨ "Hash", 121, 2, false, "", "", 16⟩, ⟨ "TFlag", 159, 3, false, "", "", 20⟩, ⟨ "Align_", 5, 4, false, "", "", 21⟩, ⟨ "FieldAlign_", 5, 5, false, "", "", 22⟩, ⟨ "Kind_", 160, 6, false, "", "", 23⟩, ⟨ "Equal", 161, 7, false, "", "", 24⟩, ⟨ "GCData", 104, 8, false, "", "", 32⟩, ⟨ "Str", 162, 9, false, "", "", 40⟩, ⟨ "PtrToThis", 163, 10, false, "", "", 44⟩]), 11, 48, [(.int .u64 0), (.int .u64 0), (.int .u32 0), (.int .u8 0), (.int .u8 0), (.int .u8 0), (.int .u8 0), .nilfn, .nilp, (.int .i32 0), (.int .i32 0)]⟩
def tT (t : TypeId) : Option TI := (bif Nat.blt t 84 then (bif Nat.blt t 41 then (bif Nat.blt t 20 then (bif Nat.blt t 10 then (bif Nat.blt t 5 then (bif Nat.blt t 3 then (bif Nat.blt t 2 then (bif Nat.blt t 1 then none else bif Nat.beq t 1 then some ti1 else none) else bif Nat.beq t 2 then some ti2 else none) else bif Nat.beq t 3 then some ti3 else (bif Nat.blt t 4 then none else bif Nat.beq t 4 then some ti4 else none)) else bif Nat.beq t 5 then some ti5 else (bif Nat.blt t 8 then (bif Nat.blt t 7 then (bif Nat.blt t 6 then none else bif Nat.beq t 6 then some ti6 else none) else bif Nat.beq t 7 then some ti7 else none) else bif Nat.beq t 8 then some ti8 else (bif Nat.blt t 9 then none else bif Nat.beq t 9 then some ti9 else none))) else bif Nat.beq t 10 then some ti10 else (bif Nat.blt t 15 then (bif Nat.blt t 13 then (bif Nat.blt t 12 then (bif Nat.blt t 11 then none else bif Nat.beq t 11 then some ti11 else none) else bif Nat.beq t 12 then some ti12 else none) else bif Nat.beq t 13 then some ti13 else (bif Nat.blt t 14 then none else bif Nat.beq t 14 then some ti14 else none)) else bif Nat.beq t 15 then some ti15 else (bif Nat.blt t 18 then (bif Nat.blt t 17 then (bif Nat.blt t 16 then none else bif Nat.beq t 16 then some ti16 else none) else bif Nat.beq t 17 then some ti17 else none) else bif Nat.beq t 18 then some ti18 else (bif Nat.blt t 19 then none else bif Nat.beq t 19 then some ti19 else none)))) else bif Nat.beq t 20 then some ti20 else (bif Nat.blt t 32 then (bif Nat.blt t 25 then (bif Nat.blt t 23 then (bif Nat.blt t 22 then (bif Nat.blt t 21 then none else bif Nat.beq t 21 then some ti21 else none) else bif Nat.beq t 22 then some ti22 else none) else bif Nat.beq t 23 then some ti23 else (bif Nat.blt t 24 then none else bif Nat.beq t 24 then some ti24 else none)) else bif Nat.beq t 25 then some ti25 else (bif Nat.blt t 29 then (bif Nat.blt t 27 then (bif Nat.blt t 26 then none else bif Nat.beq t 26 then some ti26 else none) else bif Nat.beq t 27 then some ti27 else none) else bif Nat.beq t 29 then some ti29 else (bif Nat.blt t 31 then none else bif Nat.beq t 31 then some ti31 else none))) else bif Nat.beq t 32 then some ti32 else (bif Nat.blt t 37 then (bif Nat.blt t 35 then (bif Nat.blt t 34 then (bif Nat.blt t 33 then none else bif Nat.beq t 33 then some ti33 else none) else bif Nat.beq t 34 then some ti34 else none) else bif Nat.beq t 35 then some ti35 else (bif Nat.blt t 36 then none else bif Nat.beq t 36 then some ti36 else none)) else bif Nat.beq t 37 then some ti37 else (bif Nat.blt t 39 then (bif Nat.blt t 38 then none else bif Nat.beq t 38 then some ti38 else none) else bif Nat.beq t 39 then some ti39 else (bif Nat.blt t 40 then none else bif Nat.beq t 40 then some ti40 else none))))) else bif Nat.beq t 41 then some ti41 else (bif Nat.blt t 65 then (bif Nat.blt t 54 then (bif Nat.blt t 47 then (bif Nat.blt t 45 then (bif Nat.blt t 44 then (bif Nat.blt t 43 then none else bif Nat.beq t 43 then some ti43 else none) else bif Nat.beq t 44 then some ti44 else none) else bif Nat.beq t 45 then some ti45 else (bif Nat.blt t 46 then none else bif Nat.beq t 46 then some ti46 else none)) else bif Nat.beq t 47 then some ti47 else (bif Nat.blt t 52 then (bif Nat.blt t 50 then (bif Nat.blt t 48 then none else bif Nat.beq t 48 then some ti48 else none) else bif Nat.beq t 50 then some ti50 else none) else bif Nat.beq t 52 then some ti52 else (bif Nat.blt t 53 then none else bif Nat.beq t 53 then some ti53 else none))) else bif Nat.beq t 54 then some ti54 else (bif Nat.blt t 60 then (bif Nat.blt t 58 then (bif Nat.blt t 57 then (bif Nat.blt t 55 then none else bif Nat.beq t 55 then some ti55 else none) else bif Nat.beq t 57 then some ti57 else none) else bif Nat.beq t 58 then some ti58 else (bif Nat.blt t 59 then none else bif Nat.beq t 59 then some ti59 else none)) else bif Nat.beq t 60 then some ti60 else (bif Nat.blt t 63 then (bif Nat.blt t 62 then none else bif Nat.beq t 62 then some ti62 else none) else bif Nat.beq t 63 then some ti63 else (bif Nat.blt t 64 then none else bif Nat.beq t 64 then some ti64 else none)))) else bif Nat.beq t 65 then some ti65 else (bif Nat.blt t 75 then (bif Nat.blt t 70 then (bif Nat.blt t 68 then (bif Nat.blt t 67 then (bif Nat.blt t 66 then none else bif Nat.beq t 66 then some ti66 else none) else bif Nat.beq t 67 then some ti67 else none) else bif Nat.beq t 68 then some ti68 else (bif Nat.blt t 69 then none else bif Nat.beq t 69 then some ti69 else none)) else bif Nat.beq t 70 then some ti70 else (bif Nat.blt t 73 then (bif Nat.blt t 72 then (bif Nat.blt t 71 then none else bif Nat.beq t 71 then some ti71 else none) else bif Nat.beq t 72 then some ti72 else none) else bif Nat.beq t 73 then some ti73 else (bif Nat.blt t 74 then none else bif Nat.beq t 74 then some ti74 else none))) else bif Nat.beq t 75 then some ti75 else (bif Nat.blt t 80 then (bif Nat.blt t 78 then (bif Nat.blt t 77 then (bif Nat.blt t 76 then none else bif Nat.beq t 76 then some ti76 else none) else bif Nat.beq t 77 then some ti77 else none) else bif Nat.beq t 78 then some ti78 else (bif Nat.blt t 79 then none else bif Nat.beq t 79 then some ti79 else none)) else bif Nat.beq t 80 then some ti80 else (bif Nat.blt t 82 then (bif Nat.blt t 81 then none else bif Nat.beq t 81 then some ti81 else none) else bif Nat.beq t 82 then some ti82 else (bif Nat.blt t 83 then none else bif Nat.beq t 83 then some ti83 else none)))))) else bif Nat.beq t 84 then some ti84 else (bif Nat.blt t 125 then (bif Nat.blt t 104 then (bif Nat.blt t 94 then (bif Nat.blt t 89 then (bif Nat.blt t 87 then (bif Nat.blt t 86 then (bif Nat.blt t 85 then none else bif Nat.beq t 85 then some ti85 else none) else bif Nat.beq t 86 then some ti86 else none) else bif Nat.beq t 87 then some ti87 else (bif Nat.blt t 88 then none else bif Nat.beq t 88 then some ti88 else none)) else bif Nat.beq t 89 then some ti89 else (bif Nat.blt t 92 then (bif Nat.blt t 91 then (bif Nat.blt t 90 then none else bif Nat.beq t 90 then some ti90 else none) else bif Nat.beq t 91 then some ti91 else none) else bif Nat.beq t 92 then some ti92 else (bif Nat.blt t 93 then none else bif Nat.beq t 93 then some ti93 else none))) else bif Nat.beq t 94 then some ti94 else (bif Nat.blt t 100 then (bif Nat.blt t 98 then (bif Nat.blt t 96 then (bif Nat.blt t 95 then none else bif Nat.beq t 95 then some ti95 else none) else bif Nat.beq t 96 then some ti96 else none) else bif Nat.beq t 98 then some ti98 else (bif Nat.blt t 99 then none else bif Nat.beq t 99 then some ti99 else none)) else bif Nat.beq t 100 then some ti100 else (bif Nat.blt t 102 then (bif Nat.blt t 101 then none else bif Nat.beq t 101 then some ti101 else none) else bif Nat.beq t 102 then some ti102 else (bif Nat.blt t 103 then none else bif Nat.beq t 103 then some ti103 else none)))) else bif Nat.beq t 104 then some ti104 else (bif Nat.blt t 116 then (bif Nat.blt t 110 then (bif Nat.blt t 108 then (bif Nat.blt t 107 then (bif Nat.blt t 105 then none else bif Nat.beq t 105 then some ti105 else none) else bif Nat.beq t 107 then some ti107 else none) else bif Nat.beq t 108 then some ti108 else (bif Nat.blt t 109 then none else bif Nat.beq t 109 then some ti109 else none)) else bif Nat.beq t 110 then some ti110 else (bif Nat.blt t 114 then (bif Nat.blt t 113 then (bif Nat.blt t 111 then none else bif Nat.beq t 111 then some ti111 else none) else bif Nat.beq t 113 then some ti113 else none) else bif Nat.beq t 114 then some ti114 else (bif Nat.blt t 115 then none else bif Nat.beq t 115 then some ti115 else none))) else bif Nat.beq t 116 then some ti116 else (bif Nat.blt t 121 then (bif Nat.blt t 119 then (bif Nat.blt t 118 then (bif Nat.blt t 117 then none else bif Nat.beq t 117 then some ti117 else none) else bif Nat.beq t 118 then some ti118 else none) else bif Nat.beq t 119 then some ti119 else (bif Nat.blt t 120 then none else bif Nat.beq t 120 then some ti120 else none)) else bif Nat.beq t 121 then some ti121 else (bif Nat.blt t 123 then (bif Nat.blt t 122 then none else bif Nat.beq t 122 then some ti122 else none) else bif Nat.beq t 123 then some ti123 else (bif Nat.blt t 124 then none else bif Nat.beq t 124 then some ti124 else none))))) else bif Nat.beq t 125 then some ti125 else (bif Nat.blt t 147 then (bif Nat.blt t 137 then (bif Nat.blt t 132 then (bif Nat.blt t 129 then (bif Nat.blt t 128 then (bif Nat.blt t 127 then none else bif Nat.beq t 127 then some ti127 else none) else bif Nat.beq t 128 then some ti128 else none) else bif Nat.beq t 129 then some ti129 else (bif Nat.blt t 131 then none else bif Nat.beq t 131 then some ti131 else none)) else bif Nat.beq t 132 then some ti132 else (bif Nat.blt t 135 then (bif Nat.blt t 134 then (bif Nat.blt t 133 then none else bif Nat.beq t 133 then some ti133 else none) else bif Nat.beq t 134 then some ti134 else none) else bif Nat.beq t 135 then some ti135 else (bif Nat.blt t 136 then none else bif Nat.beq t 136 then some ti136 else none))) else bif Nat.beq t 137 then some ti137 else (bif Nat.blt t 143 then (bif Nat.blt t 140 then (bif Nat.blt t 139 then (bif Nat.blt t 138 then none else bif Nat.beq t 138 then some ti138 else none) else bif Nat.beq t 139 then some ti139 else none) else bif Nat.beq t 140 then some ti140 else (bif Nat.blt t 141 then none else bif Nat.beq t 141 then some ti141 else none)) else bif Nat.beq t 143 then some ti143 else (bif Nat.blt t 145 then (bif Nat.blt t 144 then none else bif Nat.beq t 144 then some ti144 else none) else bif Nat.beq t 145 then some ti145 else (bif Nat.blt t 146 then none else bif Nat.beq t 146 then some ti146 else none)))) else bif Nat.beq t 147 then some ti147 else (bif Nat.blt t 157 then (bif Nat.blt t 152 then (bif Nat.blt t 150 then (bif Nat.blt t 149 then (bif Nat.blt t 148 then none else bif Nat.beq t 148 then some ti148 else none) else bif Nat.beq t 149 then some ti149 else none) else bif Nat.beq t 150 then some ti150 else (bif Nat.blt t 151 then none else bif Nat.beq t 151 then some ti151 else none)) else bif Nat.beq t 152 then some ti152 else (bif Nat.blt t 155 then (bif Nat.blt t 154 then (bif Nat.blt t 153 then none else bif Nat.beq t 153 then some ti153 else none) else bif Nat.beq t 154 then some ti154 else none) else bif Nat.beq t 155 then some ti155 else (bif Nat.blt t 156 then none else bif Nat.beq t 156 then some ti156 else none))) else bif Nat.beq t 157 then some ti157 else (bif Nat.blt t 162 then (bif Nat.blt t 160 then (bif Nat.blt t 159 then (bif Nat.blt t 158 then none else bif Nat.beq t 158 then some ti158 else none) else bif Nat.beq t 159 then some ti159 else none) else bif Nat.beq t 160 then some ti160 else (bif Nat.blt t 161 then none else bif Nat.beq t 161 then some ti161 else none)) else bif Nat.beq t 162 then some ti162 else (bif Nat.blt t 164 then (bif Nat.blt t 163 then none else bif Nat.beq t 163 then some ti163 else none) else bif Nat.beq t 164 then some ti164 else (bif Nat.blt t 165 then none else bif Nat.beq t 165 then some ti165 else none)))))))
noncomputable def gT (g : Nat) : Option AVal := bif Nat.beq g 0 then some (.cptr (Lib.pow10Tab.map fun z => .int .u64 z)) else bif Nat.beq g 1 then some (.cptr [.any]) else bif Nat.beq g 2 then some (.any) else bif Nat.beq g 3 then some (.any) else none
theorem cond_some {α : Type} {b : Bool} {x y : Option α} {e : α} (h : (bif b then x else y) = some e) : (b = true ∧ x = some e) ∨ (b = false ∧ y = some e) := by cases b <;> simp_all
noncomputable def cx : Cx := ⟨Tryd.prog, tT, gT, fun _ => false, fun _ => none⟩
theorem tT_small : (List.range 166).map tT = (List.range 166).map (tyB Tryd.prog 166) := by kernel_rfl
theorem nblt (t k : Nat) (h : k ≤ t) : Nat.blt t k = false := by cases hb : Nat.blt t k; rfl; exact absurd (blt_iff.1 hb) (by omega)
theorem nbne (t k : Nat) (h : t ≠ k) : Nat.beq t k = false := by cases hb : Nat.beq t k; rfl; exact absurd (nbeq hb) h
theorem tT_big (t : Nat) (h : 166 ≤ t) : tT t = none := by
  unfold tT
  rw [show Nat.blt t 84 = false from nblt t 84 (by omega), cond_false, show Nat.beq t 84 = false from nbne t 84 (by omega), cond_false, show Nat.blt t 125 = false from nblt t 125 (by omega), cond_false, show Nat.beq t 125 = false from nbne t 125 (by omega), cond_false, show Nat.blt t 147 = false from nblt t 147 (by omega), cond_false, show Nat.beq t 147 = false from nbne t 147 (by omega), cond_false, show Nat.blt t 157 = false from nblt t 157 (by omega), cond_false, show Nat.beq t 157 = false from nbne t 157 (by omega), cond_false, show Nat.blt t 162 = false from nblt t 162 (by omega), cond_false, show Nat.beq t 162 = false from nbne t 162 (by omega), cond_false, show Nat.blt t 164 = false from nblt t 164 (by omega), cond_false, show Nat.beq t 164 = false from nbne t 164 (by omega), cond_false, show Nat.blt t 165 = false from nblt t 165 (by omega), cond_false, show Nat.beq t 165 = false from nbne t 165 (by omega), cond_false]
theorem tT_eq (t : TypeId) (i : TI) (h : tT t = some i) : tyB Tryd.prog 166 t = some i := by
  rcases Nat.lt_or_ge t 166 with hl | hl
  · have := congrArg (fun l => l[t]?) tT_small
    simp only [List.getElem?_map, List.getElem?_range hl, Option.map_some, Option.some.injEq] at this
    rw [← this]; exact h
  · exact absurd h (by have e := tT_big t hl; rw [e]; exact fun h => by cases h)
theorem cxT : TOk cx.P cx.T := by
  have h : TOk Tryd.prog (tyB Tryd.prog 166) := tyB_ok (by kernel_rfl)
  have e : tyB Tryd.prog 166 = tT := by
    funext t
    rcases Nat.lt_or_ge t 166 with hl | hl
    · have := congrArg (fun l => l[t]?) tT_small
      simp only [List.getElem?_map, List.getElem?_range hl, Option.map_some, Option.some.injEq] at this
      exact this.symm
    · rw [tT_big t hl]
      unfold tyB basicOk
      rw [decide_eq_false (Nat.not_lt.2 hl : ¬ (t : Nat) < 166)]
      rfl
  rw [e] at h
  exact h
theorem cxOk : cx.Ok := ⟨cxT, fun t i h => cells_of t i (tT_eq t i h), by kernel_rfl⟩
theorem cxG : GClosed cx := fun g v h => by
  have h : gT g = some v := h
  unfold gT at h
  rcases cond_some h with ⟨_, h⟩ | ⟨_, h⟩
  · injection h with h
    subst h
    first | exact .any | exact .cptr _ (fun c hc => by obtain ⟨z, _, rfl⟩ := List.mem_map.1 hc; exact .int _ _) | exact .cptr _ (fun c hc => by obtain rfl := List.mem_singleton.1 hc; exact .any)
  rcases cond_some h with ⟨_, h⟩ | ⟨_, h⟩
  · injection h with h
    subst h
    first | exact .any | exact .cptr _ (fun c hc => by obtain ⟨z, _, rfl⟩ := List.mem_map.1 hc; exact .int _ _) | exact .cptr _ (fun c hc => by obtain rfl := List.mem_singleton.1 hc; exact .any)
  rcases cond_some h with ⟨_, h⟩ | ⟨_, h⟩
  · injection h with h
    subst h
    first | exact .any | exact .cptr _ (fun c hc => by obtain ⟨z, _, rfl⟩ := List.mem_map.1 hc; exact .int _ _) | exact .cptr _ (fun c hc => by obtain rfl := List.mem_singleton.1 hc; exact .any)
  rcases cond_some h with ⟨_, h⟩ | ⟨_, h⟩
  · injection h with h
    subst h
    first | exact .any | exact .cptr _ (fun c hc => by obtain ⟨z, _, rfl⟩ := List.mem_map.1 hc; exact .int _ _) | exact .cptr _ (fun c hc => by obtain rfl := List.mem_singleton.1 hc; exact .any)
  cases h
noncomputable def fe3 : FE := ⟨LB Tryd.f3, Tryd.f3.ntmps, Tryd.f3.results.toList, fun _ => none, true⟩
theorem fo3 : FnOk cx 3 fe3.body fe3.N fe3.rs ∧ BodyOk cx 3 pF fe3.q :=
  have h : FnOk cx 3 (LB Tryd.f3) Tryd.f3.ntmps Tryd.f3.results.toList := fnOk_of Tryd.func3 (by kernel_rfl)
  ⟨h, bodyOk_of Tryd.func3 (by kernel_rfl)⟩
noncomputable def fe4 : FE := ⟨LB Tryd.f4, Tryd.f4.ntmps, Tryd.f4.results.toList, fun i => bif Nat.beq i 3 then some [(some 28, some 27), (some 29, some 27)] else none, true⟩
theorem fo4 : FnOk cx 4 fe4.body fe4.N fe4.rs ∧ BodyOk cx 4 pF fe4.q :=
  have h : FnOk cx 4 (LB Tryd.f4) Tryd.f4.ntmps Tryd.f4.results.toList := fnOk_of Tryd.func4 (by kernel_rfl)
  ⟨h, bodyOk_of Tryd.func4 (by kernel_rfl)⟩
noncomputable def fe5 : FE := ⟨LB Tryd.f5, Tryd.f5.ntmps, Tryd.f5.results.toList, fun i => bif Nat.beq i 3 then some [(some 19, some 18)] else none, true⟩
theorem fo5 : FnOk cx 5 fe5.body fe5.N fe5.rs ∧ BodyOk cx 5 pF fe5.q :=
  have h : FnOk cx 5 (LB Tryd.f5) Tryd.f5.ntmps Tryd.f5.results.toList := fnOk_of Tryd.func5 (by kernel_rfl)
  ⟨h, bodyOk_of Tryd.func5 (by kernel_rfl)⟩
noncomputable def fe6 : FE := ⟨LB Tryd.f6, Tryd.f6.ntmps, Tryd.f6.results.toList, fun _ => none, true⟩
theorem fo6 : FnOk cx 6 fe6.body fe6.N fe6.rs ∧ BodyOk cx 6 pF fe6.q :=
  have h : FnOk cx 6 (LB Tryd.f6) Tryd.f6.ntmps Tryd.f6.results.toList := fnOk_of Tryd.func6 (by kernel_rfl)
  ⟨h, bodyOk_of Tryd.func6 (by kernel_rfl)⟩
noncomputable def fe9 : FE := ⟨LB Tryd.f9, Tryd.f9.ntmps, Tryd.f9.results.toList, fun _ => none, true⟩
theorem fo9 : FnOk cx 9 fe9.body fe9.N fe9.rs ∧ BodyOk cx 9 pF fe9.q :=
  have h : FnOk cx 9 (LB Tryd.f9) Tryd.f9.ntmps Tryd.f9.results.toList := fnOk_of Tryd.func9 (by kernel_rfl)
  ⟨h, bodyOk_of Tryd.func9 (by kernel_rfl)⟩
noncomputable def fe10 : FE := ⟨LB Tryd.f10, Tryd.f10.ntmps, Tryd.f10.results.toList, fun _ => none, true⟩
theorem fo10 : FnOk cx 10 fe10.body fe10.N fe10.rs ∧ BodyOk cx 10 pF fe10.q :=
  have h : FnOk cx 10 (LB Tryd.f10) Tryd.f10.ntmps Tryd.f10.results.toList := fnOk_of Tryd.func10 (by kernel_rfl)
  ⟨h, bodyOk_of Tryd.func10 (by kernel_rfl)⟩
noncomputable def fe11 : FE := ⟨LB Tryd.f11, Tryd.f11.ntmps, Tryd.f11.results.toList, fun i => bif Nat.beq i 5 then some [(some 19, some 6), (some 23, some 6), (some 27, some 6), (some 31, some 6)] else none, true⟩
theorem fo11 : FnOk cx 11 fe11.body fe11.N fe11.rs ∧ BodyOk cx 11 pF fe11.q :=
  have h : FnOk cx 11 (LB Tryd.f11) Tryd.f11.ntmps Tryd.f11.results.toList := fnOk_of Tryd.func11 (by kernel_rfl)
  ⟨h, bodyOk_of Tryd.func11 (by kernel_rfl)⟩
noncomputable def fe12 : FE := ⟨LB Tryd.f12, Tryd.f12.ntmps, Tryd.f12.results.toList, fun _ => none, true⟩
theorem fo12 : FnOk cx 12 fe12.body fe12.N fe12.rs ∧ BodyOk cx 12 pF fe12.q :=
  have h : FnOk cx 12 (LB Tryd.f12) Tryd.f12.ntmps Tryd.f12.results.toList := fnOk_of Tryd.func12 (by kernel_rfl)
  ⟨h, bodyOk_of Tryd.func12 (by kernel_rfl)⟩
noncomputable def fe13 : FE := ⟨LB Tryd.f13, Tryd.f13.ntmps, Tryd.f13.results.toList, fun _ => none, true⟩
theorem fo13 : FnOk cx 13 fe13.body fe13.N fe13.rs ∧ BodyOk cx 13 pF fe13.q :=
  have h : FnOk cx 13 (LB Tryd.f13) Tryd.f13.ntmps Tryd.f13.results.toList := fnOk_of Tryd.func13 (by kernel_rfl)
  ⟨h, bodyOk_of Tryd.func13 (by kernel_rfl)⟩
noncomputable def fe14 : FE := ⟨LB Tryd.f14, Tryd.f14.ntmps, Tryd.f14.results.toList, fun _ => none, true⟩
theorem fo14 : FnOk cx 14 fe14.body fe14.N fe14.rs ∧ BodyOk cx 14 pF fe14.q :=
  have h : FnOk cx 14 (LB Tryd.f14) Tryd.f14.ntmps Tryd.f14.results.toList := fnOk_of Tryd.func14 (by kernel_rfl)
  ⟨h, bodyOk_of Tryd.func14 (by kernel_rfl)⟩
noncomputable def fe15 : FE := ⟨LB Tryd.f15, Tryd.f15.ntmps, Tryd.f15.results.toList, fun i => bif Nat.beq i 5 then some [(some 28, some 26)] else bif Nat.beq i 7 then some [(some 33, some 45)] else bif Nat.beq i 19 then some [(some 88, none)] else bif Nat.beq i 20 then some [(some 92, none)] else none, true⟩
theorem fo15 : FnOk cx 15 fe15.body fe15.N fe15.rs ∧ BodyOk cx 15 pF fe15.q :=
  have h : FnOk cx 15 (LB Tryd.f15) Tryd.f15.ntmps Tryd.f15.results.toList := fnOk_of Tryd.func15 (by kernel_rfl)
  ⟨h, bodyOk_of Tryd.func15 (by kernel_rfl)⟩
noncomputable def fe16 : FE := ⟨LB Tryd.f16, Tryd.f16.ntmps, Tryd.f16.results.toList, fun i => bif Nat.beq i 33 then some [(some 150, none)] else bif Nat.beq i 35 then some [(some 156, none)] else none, true⟩
theorem fo16 : FnOk cx 16 fe16.body fe16.N fe16.rs ∧ BodyOk cx 16 pF fe16.q :=
  have h : FnOk cx 16 (LB Tryd.f16) Tryd.f16.ntmps Tryd.f16.results.toList := fnOk_of Tryd.func16 (by kernel_rfl)
  ⟨h, bodyOk_of Tryd.func16 (by kernel_rfl)⟩
noncomputable def fe17 : FE := ⟨LB Tryd.f17, Tryd.f17.ntmps, Tryd.f17.results.toList, fun _ => none, true⟩
theorem fo17 : FnOk cx 17 fe17.body fe17.N fe17.rs ∧ BodyOk cx 17 pF fe17.q :=
  have h : FnOk cx 17 (LB Tryd.f17) Tryd.f17.ntmps Tryd.f17.results.toList := fnOk_of Tryd.func17 (by kernel_rfl)
  ⟨h, bodyOk_of Tryd.func17 (by kernel_rfl)⟩
noncomputable def fe18 : FE := ⟨LB Tryd.f18, Tryd.f18.ntmps, Tryd.f18.results.toList, fun _ => none, true⟩
theorem fo18 : FnOk cx 18 fe18.body fe18.N fe18.rs ∧ BodyOk cx 18 pF fe18.q :=
  have h : FnOk cx 18 (LB Tryd.f18) Tryd.f18.ntmps Tryd.f18.results.toList := fnOk_of Tryd.func18 (by kernel_rfl)
  ⟨h, bodyOk_of Tryd.func18 (by kernel_rfl)⟩
noncomputable def fe19 : FE := ⟨LB Tryd.f19, Tryd.f19.ntmps, Tryd.f19.results.toList, fun _ => none, true⟩
theorem fo19 : FnOk cx 19 fe19.body fe19.N fe19.rs ∧ BodyOk cx 19 pF fe19.q :=
  have h : FnOk cx 19 (LB Tryd.f19) Tryd.f19.ntmps Tryd.f19.results.toList := fnOk_of Tryd.func19 (by kernel_rfl)
  ⟨h, bodyOk_of Tryd.func19 (by kernel_rfl)⟩
noncomputable def fe20 : FE := ⟨LB Tryd.f20, Tryd.f20.ntmps, Tryd.f20.results.toList, fun i => bif Nat.beq i 1 then some [(some 7, some 5), (some 7, some 4), (some 8, some 4)] else none, true⟩
theorem fo20 : FnOk cx 20 fe20.body fe20.N fe20.rs ∧ BodyOk cx 20 pF fe20.q :=
  have h : FnOk cx 20 (LB Tryd.f20) Tryd.f20.ntmps Tryd.f20.results.toList := fnOk_of Tryd.func20 (by kernel_rfl)
  ⟨h, bodyOk_of Tryd.func20 (by kernel_rfl)⟩
noncomputable def fe21 : FE := ⟨LB Tryd.f21, Tryd.f21.ntmps, Tryd.f21.results.toList, fun i => bif Nat.beq i 1 then some [(some 3, some 4), (some 6, some 4)] else none, true⟩
theorem fo21 : FnOk cx 21 fe21.body fe21.N fe21.rs ∧ BodyOk cx 21 pF fe21.q :=
  have h : FnOk cx 21 (LB Tryd.f21) Tryd.f21.ntmps Tryd.f21.results.toList := fnOk_of Tryd.func21 (by kernel_rfl)
  ⟨h, bodyOk_of Tryd.func21 (by kernel_rfl)⟩
noncomputable def fe22 : FE := ⟨LB Tryd.f22, Tryd.f22.ntmps, Tryd.f22.results.toList, fun _ => none, true⟩
theorem fo22 : FnOk cx 22 fe22.body fe22.N fe22.rs ∧ BodyOk cx 22 pF fe22.q :=
  have h : FnOk cx 22 (LB Tryd.f22) Tryd.f22.ntmps Tryd.f22.results.toList := fnOk_of Tryd.func22 (by kernel_rfl)
  ⟨h, bodyOk_of Tryd.func22 (by kernel_rfl)⟩
noncomputable def fe23 : FE := ⟨LB Tryd.f23, Tryd.f23.ntmps, Tryd.f23.results.toList, fun _ => none, true⟩
theorem fo23 : FnOk cx 23 fe23.body fe23.N fe23.rs ∧ BodyOk cx 23 pF fe23.q :=
  have h : FnOk cx 23 (LB Tryd.f23) Tryd.f23.ntmps Tryd.f23.results.toList := fnOk_of Tryd.func23 (by kernel_rfl)
  ⟨h, bodyOk_of Tryd.func23 (by kernel_rfl)⟩
noncomputable def fe24 : FE := ⟨LB Tryd.f24, Tryd.f24.ntmps, Tryd.f24.results.toList, fun _ => none, true⟩
theorem fo24 : FnOk cx 24 fe24.body fe24.N fe24.rs ∧ BodyOk cx 24 pF fe24.q :=
  have h : FnOk cx 24 (LB Tryd.f24) Tryd.f24.ntmps Tryd.f24.results.toList := fnOk_of Tryd.func24 (by kernel_rfl)
  ⟨h, bodyOk_of Tryd.func24 (by kernel_rfl)⟩
noncomputable def fe25 : FE := ⟨LB Tryd.f25, Tryd.f25.ntmps, Tryd.f25.results.toList, fun _ => none, true⟩
theorem fo25 : FnOk cx 25 fe25.body fe25.N fe25.rs ∧ BodyOk cx 25 pF fe25.q :=
  have h : FnOk cx 25 (LB Tryd.f25) Tryd.f25.ntmps Tryd.f25.results.toList := fnOk_of Tryd.func25 (by kernel_rfl)
  ⟨h, bodyOk_of Tryd.func25 (by kernel_rfl)⟩
noncomputable def fe29 : FE := ⟨LB Tryd.f29, Tryd.f29.ntmps, Tryd.f29.results.toList, fun _ => none, false⟩
theorem fo29 : FnOk cx 29 fe29.body fe29.N fe29.rs ∧ BodyOk cx 29 pF fe29.q :=
  have h : FnOk cx 29 (LB Tryd.f29) Tryd.f29.ntmps Tryd.f29.results.toList := fnOk_of Tryd.func29 (by kernel_rfl)
  ⟨h, bodyOk_of Tryd.func29 (by kernel_rfl)⟩
noncomputable def fe30 : FE := ⟨LB Tryd.f30, Tryd.f30.ntmps, Tryd.f30.results.toList, fun _ => none, true⟩
theorem fo30 : FnOk cx 30 fe30.body fe30.N fe30.rs ∧ BodyOk cx 30 pF fe30.q :=
  have h : FnOk cx 30 (LB Tryd.f30) Tryd.f30.ntmps Tryd.f30.results.toList := fnOk_of Tryd.func30 (by kernel_rfl)
  ⟨h, bodyOk_of Tryd.func30 (by kernel_rfl)⟩
noncomputable def fe31 : FE := ⟨LB Tryd.f31, Tryd.f31.ntmps, Tryd.f31.results.toList, fun i => bif Nat.beq i 19 then some [(some 68, some 71), (some 68, some 75)] else none, true⟩
theorem fo31 : FnOk cx 31 fe31.body fe31.N fe31.rs ∧ BodyOk cx 31 pF fe31.q :=
  have h : FnOk cx 31 (LB Tryd.f31) Tryd.f31.ntmps Tryd.f31.results.toList := fnOk_of Tryd.func31 (by kernel_rfl)
  ⟨h, bodyOk_of Tryd.func31 (by kernel_rfl)⟩
noncomputable def fe32 : FE := ⟨LB Tryd.f32, Tryd.f32.ntmps, Tryd.f32.results.toList, fun _ => none, false⟩
theorem fo32 : FnOk cx 32 fe32.body fe32.N fe32.rs ∧ BodyOk cx 32 pF fe32.q :=
  have h : FnOk cx 32 (LB Tryd.f32) Tryd.f32.ntmps Tryd.f32.results.toList := fnOk_of Tryd.func32 (by kernel_rfl)
  ⟨h, bodyOk_of Tryd.func32 (by kernel_rfl)⟩
noncomputable def fe33 : FE := ⟨LB Tryd.f33, Tryd.f33.ntmps, Tryd.f33.results.toList, fun _ => none, false⟩
theorem fo33 : FnOk cx 33 fe33.body fe33.N fe33.rs ∧ BodyOk cx 33 pF fe33.q :=
  have h : FnOk cx 33 (LB Tryd.f33) Tryd.f33.ntmps Tryd.f33.results.toList := fnOk_of Tryd.func33 (by kernel_rfl)
  ⟨h, bodyOk_of Tryd.func33 (by kernel_rfl)⟩
noncomputable def fe34 : FE := ⟨LB Tryd.f34, Tryd.f34.ntmps, Tryd.f34.results.toList, fun _ => none, true⟩
theorem fo34 : FnOk cx 34 fe34.body fe34.N fe34.rs ∧ BodyOk cx 34 pF fe34.q :=
  have h : FnOk cx 34 (LB Tryd.f34) Tryd.f34.ntmps Tryd.f34.results.toList := fnOk_of Tryd.func34 (by kernel_rfl)
  ⟨h, bodyOk_of Tryd.func34 (by kernel_rfl)⟩
noncomputable def fe35 : FE := ⟨LB Tryd.f35, Tryd.f35.ntmps, Tryd.f35.results.toList, fun _ => none, true⟩
theorem fo35 : FnOk cx 35 fe35.body fe35.N fe35.rs ∧ BodyOk cx 35 pF fe35.q :=
  have h : FnOk cx 35 (LB Tryd.f35) Tryd.f35.ntmps Tryd.f35.results.toList := fnOk_of Tryd.func35 (by kernel_rfl)
  ⟨h, bodyOk_of Tryd.func35 (by kernel_rfl)⟩
noncomputable def fe36 : FE := ⟨LB Tryd.f36, Tryd.f36.ntmps, Tryd.f36.results.toList, fun _ => none, false⟩
theorem fo36 : FnOk cx 36 fe36.body fe36.N fe36.rs ∧ BodyOk cx 36 pF fe36.q :=
  have h : FnOk cx 36 (LB Tryd.f36) Tryd.f36.ntmps Tryd.f36.results.toList := fnOk_of Tryd.func36 (by kernel_rfl)
  ⟨h, bodyOk_of Tryd.func36 (by kernel_rfl)⟩
noncomputable def fe37 : FE := ⟨LB Tryd.f37, Tryd.f37.ntmps, Tryd.f37.results.toList, fun _ => none, true⟩
theorem fo37 : FnOk cx 37 fe37.body fe37.N fe37.rs ∧ BodyOk cx 37 pF fe37.q :=
  have h : FnOk cx 37 (LB Tryd.f37) Tryd.f37.ntmps Tryd.f37.results.toList := fnOk_of Tryd.func37 (by kernel_rfl)
  ⟨h, bodyOk_of Tryd.func37 (by kernel_rfl)⟩
noncomputable def fe38 : FE := ⟨LB Tryd.f38, Tryd.f38.ntmps, Tryd.f38.results.toList, fun _ => none, true⟩
theorem fo38 : FnOk cx 38 fe38.body fe38.N fe38.rs ∧ BodyOk cx 38 pF fe38.q :=
  have h : FnOk cx 38 (LB Tryd.f38) Tryd.f38.ntmps Tryd.f38.results.toList := fnOk_of Tryd.func38 (by kernel_rfl)
  ⟨h, bodyOk_of Tryd.func38 (by kernel_rfl)⟩
noncomputable def fe39 : FE := ⟨LB Tryd.f39, Tryd.f39.ntmps, Tryd.f39.results.toList, fun _ => none, true⟩
theorem fo39 : FnOk cx 39 fe39.body fe39.N fe39.rs ∧ BodyOk cx 39 pF fe39.q :=
  have h : FnOk cx 39 (LB Tryd.f39) Tryd.f39.ntmps Tryd.f39.results.toList := fnOk_of Tryd.func39 (by kernel_rfl)
  ⟨h, bodyOk_of Tryd.func39 (by kernel_rfl)⟩
noncomputable def fe40 : FE := ⟨LB Tryd.f40, Tryd.f40.ntmps, Tryd.f40.results.toList, fun _ => none, true⟩
theorem fo40 : FnOk cx 40 fe40.body fe40.N fe40.rs ∧ BodyOk cx 40 pF fe40.q :=
  have h : FnOk cx 40 (LB Tryd.f40) Tryd.f40.ntmps Tryd.f40.results.toList := fnOk_of Tryd.func40 (by kernel_rfl)
  ⟨h, bodyOk_of Tryd.func40 (by kernel_rfl)⟩
noncomputable def fe41 : FE := ⟨LB Tryd.f41, Tryd.f41.ntmps, Tryd.f41.results.toList, fun _ => none, true⟩
theorem fo41 : FnOk cx 41 fe41.body fe41.N fe41.rs ∧ BodyOk cx 41 pF fe41.q :=
  have h : FnOk cx 41 (LB Tryd.f41) Tryd.f41.ntmps Tryd.f41.results.toList := fnOk_of Tryd.func41 (by kernel_rfl)
  ⟨h, bodyOk_of Tryd.func41 (by kernel_rfl)⟩
noncomputable def fe45 : FE := ⟨LB Tryd.f45, Tryd.f45.ntmps, Tryd.f45.results.toList, fun _ => none, false⟩
theorem fo45 : FnOk cx 45 fe45.body fe45.N fe45.rs ∧ BodyOk cx 45 pF fe45.q :=
  have h : FnOk cx 45 (LB Tryd.f45) Tryd.f45.ntmps Tryd.f45.results.toList := fnOk_of Tryd.func45 (by kernel_rfl)
  ⟨h, bodyOk_of Tryd.func45 (by kernel_rfl)⟩
noncomputable def fe47 : FE := ⟨LB Tryd.f47, Tryd.f47.ntmps, Tryd.f47.results.toList, fun _ => none, true⟩
theorem fo47 : FnOk cx 47 fe47.body fe47.N fe47.rs ∧ BodyOk cx 47 pF fe47.q :=
  have h : FnOk cx 47 (LB Tryd.f47) Tryd.f47.ntmps Tryd.f47.results.toList := fnOk_of Tryd.func47 (by kernel_rfl)
  ⟨h, bodyOk_of Tryd.func47 (by kernel_rfl)⟩
noncomputable def fe48 : FE := ⟨LB Tryd.f48, Tryd.f48.ntmps, Tryd.f48.results.toList, fun _ => none, true⟩
theorem fo48 : FnOk cx 48 fe48.body fe48.N fe48.rs ∧ BodyOk cx 48 pF fe48.q :=
  have h : FnOk cx 48 (LB Tryd.f48) Tryd.f48.ntmps Tryd.f48.results.toList := fnOk_of Tryd.func48 (by kernel_rfl)
  ⟨h, bodyOk_of Tryd.func48 (by kernel_rfl)⟩
noncomputable def fe49 : FE := ⟨LB Tryd.f49, Tryd.f49.ntmps, Tryd.f49.results.toList, fun _ => none, true⟩
theorem fo49 : FnOk cx 49 fe49.body fe49.N fe49.rs ∧ BodyOk cx 49 pF fe49.q :=
  have h : FnOk cx 49 (LB Tryd.f49) Tryd.f49.ntmps Tryd.f49.results.toList := fnOk_of Tryd.func49 (by kernel_rfl)
  ⟨h, bodyOk_of Tryd.func49 (by kernel_rfl)⟩
noncomputable def fe50 : FE := ⟨LB Tryd.f50, Tryd.f50.ntmps, Tryd.f50.results.toList, fun _ => none, true⟩
theorem fo50 : FnOk cx 50 fe50.body fe50.N fe50.rs ∧ BodyOk cx 50 pF fe50.q :=
  have h : FnOk cx 50 (LB Tryd.f50) Tryd.f50.ntmps Tryd.f50.results.toList := fnOk_of Tryd.func50 (by kernel_rfl)
  ⟨h, bodyOk_of Tryd.func50 (by kernel_rfl)⟩
noncomputable def fe51 : FE := ⟨LB Tryd.f51, Tryd.f51.ntmps, Tryd.f51.results.toList, fun _ => none, true⟩
theorem fo51 : FnOk cx 51 fe51.body fe51.N fe51.rs ∧ BodyOk cx 51 pF fe51.q :=
  have h : FnOk cx 51 (LB Tryd.f51) Tryd.f51.ntmps Tryd.f51.results.toList := fnOk_of Tryd.func51 (by kernel_rfl)
  ⟨h, bodyOk_of Tryd.func51 (by kernel_rfl)⟩
noncomputable def fe52 : FE := ⟨LB Tryd.f52, Tryd.f52.ntmps, Tryd.f52.results.toList, fun _ => none, true⟩
theorem fo52 : FnOk cx 52 fe52.body fe52.N fe52.rs ∧ BodyOk cx 52 pF fe52.q :=
  have h : FnOk cx 52 (LB Tryd.f52) Tryd.f52.ntmps Tryd.f52.results.toList := fnOk_of Tryd.func52 (by kernel_rfl)
  ⟨h, bodyOk_of Tryd.func52 (by kernel_rfl)⟩
noncomputable def fe53 : FE := ⟨LB Tryd.f53, Tryd.f53.ntmps, Tryd.f53.results.toList, fun _ => none, true⟩
theorem fo53 : FnOk cx 53 fe53.body fe53.N fe53.rs ∧ BodyOk cx 53 pF fe53.q :=
  have h : FnOk cx 53 (LB Tryd.f53) Tryd.f53.ntmps Tryd.f53.results.toList := fnOk_of Tryd.func53 (by kernel_rfl)
  ⟨h, bodyOk_of Tryd.func53 (by kernel_rfl)⟩
noncomputable def fe54 : FE := ⟨LB Tryd.f54, Tryd.f54.ntmps, Tryd.f54.results.toList, fun _ => none, true⟩
theorem fo54 : FnOk cx 54 fe54.body fe54.N fe54.rs ∧ BodyOk cx 54 pF fe54.q :=
  have h : FnOk cx 54 (LB Tryd.f54) Tryd.f54.ntmps Tryd.f54.results.toList := fnOk_of Tryd.func54 (by kernel_rfl)
  ⟨h, bodyOk_of Tryd.func54 (by kernel_rfl)⟩
noncomputable def fe55 : FE := ⟨LB Tryd.f55, Tryd.f55.ntmps, Tryd.f55.results.toList, fun _ => none, true⟩
theorem fo55 : FnOk cx 55 fe55.body fe55.N fe55.rs ∧ BodyOk cx 55 pF fe55.q :=
  have h : FnOk cx 55 (LB Tryd.f55) Tryd.f55.ntmps Tryd.f55.results.toList := fnOk_of Tryd.func55 (by kernel_rfl)
  ⟨h, bodyOk_of Tryd.func55 (by kernel_rfl)⟩
noncomputable def fe56 : FE := ⟨LB Tryd.f56, Tryd.f56.ntmps, Tryd.f56.results.toList, fun _ => none, true⟩
theorem fo56 : FnOk cx 56 fe56.body fe56.N fe56.rs ∧ BodyOk cx 56 pF fe56.q :=
  have h : FnOk cx 56 (LB Tryd.f56) Tryd.f56.ntmps Tryd.f56.results.toList := fnOk_of Tryd.func56 (by kernel_rfl)
  ⟨h, bodyOk_of Tryd.func56 (by kernel_rfl)⟩
noncomputable def fe57 : FE := ⟨LB Tryd.f57, Tryd.f57.ntmps, Tryd.f57.results.toList, fun _ => none, true⟩
theorem fo57 : FnOk cx 57 fe57.body fe57.N fe57.rs ∧ BodyOk cx 57 pF fe57.q :=
  have h : FnOk cx 57 (LB Tryd.f57) Tryd.f57.ntmps Tryd.f57.results.toList := fnOk_of Tryd.func57 (by kernel_rfl)
  ⟨h, bodyOk_of Tryd.func57 (by kernel_rfl)⟩
noncomputable def fe58 : FE := ⟨LB Tryd.f58, Tryd.f58.ntmps, Tryd.f58.results.toList, fun _ => none, true⟩
theorem fo58 : FnOk cx 58 fe58.body fe58.N fe58.rs ∧ BodyOk cx 58 pF fe58.q :=
  have h : FnOk cx 58 (LB Tryd.f58) Tryd.f58.ntmps Tryd.f58.results.toList := fnOk_of Tryd.func58 (by kernel_rfl)
  ⟨h, bodyOk_of Tryd.func58 (by kernel_rfl)⟩
noncomputable def fe59 : FE := ⟨LB Tryd.f59, Tryd.f59.ntmps, Tryd.f59.results.toList, fun _ => none, true⟩
theorem fo59 : FnOk cx 59 fe59.body fe59.N fe59.rs ∧ BodyOk cx 59 pF fe59.q :=
  have h : FnOk cx 59 (LB Tryd.f59) Tryd.f59.ntmps Tryd.f59.results.toList := fnOk_of Tryd.func59 (by kernel_rfl)
  ⟨h, bodyOk_of Tryd.func59 (by kernel_rfl)⟩
noncomputable def fe60 : FE := ⟨LB Tryd.f60, Tryd.f60.ntmps, Tryd.f60.results.toList, fun _ => none, true⟩
theorem fo60 : FnOk cx 60 fe60.body fe60.N fe60.rs ∧ BodyOk cx 60 pF fe60.q :=
  have h : FnOk cx 60 (LB Tryd.f60) Tryd.f60.ntmps Tryd.f60.results.toList := fnOk_of Tryd.func60 (by kernel_rfl)
  ⟨h, bodyOk_of Tryd.func60 (by kernel_rfl)⟩
noncomputable def fe62 : FE := ⟨LB Tryd.f62, Tryd.f62.ntmps, Tryd.f62.results.toList, fun _ => none, false⟩
theorem fo62 : FnOk cx 62 fe62.body fe62.N fe62.rs ∧ BodyOk cx 62 pF fe62.q :=
  have h : FnOk cx 62 (LB Tryd.f62) Tryd.f62.ntmps Tryd.f62.results.toList := fnOk_of Tryd.func62 (by kernel_rfl)
  ⟨h, bodyOk_of Tryd.func62 (by kernel_rfl)⟩
noncomputable def fe64 : FE := ⟨LB Tryd.f64, Tryd.f64.ntmps, Tryd.f64.results.toList, fun _ => none, false⟩
theorem fo64 : FnOk cx 64 fe64.body fe64.N fe64.rs ∧ BodyOk cx 64 pF fe64.q :=
  have h : FnOk cx 64 (LB Tryd.f64) Tryd.f64.ntmps Tryd.f64.results.toList := fnOk_of Tryd.func64 (by kernel_rfl)
  ⟨h, bodyOk_of Tryd.func64 (by kernel_rfl)⟩
noncomputable def fe65 : FE := ⟨LB Tryd.f65, Tryd.f65.ntmps, Tryd.f65.results.toList, fun _ => none, true⟩
theorem fo65 : FnOk cx 65 fe65.body fe65.N fe65.rs ∧ BodyOk cx 65 pF fe65.q :=
  have h : FnOk cx 65 (LB Tryd.f65) Tryd.f65.ntmps Tryd.f65.results.toList := fnOk_of Tryd.func65 (by kernel_rfl)
  ⟨h, bodyOk_of Tryd.func65 (by kernel_rfl)⟩
noncomputable def fe66 : FE := ⟨LB Tryd.f66, Tryd.f66.ntmps, Tryd.f66.results.toList, fun _ => none, true⟩
theorem fo66 : FnOk cx 66 fe66.body fe66.N fe66.rs ∧ BodyOk cx 66 pF fe66.q :=
  have h : FnOk cx 66 (LB Tryd.f66) Tryd.f66.ntmps Tryd.f66.results.toList := fnOk_of Tryd.func66 (by kernel_rfl)
  ⟨h, bodyOk_of Tryd.func66 (by kernel_rfl)⟩
noncomputable def fe67 : FE := ⟨LB Tryd.f67, Tryd.f67.ntmps, Tryd.f67.results.toList, fun _ => none, true⟩
theorem fo67 : FnOk cx 67 fe67.body fe67.N fe67.rs ∧ BodyOk cx 67 pF fe67.q :=
  have h : FnOk cx 67 (LB Tryd.f67) Tryd.f67.ntmps Tryd.f67.results.toList := fnOk_of Tryd.func67 (by kernel_rfl)
  ⟨h, bodyOk_of Tryd.func67 (by kernel_rfl)⟩
noncomputable def fe68 : FE := ⟨LB Tryd.f68, Tryd.f68.ntmps, Tryd.f68.results.toList, fun _ => none, true⟩
theorem fo68 : FnOk cx 68 fe68.body fe68.N fe68.rs ∧ BodyOk cx 68 pF fe68.q :=
  have h : FnOk cx 68 (LB Tryd.f68) Tryd.f68.ntmps Tryd.f68.results.toList := fnOk_of Tryd.func68 (by kernel_rfl)
  ⟨h, bodyOk_of Tryd.func68 (by kernel_rfl)⟩
noncomputable def fe69 : FE := ⟨LB Tryd.f69, Tryd.f69.ntmps, Tryd.f69.results.toList, fun _ => none, true⟩
theorem fo69 : FnOk cx 69 fe69.body fe69.N fe69.rs ∧ BodyOk cx 69 pF fe69.q :=
  have h : FnOk cx 69 (LB Tryd.f69) Tryd.f69.ntmps Tryd.f69.results.toList := fnOk_of Tryd.func69 (by kernel_rfl)
  ⟨h, bodyOk_of Tryd.func69 (by kernel_rfl)⟩
noncomputable def fe70 : FE := ⟨LB Tryd.f70, Tryd.f70.ntmps, Tryd.f70.results.toList, fun _ => none, false⟩
theorem fo70 : FnOk cx 70 fe70.body fe70.N fe70.rs ∧ BodyOk cx 70 pF fe70.q :=
  have h : FnOk cx 70 (LB Tryd.f70) Tryd.f70.ntmps Tryd.f70.results.toList := fnOk_of Tryd.func70 (by kernel_rfl)
  ⟨h, bodyOk_of Tryd.func70 (by kernel_rfl)⟩
noncomputable def fe72 : FE := ⟨LB Tryd.f72, Tryd.f72.ntmps, Tryd.f72.results.toList, fun _ => none, false⟩
theorem fo72 : FnOk cx 72 fe72.body fe72.N fe72.rs ∧ BodyOk cx 72 pF fe72.q :=
  have h : FnOk cx 72 (LB Tryd.f72) Tryd.f72.ntmps Tryd.f72.results.toList := fnOk_of Tryd.func72 (by kernel_rfl)
  ⟨h, bodyOk_of Tryd.func72 (by kernel_rfl)⟩
noncomputable def fe73 : FE := ⟨LB Tryd.f73, Tryd.f73.ntmps, Tryd.f73.results.toList, fun _ => none, true⟩
theorem fo73 : FnOk cx 73 fe73.body fe73.N fe73.rs ∧ BodyOk cx 73 pF fe73.q :=
  have h : FnOk cx 73 (LB Tryd.f73) Tryd.f73.ntmps Tryd.f73.results.toList := fnOk_of Tryd.func73 (by kernel_rfl)
  ⟨h, bodyOk_of Tryd.func73 (by kernel_rfl)⟩
noncomputable def fe75 : FE := ⟨LB Tryd.f75, Tryd.f75.ntmps, Tryd.f75.results.toList, fun _ => none, false⟩
theorem fo75 : FnOk cx 75 fe75.body fe75.N fe75.rs ∧ BodyOk cx 75 pF fe75.q :=
  have h : FnOk cx 75 (LB Tryd.f75) Tryd.f75.ntmps Tryd.f75.results.toList := fnOk_of Tryd.func75 (by kernel_rfl)
  ⟨h, bodyOk_of Tryd.func75 (by kernel_rfl)⟩
noncomputable def fe76 : FE := ⟨LB Tryd.f76, Tryd.f76.ntmps, Tryd.f76.results.toList, fun _ => none, false⟩
theorem fo76 : FnOk cx 76 fe76.body fe76.N fe76.rs ∧ BodyOk cx 76 pF fe76.q :=
  have h : FnOk cx 76 (LB Tryd.f76) Tryd.f76.ntmps Tryd.f76.results.toList := fnOk_of Tryd.func76 (by kernel_rfl)
  ⟨h, bodyOk_of Tryd.func76 (by kernel_rfl)⟩
noncomputable def fe77 : FE := ⟨LB Tryd.f77, Tryd.f77.ntmps, Tryd.f77.results.toList, fun _ => none, true⟩
theorem fo77 : FnOk cx 77 fe77.body fe77.N fe77.rs ∧ BodyOk cx 77 pF fe77.q :=
  have h : FnOk cx 77 (LB Tryd.f77) Tryd.f77.ntmps Tryd.f77.results.toList := fnOk_of Tryd.func77 (by kernel_rfl)
  ⟨h, bodyOk_of Tryd.func77 (by kernel_rfl)⟩
noncomputable def fe78 : FE := ⟨LB Tryd.f78, Tryd.f78.ntmps, Tryd.f78.results.toList, fun _ => none, true⟩
theorem fo78 : FnOk cx 78 fe78.body fe78.N fe78.rs ∧ BodyOk cx 78 pF fe78.q :=
  have h : FnOk cx 78 (LB Tryd.f78) Tryd.f78.ntmps Tryd.f78.results.toList := fnOk_of Tryd.func78 (by kernel_rfl)
  ⟨h, bodyOk_of Tryd.func78 (by kernel_rfl)⟩
noncomputable def fe79 : FE := ⟨LB Tryd.f79, Tryd.f79.ntmps, Tryd.f79.results.toList, fun _ => none, true⟩
theorem fo79 : FnOk cx 79 fe79.body fe79.N fe79.rs ∧ BodyOk cx 79 pF fe79.q :=
  have h : FnOk cx 79 (LB Tryd.f79) Tryd.f79.ntmps Tryd.f79.results.toList := fnOk_of Tryd.func79 (by kernel_rfl)
  ⟨h, bodyOk_of Tryd.func79 (by kernel_rfl)⟩
noncomputable def fe80 : FE := ⟨LB Tryd.f80, Tryd.f80.ntmps, Tryd.f80.results.toList, fun _ => none, true⟩
theorem fo80 : FnOk cx 80 fe80.body fe80.N fe80.rs ∧ BodyOk cx 80 pF fe80.q :=
  have h : FnOk cx 80 (LB Tryd.f80) Tryd.f80.ntmps Tryd.f80.results.toList := fnOk_of Tryd.func80 (by kernel_rfl)
  ⟨h, bodyOk_of Tryd.func80 (by kernel_rfl)⟩
noncomputable def fe81 : FE := ⟨LB Tryd.f81, Tryd.f81.ntmps, Tryd.f81.results.toList, fun _ => none, true⟩
theorem fo81 : FnOk cx 81 fe81.body fe81.N fe81.rs ∧ BodyOk cx 81 pF fe81.q :=
  have h : FnOk cx 81 (LB Tryd.f81) Tryd.f81.ntmps Tryd.f81.results.toList := fnOk_of Tryd.func81 (by kernel_rfl)
  ⟨h, bodyOk_of Tryd.func81 (by kernel_rfl)⟩
noncomputable def fe82 : FE := ⟨LB Tryd.f82, Tryd.f82.ntmps, Tryd.f82.results.toList, fun _ => none, true⟩
theorem fo82 : FnOk cx 82 fe82.body fe82.N fe82.rs ∧ BodyOk cx 82 pF fe82.q :=
  have h : FnOk cx 82 (LB Tryd.f82) Tryd.f82.ntmps Tryd.f82.results.toList := fnOk_of Tryd.func82 (by kernel_rfl)
  ⟨h, bodyOk_of Tryd.func82 (by kernel_rfl)⟩
noncomputable def fe83 : FE := ⟨LB Tryd.f83, Tryd.f83.ntmps, Tryd.f83.results.toList, fun _ => none, true⟩
theorem fo83 : FnOk cx 83 fe83.body fe83.N fe83.rs ∧ BodyOk cx 83 pF fe83.q :=
  have h : FnOk cx 83 (LB Tryd.f83) Tryd.f83.ntmps Tryd.f83.results.toList := fnOk_of Tryd.func83 (by kernel_rfl)
  ⟨h, bodyOk_of Tryd.func83 (by kernel_rfl)⟩
noncomputable def fe84 : FE := ⟨LB Tryd.f84, Tryd.f84.ntmps, Tryd.f84.results.toList, fun _ => none, true⟩
theorem fo84 : FnOk cx 84 fe84.body fe84.N fe84.rs ∧ BodyOk cx 84 pF fe84.q :=
  have h : FnOk cx 84 (LB Tryd.f84) Tryd.f84.ntmps Tryd.f84.results.toList := fnOk_of Tryd.func84 (by kernel_rfl)
  ⟨h, bodyOk_of Tryd.func84 (by kernel_rfl)⟩
noncomputable def fe85 : FE := ⟨LB Tryd.f85, Tryd.f85.ntmps, Tryd.f85.results.toList, fun _ => none, true⟩
theorem fo85 : FnOk cx 85 fe85.body fe85.N fe85.rs ∧ BodyOk cx 85 pF fe85.q :=
  have h : FnOk cx 85 (LB Tryd.f85) Tryd.f85.ntmps Tryd.f85.results.toList := fnOk_of Tryd.func85 (by kernel_rfl)
  ⟨h, bodyOk_of Tryd.func85 (by kernel_rfl)⟩
noncomputable def fe87 : FE := ⟨LB Tryd.f87, Tryd.f87.ntmps, Tryd.f87.results.toList, fun _ => none, false⟩
theorem fo87 : FnOk cx 87 fe87.body fe87.N fe87.rs ∧ BodyOk cx 87 pF fe87.q :=
  have h : FnOk cx 87 (LB Tryd.f87) Tryd.f87.ntmps Tryd.f87.results.toList := fnOk_of Tryd.func87 (by kernel_rfl)
  ⟨h, bodyOk_of Tryd.func87 (by kernel_rfl)⟩
noncomputable def fe88 : FE := ⟨LB Tryd.f88, Tryd.f88.ntmps, Tryd.f88.results.toList, fun i => bif Nat.beq i 1 then some [(some 8, some 7)] else none, false⟩
theorem fo88 : FnOk cx 88 fe88.body fe88.N fe88.rs ∧ BodyOk cx 88 pF fe88.q :=
  have h : FnOk cx 88 (LB Tryd.f88) Tryd.f88.ntmps Tryd.f88.results.toList := fnOk_of Tryd.func88 (by kernel_rfl)
  ⟨h, bodyOk_of Tryd.func88 (by kernel_rfl)⟩
noncomputable def fe89 : FE := ⟨LB Tryd.f89, Tryd.f89.ntmps, Tryd.f89.results.toList, fun i => bif Nat.beq i 1 then some [(some 8, some 7)] else none, false⟩
theorem fo89 : FnOk cx 89 fe89.body fe89.N fe89.rs ∧ BodyOk cx 89 pF fe89.q :=
  have h : FnOk cx 89 (LB Tryd.f89) Tryd.f89.ntmps Tryd.f89.results.toList := fnOk_of Tryd.func89 (by kernel_rfl)
  ⟨h, bodyOk_of Tryd.func89 (by kernel_rfl)⟩
noncomputable def fe90 : FE := ⟨LB Tryd.f90, Tryd.f90.ntmps, Tryd.f90.results.toList, fun _ => none, false⟩
theorem fo90 : FnOk cx 90 fe90.body fe90.N fe90.rs ∧ BodyOk cx 90 pF fe90.q :=
  have h : FnOk cx 90 (LB Tryd.f90) Tryd.f90.ntmps Tryd.f90.results.toList := fnOk_of Tryd.func90 (by kernel_rfl)
  ⟨h, bodyOk_of Tryd.func90 (by kernel_rfl)⟩
noncomputable def fe91 : FE := ⟨LB Tryd.f91, Tryd.f91.ntmps, Tryd.f91.results.toList, fun _ => none, false⟩
theorem fo91 : FnOk cx 91 fe91.body fe91.N fe91.rs ∧ BodyOk cx 91 pF fe91.q :=
  have h : FnOk cx 91 (LB Tryd.f91) Tryd.f91.ntmps Tryd.f91.results.toList := fnOk_of Tryd.func91 (by kernel_rfl)
  ⟨h, bodyOk_of Tryd.func91 (by kernel_rfl)⟩
noncomputable def fe92 : FE := ⟨LB Tryd.f92, Tryd.f92.ntmps, Tryd.f92.results.toList, fun _ => none, true⟩
theorem fo92 : FnOk cx 92 fe92.body fe92.N fe92.rs ∧ BodyOk cx 92 pF fe92.q :=
  have h : FnOk cx 92 (LB Tryd.f92) Tryd.f92.ntmps Tryd.f92.results.toList := fnOk_of Tryd.func92 (by kernel_rfl)
  ⟨h, bodyOk_of Tryd.func92 (by kernel_rfl)⟩
noncomputable def fe94 : FE := ⟨LB Tryd.f94, Tryd.f94.ntmps, Tryd.f94.results.toList, fun _ => none, true⟩
theorem fo94 : FnOk cx 94 fe94.body fe94.N fe94.rs ∧ BodyOk cx 94 pF fe94.q :=
  have h : FnOk cx 94 (LB Tryd.f94) Tryd.f94.ntmps Tryd.f94.results.toList := fnOk_of Tryd.func94 (by kernel_rfl)
  ⟨h, bodyOk_of Tryd.func94 (by kernel_rfl)⟩
noncomputable def fe95 : FE := ⟨LB Tryd.f95, Tryd.f95.ntmps, Tryd.f95.results.toList, fun _ => none, true⟩
theorem fo95 : FnOk cx 95 fe95.body fe95.N fe95.rs ∧ BodyOk cx 95 pF fe95.q :=
  have h : FnOk cx 95 (LB Tryd.f95) Tryd.f95.ntmps Tryd.f95.results.toList := fnOk_of Tryd.func95 (by kernel_rfl)
  ⟨h, bodyOk_of Tryd.func95 (by kernel_rfl)⟩
noncomputable def fe96 : FE := ⟨LB Tryd.f96, Tryd.f96.ntmps, Tryd.f96.results.toList, fun _ => none, true⟩
theorem fo96 : FnOk cx 96 fe96.body fe96.N fe96.rs ∧ BodyOk cx 96 pF fe96.q :=
  have h : FnOk cx 96 (LB Tryd.f96) Tryd.f96.ntmps Tryd.f96.results.toList := fnOk_of Tryd.func96 (by kernel_rfl)
  ⟨h, bodyOk_of Tryd.func96 (by kernel_rfl)⟩
noncomputable def fe97 : FE := ⟨LB Tryd.f97, Tryd.f97.ntmps, Tryd.f97.results.toList, fun _ => none, true⟩
theorem fo97 : FnOk cx 97 fe97.body fe97.N fe97.rs ∧ BodyOk cx 97 pF fe97.q :=
  have h : FnOk cx 97 (LB Tryd.f97) Tryd.f97.ntmps Tryd.f97.results.toList := fnOk_of Tryd.func97 (by kernel_rfl)
  ⟨h, bodyOk_of Tryd.func97 (by kernel_rfl)⟩
noncomputable def fe98 : FE := ⟨LB Tryd.f98, Tryd.f98.ntmps, Tryd.f98.results.toList, fun _ => none, true⟩
theorem fo98 : FnOk cx 98 fe98.body fe98.N fe98.rs ∧ BodyOk cx 98 pF fe98.q :=
  have h : FnOk cx 98 (LB Tryd.f98) Tryd.f98.ntmps Tryd.f98.results.toList := fnOk_of Tryd.func98 (by kernel_rfl)
  ⟨h, bodyOk_of Tryd.func98 (by kernel_rfl)⟩
noncomputable def fe99 : FE := ⟨LB Tryd.f99, Tryd.f99.ntmps, Tryd.f99.results.toList, fun _ => none, true⟩
theorem fo99 : FnOk cx 99 fe99.body fe99.N fe99.rs ∧ BodyOk cx 99 pF fe99.q :=
  have h : FnOk cx 99 (LB Tryd.f99) Tryd.f99.ntmps Tryd.f99.results.toList := fnOk_of Tryd.func99 (by kernel_rfl)
  ⟨h, bodyOk_of Tryd.func99 (by kernel_rfl)⟩
noncomputable def fe100 : FE := ⟨LB Tryd.f100, Tryd.f100.ntmps, Tryd.f100.results.toList, fun _ => none, true⟩
theorem fo100 : FnOk cx 100 fe100.body fe100.N fe100.rs ∧ BodyOk cx 100 pF fe100.q :=
  have h : FnOk cx 100 (LB Tryd.f100) Tryd.f100.ntmps Tryd.f100.results.toList := fnOk_of Tryd.func100 (by kernel_rfl)
  ⟨h, bodyOk_of Tryd.func100 (by kernel_rfl)⟩
noncomputable def fe101 : FE := ⟨LB Tryd.f101, Tryd.f101.ntmps, Tryd.f101.results.toList, fun _ => none, true⟩
theorem fo101 : FnOk cx 101 fe101.body fe101.N fe101.rs ∧ BodyOk cx 101 pF fe101.q :=
  have h : FnOk cx 101 (LB Tryd.f101) Tryd.f101.ntmps Tryd.f101.results.toList := fnOk_of Tryd.func101 (by kernel_rfl)
  ⟨h, bodyOk_of Tryd.func101 (by kernel_rfl)⟩
noncomputable def fe102 : FE := ⟨LB Tryd.f102, Tryd.f102.ntmps, Tryd.f102.results.toList, fun _ => none, false⟩
theorem fo102 : FnOk cx 102 fe102.body fe102.N fe102.rs ∧ BodyOk cx 102 pF fe102.q :=
  have h : FnOk cx 102 (LB Tryd.f102) Tryd.f102.ntmps Tryd.f102.results.toList := fnOk_of Tryd.func102 (by kernel_rfl)
  ⟨h, bodyOk_of Tryd.func102 (by kernel_rfl)⟩
noncomputable def fe104 : FE := ⟨LB Tryd.f104, Tryd.f104.ntmps, Tryd.f104.results.toList, fun _ => none, true⟩
theorem fo104 : FnOk cx 104 fe104.body fe104.N fe104.rs ∧ BodyOk cx 104 pF fe104.q :=
  have h : FnOk cx 104 (LB Tryd.f104) Tryd.f104.ntmps Tryd.f104.results.toList := fnOk_of Tryd.func104 (by kernel_rfl)
  ⟨h, bodyOk_of Tryd.func104 (by kernel_rfl)⟩
noncomputable def tab (f : FuncId) : Option FE := (bif Nat.blt f 55 then (bif Nat.blt f 29 then (bif Nat.blt f 15 then (bif Nat.blt f 10 then (bif Nat.blt f 5 then (bif Nat.blt f 4 then (bif Nat.blt f 3 then none else bif Nat.beq f 3 then some fe3 else none) else bif Nat.beq f 4 then some fe4 else none) else bif Nat.beq f 5 then some fe5 else (bif Nat.blt f 9 then (bif Nat.blt f 6 then none else bif Nat.beq f 6 then some fe6 else none) else bif Nat.beq f 9 then some fe9 else none)) else bif Nat.beq f 10 then some fe10 else (bif Nat.blt f 13 then (bif Nat.blt f 12 then (bif Nat.blt f 11 then none else bif Nat.beq f 11 then some fe11 else none) else bif Nat.beq f 12 then some fe12 else none) else bif Nat.beq f 13 then some fe13 else (bif Nat.blt f 14 then none else bif Nat.beq f 14 then some fe14 else none))) else bif Nat.beq f 15 then some fe15 else (bif Nat.blt f 21 then (bif Nat.blt f 18 then (bif Nat.blt f 17 then (bif Nat.blt f 16 then none else bif Nat.beq f 16 then some fe16 else none) else bif Nat.beq f 17 then some fe17 else none) else bif Nat.beq f 18 then some fe18 else (bif Nat.blt f 20 then (bif Nat.blt f 19 then none else bif Nat.beq f 19 then some fe19 else none) else bif Nat.beq f 20 then some fe20 else none)) else bif Nat.beq f 21 then some fe21 else (bif Nat.blt f 24 then (bif Nat.blt f 23 then (bif Nat.blt f 22 then none else bif Nat.beq f 22 then some fe22 else none) else bif Nat.beq f 23 then some fe23 else none) else bif Nat.beq f 24 then some fe24 else (bif Nat.blt f 25 then none else bif Nat.beq f 25 then some fe25 else none)))) else bif Nat.beq f 29 then some fe29 else (bif Nat.blt f 40 then (bif Nat.blt f 35 then (bif Nat.blt f 32 then (bif Nat.blt f 31 then (bif Nat.blt f 30 then none else bif Nat.beq f 30 then some fe30 else none) else bif Nat.beq f 31 then some fe31 else none) else bif Nat.beq f 32 then some fe32 else (bif Nat.blt f 34 then (bif Nat.blt f 33 then none else bif Nat.beq f 33 then some fe33 else none) else bif Nat.beq f 34 then some fe34 else none)) else bif Nat.beq f 35 then some fe35 else (bif Nat.blt f 38 then (bif Nat.blt f 37 then (bif Nat.blt f 36 then none else bif Nat.beq f 36 then some fe36 else none) else bif Nat.beq f 37 then some fe37 else none) else bif Nat.beq f 38 then some fe38 else (bif Nat.blt f 39 then none else bif Nat.beq f 39 then some fe39 else none))) else bif Nat.beq f 40 then some fe40 else (bif Nat.blt f 50 then (bif Nat.blt f 47 then (bif Nat.blt f 45 then (bif Nat.blt f 41 then none else bif Nat.beq f 41 then some fe41 else none) else bif Nat.beq f 45 then some fe45 else none) else bif Nat.beq f 47 then some fe47 else (bif Nat.blt f 49 then (bif Nat.blt f 48 then none else bif Nat.beq f 48 then some fe48 else none) else bif Nat.beq f 49 then some fe49 else none)) else bif Nat.beq f 50 then some fe50 else (bif Nat.blt f 53 then (bif Nat.blt f 52 then (bif Nat.blt f 51 then none else bif Nat.beq f 51 then some fe51 else none) else bif Nat.beq f 52 then some fe52 else none) else bif Nat.beq f 53 then some fe53 else (bif Nat.blt f 54 then none else bif Nat.beq f 54 then some fe54 else none))))) else bif Nat.beq f 55 then some fe55 else (bif Nat.blt f 81 then (bif Nat.blt f 68 then (bif Nat.blt f 62 then (bif Nat.blt f 58 then (bif Nat.blt f 57 then (bif Nat.blt f 56 then none else bif Nat.beq f 56 then some fe56 else none) else bif Nat.beq f 57 then some fe57 else none) else bif Nat.beq f 58 then some fe58 else (bif Nat.blt f 60 then (bif Nat.blt f 59 then none else bif Nat.beq f 59 then some fe59 else none) else bif Nat.beq f 60 then some fe60 else none)) else bif Nat.beq f 62 then some fe62 else (bif Nat.blt f 66 then (bif Nat.blt f 65 then (bif Nat.blt f 64 then none else bif Nat.beq f 64 then some fe64 else none) else bif Nat.beq f 65 then some fe65 else none) else bif Nat.beq f 66 then some fe66 else (bif Nat.blt f 67 then none else bif Nat.beq f 67 then some fe67 else none))) else bif Nat.beq f 68 then some fe68 else (bif Nat.blt f 76 then (bif Nat.blt f 72 then (bif Nat.blt f 70 then (bif Nat.blt f 69 then none else bif Nat.beq f 69 then some fe69 else none) else bif Nat.beq f 70 then some fe70 else none) else bif Nat.beq f 72 then some fe72 else (bif Nat.blt f 75 then (bif Nat.blt f 73 then none else bif Nat.beq f 73 then some fe73 else none) else bif Nat.beq f 75 then some fe75 else none)) else bif Nat.beq f 76 then some fe76 else (bif Nat.blt f 79 then (bif Nat.blt f 78 then (bif Nat.blt f 77 then none else bif Nat.beq f 77 then some fe77 else none) else bif Nat.beq f 78 then some fe78 else none) else bif Nat.beq f 79 then some fe79 else (bif Nat.blt f 80 then none else bif Nat.beq f 80 then some fe80 else none)))) else bif Nat.beq f 81 then some fe81 else (bif Nat.blt f 94 then (bif Nat.blt f 88 then (bif Nat.blt f 84 then (bif Nat.blt f 83 then (bif Nat.blt f 82 then none else bif Nat.beq f 82 then some fe82 else none) else bif Nat.beq f 83 then some fe83 else none) else bif Nat.beq f 84 then some fe84 else (bif Nat.blt f 87 then (bif Nat.blt f 85 then none else bif Nat.beq f 85 then some fe85 else none) else bif Nat.beq f 87 then some fe87 else none)) else bif Nat.beq f 88 then some fe88 else (bif Nat.blt f 91 then (bif Nat.blt f 90 then (bif Nat.blt f 89 then none else bif Nat.beq f 89 then some fe89 else none) else bif Nat.beq f 90 then some fe90 else none) else bif Nat.beq f 91 then some fe91 else (bif Nat.blt f 92 then none else bif Nat.beq f 92 then some fe92 else none))) else bif Nat.beq f 94 then some fe94 else (bif Nat.blt f 99 then (bif Nat.blt f 97 then (bif Nat.blt f 96 then (bif Nat.blt f 95 then none else bif Nat.beq f 95 then some fe95 else none) else bif Nat.beq f 96 then some fe96 else none) else bif Nat.beq f 97 then some fe97 else (bif Nat.blt f 98 then none else bif Nat.beq f 98 then some fe98 else none)) else bif Nat.beq f 99 then some fe99 else (bif Nat.blt f 102 then (bif Nat.blt f 101 then (bif Nat.blt f 100 then none else bif Nat.beq f 100 then some fe100 else none) else bif Nat.beq f 101 then some fe101 else none) else bif Nat.beq f 102 then some fe102 else (bif Nat.blt f 104 then none else bif Nat.beq f 104 then some fe104 else none))))))
theorem tab_fn (f : FuncId) (e : FE) (h : tab f = some e) : FnOk cx f e.body e.N e.rs ∧ BodyOk cx f pF e.q := by
  unfold tab at h
  rcases cond_some h with ⟨c, h⟩ | ⟨c, h⟩
  · rcases cond_some h with ⟨c, h⟩ | ⟨c, h⟩
    · rcases cond_some h with ⟨c, h⟩ | ⟨c, h⟩
      · rcases cond_some h with ⟨c, h⟩ | ⟨c, h⟩
        · rcases cond_some h with ⟨c, h⟩ | ⟨c, h⟩
          · rcases cond_some h with ⟨c, h⟩ | ⟨c, h⟩
            · rcases cond_some h with ⟨c, h⟩ | ⟨c, h⟩
              · cases h
              · rcases cond_some h with ⟨d, h⟩ | ⟨d, h⟩
                · obtain rfl := nbeq d
                  injection h with h
                  subst h
                  exact fo3
                · cases h
            · rcases cond_some h with ⟨d, h⟩ | ⟨d, h⟩
              · obtain rfl := nbeq d
                injection h with h
                subst h
                exact fo4
              · cases h
          · rcases cond_some h with ⟨d, h⟩ | ⟨d, h⟩
            · obtain rfl := nbeq d
              injection h with h
              subst h
              exact fo5
            · rcases cond_some h with ⟨c, h⟩ | ⟨c, h⟩
              · rcases cond_some h with ⟨c, h⟩ | ⟨c, h⟩
                · cases h
                · rcases cond_some h with ⟨d, h⟩ | ⟨d, h⟩
                  · obtain rfl := nbeq d
                    injection h with h
                    subst h
                    exact fo6
                  · cases h
              · rcases cond_some h with ⟨d, h⟩ | ⟨d, h⟩
                · obtain rfl := nbeq d
                  injection h with h
                  subst h
                  exact fo9
                · cases h
        · rcases cond_some h with ⟨d, h⟩ | ⟨d, h⟩
          · obtain rfl := nbeq d
            injection h with h
            subst h
            exact fo10
          · rcases cond_some h with ⟨c, h⟩ | ⟨c, h⟩
            · rcases cond_some h with ⟨c, h⟩ | ⟨c, h⟩
              · rcases cond_some h with ⟨c, h⟩ | ⟨c, h⟩
                · cases h
                · rcases cond_some h with ⟨d, h⟩ | ⟨d, h⟩
                  · obtain rfl := nbeq d
                    injection h with h
                    subst h
                    exact fo11
                  · cases h
              · rcases cond_some h with ⟨d, h⟩ | ⟨d, h⟩
                · obtain rfl := nbeq d
                  injection h with h
                  subst h
                  exact fo12
                · cases h
            · rcases cond_some h with ⟨d, h⟩ | ⟨d, h⟩
              · obtain rfl := nbeq d
                injection h with h
                subst h
                exact fo13
              · rcases cond_some h with ⟨c, h⟩ | ⟨c, h⟩
                · cases h
                · rcases cond_some h with ⟨d, h⟩ | ⟨d, h⟩
                  · obtain rfl := nbeq d
                    injection h with h
                    subst h
                    exact fo14
                  · cases h
      · rcases cond_some h with ⟨d, h⟩ | ⟨d, h⟩
        · obtain rfl := nbeq d
          injection h with h
          subst h
          exact fo15
        · rcases cond_some h with ⟨c, h⟩ | ⟨c, h⟩
          · rcases cond_some h with ⟨c, h⟩ | ⟨c, h⟩
            · rcases cond_some h with ⟨c, h⟩ | ⟨c, h⟩
              · rcases cond_some h with ⟨c, h⟩ | ⟨c, h⟩
                · cases h
                · rcases cond_some h with ⟨d, h⟩ | ⟨d, h⟩
                  · obtain rfl := nbeq d
                    injection h with h
                    subst h
                    exact fo16
                  · cases h
              · rcases cond_some h with ⟨d, h⟩ | ⟨d, h⟩
                · obtain rfl := nbeq d
                  injection h with h
                  subst h
                  exact fo17
                · cases h
            · rcases cond_some h with ⟨d, h⟩ | ⟨d, h⟩
              · obtain rfl := nbeq d
                injection h with h
                subst h
                exact fo18
              · rcases cond_some h with ⟨c, h⟩ | ⟨c, h⟩
                · rcases cond_some h with ⟨c, h⟩ | ⟨c, h⟩
                  · cases h
                  · rcases cond_some h with ⟨d, h⟩ | ⟨d, h⟩
                    · obtain rfl := nbeq d
                      injection h with h
                      subst h
                      exact fo19
                    · cases h
                · rcases cond_some h with ⟨d, h⟩ | ⟨d, h⟩
                  · obtain rfl := nbeq d
                    injection h with h
                    subst h
                    exact fo20
                  · cases h
          · rcases cond_some h with ⟨d, h⟩ | ⟨d, h⟩
            · obtain rfl := nbeq d
              injection h with h
              subst h
              exact fo21
            · rcases cond_some h with ⟨c, h⟩ | ⟨c, h⟩
              · rcases cond_some h with ⟨c, h⟩ | ⟨c, h⟩
                · rcases cond_some h with ⟨c, h⟩ | ⟨c, h⟩
                  · cases h
                  · rcases cond_some h with ⟨d, h⟩ | ⟨d, h⟩
                    · obtain rfl := nbeq d
                      injection h with h
                      subst h
                      exact fo22
                    · cases h
                · rcases cond_some h with ⟨d, h⟩ | ⟨d, h⟩
                  · obtain rfl := nbeq d
                    injection h with h
                    subst h
                    exact fo23
                  · cases h
              · rcases cond_some h with ⟨d, h⟩ | ⟨d, h⟩
                · obtain rfl := nbeq d
                  injection h with h
                  subst h
                  exact fo24
                · rcases cond_some h with ⟨c, h⟩ | ⟨c, h⟩
                  · cases h
                  · rcases cond_some h with ⟨d, h⟩ | ⟨d, h⟩
                    · obtain rfl := nbeq d
                      injection h with h
                      subst h
                      exact fo25
                    · cases h
    · rcases cond_some h with ⟨d, h⟩ | ⟨d, h⟩
      · obtain rfl := nbeq d
        injection h with h
        subst h
        exact fo29
      · rcases cond_some h with ⟨c, h⟩ | ⟨c, h⟩
        · rcases cond_some h with ⟨c, h⟩ | ⟨c, h⟩
          · rcases cond_some h with ⟨c, h⟩ | ⟨c, h⟩
            · rcases cond_some h with ⟨c, h⟩ | ⟨c, h⟩
              · rcases cond_some h with ⟨c, h⟩ | ⟨c, h⟩
                · cases h
                · rcases cond_some h with ⟨d, h⟩ | ⟨d, h⟩
                  · obtain rfl := nbeq d
                    injection h with h
                    subst h
                    exact fo30
                  · cases h
              · rcases cond_some h with ⟨d, h⟩ | ⟨d, h⟩
                · obtain rfl := nbeq d
                  injection h with h
                  subst h
                  exact fo31
                · cases h
            · rcases cond_some h with ⟨d, h⟩ | ⟨d, h⟩
              · obtain rfl := nbeq d
                injection h with h
                subst h
                exact fo32
              · rcases cond_some h with ⟨c, h⟩ | ⟨c, h⟩
                · rcases cond_some h with ⟨c, h⟩ | ⟨c, h⟩
                  · cases h
                  · rcases cond_some h with ⟨d, h⟩ | ⟨d, h⟩
                    · obtain rfl := nbeq d
                      injection h with h
                      subst h
                      exact fo33
                    · cases h
                · rcases cond_some h with ⟨d, h⟩ | ⟨d, h⟩
                  · obtain rfl := nbeq d
                    injection h with h
                    subst h
                    exact fo34
                  · cases h
          · rcases cond_some h with ⟨d, h⟩ | ⟨d, h⟩
            · obtain rfl := nbeq d
              injection h with h
              subst h
              exact fo35
            · rcases cond_some h with ⟨c, h⟩ | ⟨c, h⟩
              · rcases cond_some h with ⟨c, h⟩ | ⟨c, h⟩
                · rcases cond_some h with ⟨c, h⟩ | ⟨c, h⟩
                  · cases h
                  · rcases cond_some h with ⟨d, h⟩ | ⟨d, h⟩
                    · obtain rfl := nbeq d
                      injection h with h
                      subst h
                      exact fo36
                    · cases h
                · rcases cond_some h with ⟨d, h⟩ | ⟨d, h⟩
                  · obtain rfl := nbeq d
                    injection h with h
                    subst h
                    exact fo37
                  · cases h
              · rcases cond_some h with ⟨d, h⟩ | ⟨d, h⟩
                · obtain rfl := nbeq d
                  injection h with h
                  subst h
                  exact fo38
                · rcases cond_some h with ⟨c, h⟩ | ⟨c, h⟩
                  · cases h
                  · rcases cond_some h with ⟨d, h⟩ | ⟨d, h⟩
                    · obtain rfl := nbeq d
                      injection h with h
                      subst h
                      exact fo39
                    · cases h
        · rcases cond_some h with ⟨d, h⟩ | ⟨d, h⟩
          · obtain rfl := nbeq d
            injection h with h
            subst h
            exact fo40
          · rcases cond_some h with ⟨c, h⟩ | ⟨c, h⟩
            · rcases cond_some h with ⟨c, h⟩ | ⟨c, h⟩
              · rcases cond_some h with ⟨c, h⟩ | ⟨c, h⟩
                · rcases cond_some h with ⟨c, h⟩ | ⟨c, h⟩
                  · cases h
                  · rcases cond_some h with ⟨d, h⟩ | ⟨d, h⟩
                    · obtain rfl := nbeq d
                      injection h with h
                      subst h
                      exact fo41
                    · cases h
                · rcases cond_some h with ⟨d, h⟩ | ⟨d, h⟩
                  · obtain rfl := nbeq d
                    injection h with h
                    subst h
                    exact fo45
                  · cases h
              · rcases cond_some h with ⟨d, h⟩ | ⟨d, h⟩
                · obtain rfl := nbeq d
                  injection h with h
                  subst h
                  exact fo47
                · rcases cond_some h with ⟨c, h⟩ | ⟨c, h⟩
                  · rcases cond_some h with ⟨c, h⟩ | ⟨c, h⟩
                    · cases h
                    · rcases cond_some h with ⟨d, h⟩ | ⟨d, h⟩
                      · obtain rfl := nbeq d
                        injection h with h
                        subst h
                        exact fo48
                      · cases h
                  · rcases cond_some h with ⟨d, h⟩ | ⟨d, h⟩
                    · obtain rfl := nbeq d
                      injection h with h
                      subst h
                      exact fo49
                    · cases h
            · rcases cond_some h with ⟨d, h⟩ | ⟨d, h⟩
              · obtain rfl := nbeq d
                injection h with h
                subst h
                exact fo50
              · rcases cond_some h with ⟨c, h⟩ | ⟨c, h⟩
                · rcases cond_some h with ⟨c, h⟩ | ⟨c, h⟩
                  · rcases cond_some h with ⟨c, h⟩ | ⟨c, h⟩
                    · cases h
                    · rcases cond_some h with ⟨d, h⟩ | ⟨d, h⟩
                      · obtain rfl := nbeq d
                        injection h with h
                        subst h
                        exact fo51
                      · cases h
                  · rcases cond_some h with ⟨d, h⟩ | ⟨d, h⟩
                    · obtain rfl := nbeq d
                      injection h with h
                      subst h
                      exact fo52
                    · cases h
                · rcases cond_some h with ⟨d, h⟩ | ⟨d, h⟩
                  · obtain rfl := nbeq d
                    injection h with h
                    subst h
                    exact fo53
                  · rcases cond_some h with ⟨c, h⟩ | ⟨c, h⟩
                    · cases h
                    · rcases cond_some h with ⟨d, h⟩ | ⟨d, h⟩
                      · obtain rfl := nbeq d
                        injection h with h
                        subst h
                        exact fo54
                      · cases h
  · rcases cond_some h with ⟨d, h⟩ | ⟨d, h⟩
    · obtain rfl := nbeq d
      injection h with h
      subst h
      exact fo55
    · rcases cond_some h with ⟨c, h⟩ | ⟨c, h⟩
      · rcases cond_some h with ⟨c, h⟩ | ⟨c, h⟩
        · rcases cond_some h with ⟨c, h⟩ | ⟨c, h⟩
          · rcases cond_some h with ⟨c, h⟩ | ⟨c, h⟩
            · rcases cond_some h with ⟨c, h⟩ | ⟨c, h⟩
              · rcases cond_some h with ⟨c, h⟩ | ⟨c, h⟩
                · cases h
                · rcases cond_some h with ⟨d, h⟩ | ⟨d, h⟩
                  · obtain rfl := nbeq d
                    injection h with h
                    subst h
                    exact fo56
                  · cases h
              · rcases cond_some h with ⟨d, h⟩ | ⟨d, h⟩
                · obtain rfl := nbeq d
                  injection h with h
                  subst h
                  exact fo57
                · cases h
            · rcases cond_some h with ⟨d, h⟩ | ⟨d, h⟩
              · obtain rfl := nbeq d
                injection h with h
                subst h
                exact fo58
              · rcases cond_some h with ⟨c, h⟩ | ⟨c, h⟩
                · rcases cond_some h with ⟨c, h⟩ | ⟨c, h⟩
                  · cases h
                  · rcases cond_some h with ⟨d, h⟩ | ⟨d, h⟩
                    · obtain rfl := nbeq d
                      injection h with h
                      subst h
                      exact fo59
                    · cases h
                · rcases cond_some h with ⟨d, h⟩ | ⟨d, h⟩
                  · obtain rfl := nbeq d
                    injection h with h
                    subst h
                    exact fo60
                  · cases h
          · rcases cond_some h with ⟨d, h⟩ | ⟨d, h⟩
            · obtain rfl := nbeq d
              injection h with h
              subst h
              exact fo62
            · rcases cond_some h with ⟨c, h⟩ | ⟨c, h⟩
              · rcases cond_some h with ⟨c, h⟩ | ⟨c, h⟩
                · rcases cond_some h with ⟨c, h⟩ | ⟨c, h⟩
                  · cases h
                  · rcases cond_some h with ⟨d, h⟩ | ⟨d, h⟩
                    · obtain rfl := nbeq d
                      injection h with h
                      subst h
                      exact fo64
                    · cases h
                · rcases cond_some h with ⟨d, h⟩ | ⟨d, h⟩
                  · obtain rfl := nbeq d
                    injection h with h
                    subst h
                    exact fo65
                  · cases h
              · rcases cond_some h with ⟨d, h⟩ | ⟨d, h⟩
                · obtain rfl := nbeq d
                  injection h with h
                  subst h
                  exact fo66
                · rcases cond_some h with ⟨c, h⟩ | ⟨c, h⟩
                  · cases h
                  · rcases cond_some h with ⟨d, h⟩ | ⟨d, h⟩
                    · obtain rfl := nbeq d
                      injection h with h
                      subst h
                      exact fo67
                    · cases h
        · rcases cond_some h with ⟨d, h⟩ | ⟨d, h⟩
          · obtain rfl := nbeq d
            injection h with h
            subst h
            exact fo68
          · rcases cond_some h with ⟨c, h⟩ | ⟨c, h⟩
            · rcases cond_some h with ⟨c, h⟩ | ⟨c, h⟩
              · rcases cond_some h with ⟨c, h⟩ | ⟨c, h⟩
                · rcases cond_some h with ⟨c, h⟩ | ⟨c, h⟩
                  · cases h
                  · rcases cond_some h with ⟨d, h⟩ | ⟨d, h⟩
                    · obtain rfl := nbeq d
                      injection h with h
                      subst h
                      exact fo69
                    · cases h
                · rcases cond_some h with ⟨d, h⟩ | ⟨d, h⟩
                  · obtain rfl := nbeq d
                    injection h with h
                    subst h
                    exact fo70
                  · cases h
              · rcases cond_some h with ⟨d, h⟩ | ⟨d, h⟩
                · obtain rfl := nbeq d
                  injection h with h
                  subst h
                  exact fo72
                · rcases cond_some h with ⟨c, h⟩ | ⟨c, h⟩
                  · rcases cond_some h with ⟨c, h⟩ | ⟨c, h⟩
                    · cases h
                    · rcases cond_some h with ⟨d, h⟩ | ⟨d, h⟩
                      · obtain rfl := nbeq d
                        injection h with h
                        subst h
                        exact fo73
                      · cases h
                  · rcases cond_some h with ⟨d, h⟩ | ⟨d, h⟩
                    · obtain rfl := nbeq d
                      injection h with h
                      subst h
                      exact fo75
                    · cases h
            · rcases cond_some h with ⟨d, h⟩ | ⟨d, h⟩
              · obtain rfl := nbeq d
                injection h with h
                subst h
                exact fo76
              · rcases cond_some h with ⟨c, h⟩ | ⟨c, h⟩
                · rcases cond_some h with ⟨c, h⟩ | ⟨c, h⟩
                  · rcases cond_some h with ⟨c, h⟩ | ⟨c, h⟩
                    · cases h
                    · rcases cond_some h with ⟨d, h⟩ | ⟨d, h⟩
                      · obtain rfl := nbeq d
                        injection h with h
                        subst h
                        exact fo77
                      · cases h
                  · rcases cond_some h with ⟨d, h⟩ | ⟨d, h⟩
                    · obtain rfl := nbeq d
                      injection h with h
                      subst h
                      exact fo78
                    · cases h
                · rcases cond_some h with ⟨d, h⟩ | ⟨d, h⟩
                  · obtain rfl := nbeq d
                    injection h with h
                    subst h
                    exact fo79
                  · rcases cond_some h with ⟨c, h⟩ | ⟨c, h⟩
                    · cases h
                    · rcases cond_some h with ⟨d, h⟩ | ⟨d, h⟩
                      · obtain rfl := nbeq d
                        injection h with h
                        subst h
                        exact fo80
                      · cases h
      · rcases cond_some h with ⟨d, h⟩ | ⟨d, h⟩
        · obtain rfl := nbeq d
          injection h with h
          subst h
          exact fo81
        · rcases cond_some h with ⟨c, h⟩ | ⟨c, h⟩
          · rcases cond_some h with ⟨c, h⟩ | ⟨c, h⟩
            · rcases cond_some h with ⟨c, h⟩ | ⟨c, h⟩
              · rcases cond_some h with ⟨c, h⟩ | ⟨c, h⟩
                · rcases cond_some h with ⟨c, h⟩ | ⟨c, h⟩
                  · cases h
                  · rcases cond_some h with ⟨d, h⟩ | ⟨d, h⟩
                    · obtain rfl := nbeq d
                      injection h with h
                      subst h
                      exact fo82
                    · cases h
                · rcases cond_some h with ⟨d, h⟩ | ⟨d, h⟩
                  · obtain rfl := nbeq d
                    injection h with h
                    subst h
                    exact fo83
                  · cases h
              · rcases cond_some h with ⟨d, h⟩ | ⟨d, h⟩
                · obtain rfl := nbeq d
                  injection h with h
                  subst h
                  exact fo84
                · rcases cond_some h with ⟨c, h⟩ | ⟨c, h⟩
                  · rcases cond_some h with ⟨c, h⟩ | ⟨c, h⟩
                    · cases h
                    · rcases cond_some h with ⟨d, h⟩ | ⟨d, h⟩
                      · obtain rfl := nbeq d
                        injection h with h
                        subst h
                        exact fo85
                      · cases h
                  · rcases cond_some h with ⟨d, h⟩ | ⟨d, h⟩
                    · obtain rfl := nbeq d
                      injection h with h
                      subst h
                      exact fo87
                    · cases h
            · rcases cond_some h with ⟨d, h⟩ | ⟨d, h⟩
              · obtain rfl := nbeq d
                injection h with h
                subst h
                exact fo88
              · rcases cond_some h with ⟨c, h⟩ | ⟨c, h⟩
                · rcases cond_some h with ⟨c, h⟩ | ⟨c, h⟩
                  · rcases cond_some h with ⟨c, h⟩ | ⟨c, h⟩
                    · cases h
                    · rcases cond_some h with ⟨d, h⟩ | ⟨d, h⟩
                      · obtain rfl := nbeq d
                        injection h with h
                        subst h
                        exact fo89
                      · cases h
                  · rcases cond_some h with ⟨d, h⟩ | ⟨d, h⟩
                    · obtain rfl := nbeq d
                      injection h with h
                      subst h
                      exact fo90
                    · cases h
                · rcases cond_some h with ⟨d, h⟩ | ⟨d, h⟩
                  · obtain rfl := nbeq d
                    injection h with h
                    subst h
                    exact fo91
                  · rcases cond_some h with ⟨c, h⟩ | ⟨c, h⟩
                    · cases h
                    · rcases cond_some h with ⟨d, h⟩ | ⟨d, h⟩
                      · obtain rfl := nbeq d
                        injection h with h
                        subst h
                        exact fo92
                      · cases h
          · rcases cond_some h with ⟨d, h⟩ | ⟨d, h⟩
            · obtain rfl := nbeq d
              injection h with h
              subst h
              exact fo94
            · rcases cond_some h with ⟨c, h⟩ | ⟨c, h⟩
              · rcases cond_some h with ⟨c, h⟩ | ⟨c, h⟩
                · rcases cond_some h with ⟨c, h⟩ | ⟨c, h⟩
                  · rcases cond_some h with ⟨c, h⟩ | ⟨c, h⟩
                    · cases h
                    · rcases cond_some h with ⟨d, h⟩ | ⟨d, h⟩
                      · obtain rfl := nbeq d
                        injection h with h
                        subst h
                        exact fo95
                      · cases h
                  · rcases cond_some h with ⟨d, h⟩ | ⟨d, h⟩
                    · obtain rfl := nbeq d
                      injection h with h
                      subst h
                      exact fo96
                    · cases h
                · rcases cond_some h with ⟨d, h⟩ | ⟨d, h⟩
                  · obtain rfl := nbeq d
                    injection h with h
                    subst h
                    exact fo97
                  · rcases cond_some h with ⟨c, h⟩ | ⟨c, h⟩
                    · cases h
                    · rcases cond_some h with ⟨d, h⟩ | ⟨d, h⟩
                      · obtain rfl := nbeq d
                        injection h with h
                        subst h
                        exact fo98
                      · cases h
              · rcases cond_some h with ⟨d, h⟩ | ⟨d, h⟩
                · obtain rfl := nbeq d
                  injection h with h
                  subst h
                  exact fo99
                · rcases cond_some h with ⟨c, h⟩ | ⟨c, h⟩
                  · rcases cond_some h with ⟨c, h⟩ | ⟨c, h⟩
                    · rcases cond_some h with ⟨c, h⟩ | ⟨c, h⟩
                      · cases h
                      · rcases cond_some h with ⟨d, h⟩ | ⟨d, h⟩
                        · obtain rfl := nbeq d
                          injection h with h
                          subst h
                          exact fo100
                        · cases h
                    · rcases cond_some h with ⟨d, h⟩ | ⟨d, h⟩
                      · obtain rfl := nbeq d
                        injection h with h
                        subst h
                        exact fo101
                      · cases h
                  · rcases cond_some h with ⟨d, h⟩ | ⟨d, h⟩
                    · obtain rfl := nbeq d
                      injection h with h
                      subst h
                      exact fo102
                    · rcases cond_some h with ⟨c, h⟩ | ⟨c, h⟩
                      · cases h
                      · rcases cond_some h with ⟨d, h⟩ | ⟨d, h⟩
                        · obtain rfl := nbeq d
                          injection h with h
                          subst h
                          exact fo104
                        · cases h
noncomputable def extF : FuncId → List AVal → Option AVal := extT 103 86
theorem tabOk : TabOk cx tab extF := ⟨tab_fn, extT_ok ⟨_, Tryd.func103, by kernel_rfl, by kernel_rfl, by kernel_rfl, by kernel_rfl⟩ ⟨_, Tryd.func86, by kernel_rfl, by kernel_rfl, by kernel_rfl, by kernel_rfl⟩, cxG, cxOk⟩
end Go.Am

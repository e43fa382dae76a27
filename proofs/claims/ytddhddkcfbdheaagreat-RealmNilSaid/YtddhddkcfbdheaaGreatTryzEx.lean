/- The seat's types and functions, as tables. Printed by a program. -/
import Derived.Test.YtddhddkcfbdheaaGreatProg
import Derived.Test.YtddhddkcfbdheaaGreatAmExec4
import Derived.KernelRfl
set_option linter.unusedVariables false
set_option linter.unusedSimpArgs false
namespace Go.Am
open Go Go.Proofs
set_option maxRecDepth 100000
def ti1 : TI := ⟨(.func #[] #[] false), 1, 8, [.nilfn]⟩
def ti2 : TI := ⟨(.int .i64), 1, 8, [(.int .i64 0)]⟩
def ti3 : TI := ⟨(.int .i64), 1, 8, [(.int .i64 0)]⟩
def ti4 : TI := ⟨.bool, 1, 1, [(.bool false)]⟩
def ti5 : TI := ⟨(.int .u8), 1, 1, [(.int .u8 0)]⟩
def ti6 : TI := ⟨(.int .u8), 1, 1, [(.int .u8 0)]⟩
def ti7 : TI := ⟨(.struct #[⟨ "x", 2, 0, false, "", "runtime", 0⟩, ⟨ "y", 3, 1, false, "", "runtime", 8⟩, ⟨ "signed", 4, 2, false, "", "runtime", 16⟩, ⟨ "code", 6, 3, false, "", "runtime", 17⟩]), 4, 24, [(.int .i64 0), (.int .i64 0), (.bool false), (.int .u8 0)]⟩
def ti8 : TI := ⟨(.struct #[⟨ "x", 2, 0, false, "", "runtime", 0⟩, ⟨ "y", 3, 1, false, "", "runtime", 8⟩, ⟨ "signed", 4, 2, false, "", "runtime", 16⟩, ⟨ "code", 6, 3, false, "", "runtime", 17⟩]), 4, 24, [(.int .i64 0), (.int .i64 0), (.bool false), (.int .u8 0)]⟩
def ti9 : TI := ⟨.string, 1, 16, [(.str [])]⟩
def ti10 : TI := ⟨.string, 1, 16, [(.str [])]⟩
def ti11 : TI := ⟨.string, 1, 16, [(.str [])]⟩
def ti12 : TI := ⟨(.int .u64), 1, 8, [(.int .u64 0)]⟩
def ti13 : TI := ⟨(.struct #[⟨ "msg", 9, 0, false, "", "runtime", 0⟩, ⟨ "addr", 12, 1, false, "", "runtime", 16⟩]), 2, 24, [(.str []), (.int .u64 0)]⟩
def ti14 : TI := ⟨(.struct #[⟨ "msg", 9, 0, false, "", "runtime", 0⟩, ⟨ "addr", 12, 1, false, "", "runtime", 16⟩]), 2, 24, [(.str []), (.int .u64 0)]⟩
def ti15 : TI := ⟨(.pointer 226), 1, 8, [.nilp]⟩
def ti16 : TI := ⟨(.pointer 229), 1, 8, [.nilp]⟩
def ti17 : TI := ⟨(.pointer 238), 1, 8, [.nilp]⟩
def ti18 : TI := ⟨(.struct #[⟨ "typ", 17, 0, false, "", "internal/runtime/maps", 0⟩]), 1, 8, [.nilp]⟩
def ti19 : TI := ⟨(.struct #[⟨ "typ", 17, 0, false, "", "internal/runtime/maps", 0⟩]), 1, 8, [.nilp]⟩
def ti20 : TI := ⟨(.interface #[]), 1, 16, [.nilifc]⟩
def ti21 : TI := ⟨(.int .i32), 1, 4, [(.int .i32 0)]⟩
def ti22 : TI := ⟨(.slice 49), 1, 24, [(.sl 1 true [] .any)]⟩
def ti23 : TI := ⟨(.func #[] #[4] false), 1, 8, [.nilfn]⟩
def ti24 : TI := ⟨(.pointer 115), 1, 8, [.nilp]⟩
def ti25 : TI := ⟨(.pointer 66), 1, 8, [.nilp]⟩
def ti26 : TI := ⟨(.pointer 90), 1, 8, [.nilp]⟩
def ti27 : TI := ⟨(.struct #[⟨ "o", 24, 0, false, "", "anchorite/anchoritelaw11", 0⟩, ⟨ "x", 25, 1, false, "", "anchorite/anchoritelaw11", 8⟩, ⟨ "w", 26, 2, false, "", "anchorite/anchoritelaw11", 16⟩]), 3, 24, [.nilp, .nilp, .nilp]⟩
def ti28 : TI := ⟨(.struct #[⟨ "o", 24, 0, false, "", "anchorite/anchoritelaw11", 0⟩, ⟨ "x", 25, 1, false, "", "anchorite/anchoritelaw11", 8⟩, ⟨ "w", 26, 2, false, "", "anchorite/anchoritelaw11", 16⟩]), 3, 24, [.nilp, .nilp, .nilp]⟩
def ti29 : TI := ⟨(.func #[83] #[28] false), 1, 8, [.nilfn]⟩
def ti30 : TI := ⟨(.slice 31), 1, 24, [(.sl 1 true [] .any)]⟩
def ti31 : TI := ⟨(.int .u64), 1, 8, [(.int .u64 0)]⟩
def ti32 : TI := ⟨(.int .i64), 1, 8, [(.int .i64 0)]⟩
def ti33 : TI := ⟨(.array 32 5), 32, 32, bl (List.replicate 32 0)⟩
def ti34 : TI := ⟨(.array 32 5), 32, 32, bl (List.replicate 32 0)⟩
def ti35 : TI := ⟨(.slice 57), 1, 24, [(.sl 1 true [] .any)]⟩
def ti36 : TI := ⟨(.struct #[⟨ "Instance", 31, 0, false, "", "", 0⟩, ⟨ "State", 32, 1, false, "", "", 8⟩, ⟨ "Root", 3, 2, false, "", "", 16⟩, ⟨ "Nodes", 31, 3, false, "", "", 24⟩, ⟨ "Measure", 34, 4, false, "", "", 32⟩, ⟨ "Log", 35, 36, false, "", "", 64⟩, ⟨ "Key", 34, 37, false, "", "", 88⟩, ⟨ "Counter", 31, 69, false, "", "", 120⟩, ⟨ "Tree", 34, 70, false, "", "", 128⟩, ⟨ "Recs", 3, 102, false, "", "", 160⟩]), 103, 168, [(.int .u64 0), (.int .i64 0), (.int .i64 0), (.int .u64 0)] ++ bl (List.replicate 32 0) ++ [(.sl 1 true [] .any)] ++ bl (List.replicate 32 0) ++ [(.int .u64 0)] ++ bl (List.replicate 32 0) ++ [(.int .i64 0)]⟩
def ti37 : TI := ⟨(.struct #[⟨ "Instance", 31, 0, false, "", "", 0⟩, ⟨ "State", 32, 1, false, "", "", 8⟩, ⟨ "Root", 3, 2, false, "", "", 16⟩, ⟨ "Nodes", 31, 3, false, "", "", 24⟩, ⟨ "Measure", 34, 4, false, "", "", 32⟩, ⟨ "Log", 35, 36, false, "", "", 64⟩, ⟨ "Key", 34, 37, false, "", "", 88⟩, ⟨ "Counter", 31, 69, false, "", "", 120⟩, ⟨ "Tree", 34, 70, false, "", "", 128⟩, ⟨ "Recs", 3, 102, false, "", "", 160⟩]), 103, 168, [(.int .u64 0), (.int .i64 0), (.int .i64 0), (.int .u64 0)] ++ bl (List.replicate 32 0) ++ [(.sl 1 true [] .any)] ++ bl (List.replicate 32 0) ++ [(.int .u64 0)] ++ bl (List.replicate 32 0) ++ [(.int .i64 0)]⟩
def ti38 : TI := ⟨(.int .i64), 1, 8, [(.int .i64 0)]⟩
def ti40 : TI := ⟨(.func #[3] #[37, 38] false), 1, 8, [.nilfn]⟩
def ti41 : TI := ⟨(.struct #[⟨ "Value", 34, 0, false, "", "", 0⟩, ⟨ "Nodes", 31, 32, false, "", "", 32⟩]), 33, 40, bl (List.replicate 32 0) ++ [(.int .u64 0)]⟩
def ti42 : TI := ⟨(.struct #[⟨ "Value", 34, 0, false, "", "", 0⟩, ⟨ "Nodes", 31, 32, false, "", "", 32⟩]), 33, 40, bl (List.replicate 32 0) ++ [(.int .u64 0)]⟩
def ti43 : TI := ⟨(.array 128 5), 128, 128, bl (List.replicate 128 0)⟩
def ti44 : TI := ⟨(.array 128 5), 128, 128, bl (List.replicate 128 0)⟩
def ti45 : TI := ⟨(.array 8 31), 8, 64, [(.int .u64 0), (.int .u64 0), (.int .u64 0), (.int .u64 0), (.int .u64 0), (.int .u64 0), (.int .u64 0), (.int .u64 0)]⟩
def ti46 : TI := ⟨(.struct #[⟨ "PC", 31, 0, false, "", "", 0⟩, ⟨ "Regs", 45, 1, false, "", "", 8⟩, ⟨ "Runnable", 4, 9, false, "", "", 72⟩]), 10, 80, List.replicate 9 (.int .u64 0) ++ [(.bool false)]⟩
def ti47 : TI := ⟨(.struct #[⟨ "PC", 31, 0, false, "", "", 0⟩, ⟨ "Regs", 45, 1, false, "", "", 8⟩, ⟨ "Runnable", 4, 9, false, "", "", 72⟩]), 10, 80, List.replicate 9 (.int .u64 0) ++ [(.bool false)]⟩
def ti48 : TI := ⟨(.struct #[⟨ "Kind", 3, 0, false, "", "", 0⟩, ⟨ "RD", 3, 1, false, "", "", 8⟩, ⟨ "Root", 3, 2, false, "", "", 16⟩, ⟨ "Page", 3, 3, false, "", "", 24⟩, ⟨ "Params", 42, 4, false, "", "", 32⟩, ⟨ "Tree", 34, 37, false, "", "", 72⟩, ⟨ "Bytes", 44, 69, false, "", "", 104⟩, ⟨ "Rec", 47, 197, false, "", "", 232⟩]), 207, 312, [(.int .i64 0), (.int .i64 0), (.int .i64 0), (.int .i64 0)] ++ bl (List.replicate 32 0) ++ [(.int .u64 0)] ++ bl (List.replicate 160 0) ++ List.replicate 9 (.int .u64 0) ++ [(.bool false)]⟩
def ti49 : TI := ⟨(.struct #[⟨ "Kind", 3, 0, false, "", "", 0⟩, ⟨ "RD", 3, 1, false, "", "", 8⟩, ⟨ "Root", 3, 2, false, "", "", 16⟩, ⟨ "Page", 3, 3, false, "", "", 24⟩, ⟨ "Params", 42, 4, false, "", "", 32⟩, ⟨ "Tree", 34, 37, false, "", "", 72⟩, ⟨ "Bytes", 44, 69, false, "", "", 104⟩, ⟨ "Rec", 47, 197, false, "", "", 232⟩]), 207, 312, [(.int .i64 0), (.int .i64 0), (.int .i64 0), (.int .i64 0)] ++ bl (List.replicate 32 0) ++ [(.int .u64 0)] ++ bl (List.replicate 160 0) ++ List.replicate 9 (.int .u64 0) ++ [(.bool false)]⟩
def ti50 : TI := ⟨(.func #[3, 3, 42, 34] #[37, 38] false), 1, 8, [.nilfn]⟩
def ti52 : TI := ⟨(.func #[3, 3, 42, 34] #[37, 3] false), 1, 8, [.nilfn]⟩
def ti53 : TI := ⟨(.func #[49] #[4] false), 1, 8, [.nilfn]⟩
def ti54 : TI := ⟨(.func #[34, 57] #[34] false), 1, 8, [.nilfn]⟩
def ti55 : TI := ⟨(.int .i64), 1, 8, [(.int .i64 0)]⟩
def ti56 : TI := ⟨(.struct #[⟨ "Kind", 55, 0, false, "", "", 0⟩, ⟨ "Value", 34, 1, false, "", "", 8⟩, ⟨ "Page", 3, 33, false, "", "", 40⟩, ⟨ "Data", 44, 34, false, "", "", 48⟩, ⟨ "Rec", 47, 162, false, "", "", 176⟩]), 172, 256, [(.int .i64 0)] ++ bl (List.replicate 32 0) ++ [(.int .i64 0)] ++ bl (List.replicate 128 0) ++ List.replicate 9 (.int .u64 0) ++ [(.bool false)]⟩
def ti57 : TI := ⟨(.struct #[⟨ "Kind", 55, 0, false, "", "", 0⟩, ⟨ "Value", 34, 1, false, "", "", 8⟩, ⟨ "Page", 3, 33, false, "", "", 40⟩, ⟨ "Data", 44, 34, false, "", "", 48⟩, ⟨ "Rec", 47, 162, false, "", "", 176⟩]), 172, 256, [(.int .i64 0)] ++ bl (List.replicate 32 0) ++ [(.int .i64 0)] ++ bl (List.replicate 128 0) ++ List.replicate 9 (.int .u64 0) ++ [(.bool false)]⟩
def ti58 : TI := ⟨(.func #[22] #[4] false), 1, 8, [.nilfn]⟩
def ti59 : TI := ⟨(.map 31 31), 1, 8, [.nilmap]⟩
def ti61 : TI := ⟨(.func #[3] #[31, 38] false), 1, 8, [.nilfn]⟩
def ti63 : TI := ⟨(.func #[3] #[31, 3] false), 1, 8, [.nilfn]⟩
def ti64 : TI := ⟨(.map 3 37), 1, 8, [.nilmap]⟩
def ti65 : TI := ⟨(.struct #[⟨ "o", 24, 0, false, "", "anchorite/realm", 0⟩, ⟨ "all", 64, 1, false, "", "anchorite/realm", 8⟩, ⟨ "last", 31, 2, false, "", "anchorite/realm", 16⟩]), 3, 24, [.nilp, .nilmap, (.int .u64 0)]⟩
def ti66 : TI := ⟨(.struct #[⟨ "o", 24, 0, false, "", "anchorite/realm", 0⟩, ⟨ "all", 64, 1, false, "", "anchorite/realm", 8⟩, ⟨ "last", 31, 2, false, "", "anchorite/realm", 16⟩]), 3, 24, [.nilp, .nilmap, (.int .u64 0)]⟩
def ti67 : TI := ⟨(.func #[24] #[25] false), 1, 8, [.nilfn]⟩
def ti68 : TI := ⟨(.slice 25), 1, 24, [(.sl 1 true [] .any)]⟩
def ti69 : TI := ⟨(.func #[3, 3, 44] #[38] false), 1, 8, [.nilfn]⟩
def ti70 : TI := ⟨(.func #[3, 47] #[38] false), 1, 8, [.nilfn]⟩
def ti71 : TI := ⟨(.func #[3] #[38] false), 1, 8, [.nilfn]⟩
def ti72 : TI := ⟨(.func #[3, 34] #[38] false), 1, 8, [.nilfn]⟩
def ti73 : TI := ⟨(.func #[4, 34, 83] #[24] true), 1, 8, [.nilfn]⟩
def ti74 : TI := ⟨(.func #[116] #[] false), 1, 8, [.nilfn]⟩
def ti75 : TI := ⟨(.func #[116] #[] false), 1, 8, [.nilfn]⟩
def ti76 : TI := ⟨(.func #[] #[75] false), 1, 8, [.nilfn]⟩
def ti78 : TI := ⟨(.func #[31] #[3, 4] false), 1, 8, [.nilfn]⟩
def ti79 : TI := ⟨(.func #[] #[24] false), 1, 8, [.nilfn]⟩
def ti80 : TI := ⟨(.func #[37, 37] #[4] false), 1, 8, [.nilfn]⟩
def ti81 : TI := ⟨(.func #[35, 35] #[4] false), 1, 8, [.nilfn]⟩
def ti82 : TI := ⟨(.func #[22, 22] #[4] false), 1, 8, [.nilfn]⟩
def ti83 : TI := ⟨(.slice 34), 1, 24, [(.sl 1 true [] .any)]⟩
def ti84 : TI := ⟨(.pointer 87), 1, 8, [.nilp]⟩
def ti85 : TI := ⟨(.slice 127), 1, 24, [(.sl 1 true [] .any)]⟩
def ti86 : TI := ⟨(.struct #[⟨ "Ideal", 4, 0, false, "", "", 0⟩, ⟨ "Master", 34, 1, false, "", "", 1⟩, ⟨ "Draws", 83, 33, false, "", "", 40⟩, ⟨ "Used", 3, 34, false, "", "", 64⟩, ⟨ "Log", 85, 35, false, "", "", 72⟩]), 36, 96, [(.bool false)] ++ bl (List.replicate 32 0) ++ [(.sl 1 true [] .any), (.int .i64 0), (.sl 1 true [] .any)]⟩
def ti87 : TI := ⟨(.struct #[⟨ "Ideal", 4, 0, false, "", "", 0⟩, ⟨ "Master", 34, 1, false, "", "", 1⟩, ⟨ "Draws", 83, 33, false, "", "", 40⟩, ⟨ "Used", 3, 34, false, "", "", 64⟩, ⟨ "Log", 85, 35, false, "", "", 72⟩]), 36, 96, [(.bool false)] ++ bl (List.replicate 32 0) ++ [(.sl 1 true [] .any), (.int .i64 0), (.sl 1 true [] .any)]⟩
def ti88 : TI := ⟨(.slice 104), 1, 24, [(.sl 1 true [] .any)]⟩
def ti89 : TI := ⟨(.struct #[⟨ "O", 84, 0, false, "", "", 0⟩, ⟨ "All", 88, 1, false, "", "", 8⟩, ⟨ "Last", 31, 2, false, "", "", 32⟩]), 3, 40, [.nilp, (.sl 1 true [] .any), (.int .u64 0)]⟩
def ti90 : TI := ⟨(.struct #[⟨ "O", 84, 0, false, "", "", 0⟩, ⟨ "All", 88, 1, false, "", "", 8⟩, ⟨ "Last", 31, 2, false, "", "", 32⟩]), 3, 40, [.nilp, (.sl 1 true [] .any), (.int .u64 0)]⟩
def ti91 : TI := ⟨(.func #[3, 94] #[38] false), 1, 8, [.nilfn]⟩
def ti92 : TI := ⟨(.pointer 37), 1, 8, [.nilp]⟩
def ti93 : TI := ⟨(.func #[37] #[37] false), 1, 8, [.nilfn]⟩
def ti94 : TI := ⟨(.func #[92] #[38] false), 1, 8, [.nilfn]⟩
def ti97 : TI := ⟨(.func #[98, 133] #[34, 38] true), 1, 8, [.nilfn]⟩
def ti98 : TI := ⟨(.int .i64), 1, 8, [(.int .i64 0)]⟩
def ti99 : TI := ⟨(.slice 5), 1, 24, [(.sl 1 true [] .any)]⟩
def ti100 : TI := ⟨(.func #[31] #[99] false), 1, 8, [.nilfn]⟩
def ti101 : TI := ⟨(.func #[3] #[3] false), 1, 8, [.nilfn]⟩
def ti102 : TI := ⟨(.func #[98, 99] #[34] false), 1, 8, [.nilfn]⟩
def ti103 : TI := ⟨(.struct #[⟨ "RD", 3, 0, false, "", "", 0⟩, ⟨ "R", 37, 1, false, "", "", 8⟩]), 104, 176, [(.int .i64 0), (.int .u64 0), (.int .i64 0), (.int .i64 0), (.int .u64 0)] ++ bl (List.replicate 32 0) ++ [(.sl 1 true [] .any)] ++ bl (List.replicate 32 0) ++ [(.int .u64 0)] ++ bl (List.replicate 32 0) ++ [(.int .i64 0)]⟩
def ti104 : TI := ⟨(.struct #[⟨ "RD", 3, 0, false, "", "", 0⟩, ⟨ "R", 37, 1, false, "", "", 8⟩]), 104, 176, [(.int .i64 0), (.int .u64 0), (.int .i64 0), (.int .i64 0), (.int .u64 0)] ++ bl (List.replicate 32 0) ++ [(.sl 1 true [] .any)] ++ bl (List.replicate 32 0) ++ [(.int .u64 0)] ++ bl (List.replicate 32 0) ++ [(.int .i64 0)]⟩
def ti105 : TI := ⟨(.func #[3, 3, 44] #[3] false), 1, 8, [.nilfn]⟩
def ti106 : TI := ⟨(.func #[3, 47] #[3] false), 1, 8, [.nilfn]⟩
def ti107 : TI := ⟨(.func #[3, 34] #[3] false), 1, 8, [.nilfn]⟩
def ti108 : TI := ⟨(.func #[47] #[44] false), 1, 8, [.nilfn]⟩
def ti109 : TI := ⟨(.func #[92, 57, 34, 38] #[38] false), 1, 8, [.nilfn]⟩
def ti111 : TI := ⟨(.func #[47] #[44, 38] false), 1, 8, [.nilfn]⟩
def ti112 : TI := ⟨(.func #[83] #[83] false), 1, 8, [.nilfn]⟩
def ti113 : TI := ⟨(.map 129 3), 1, 8, [.nilmap]⟩
def ti114 : TI := ⟨(.struct #[⟨ "ideal", 4, 0, false, "", "anchorite/oracle", 0⟩, ⟨ "master", 34, 1, false, "", "anchorite/oracle", 1⟩, ⟨ "draws", 83, 33, false, "", "anchorite/oracle", 40⟩, ⟨ "used", 3, 34, false, "", "anchorite/oracle", 64⟩, ⟨ "known", 113, 35, false, "", "anchorite/oracle", 72⟩, ⟨ "log", 85, 36, false, "", "anchorite/oracle", 80⟩]), 37, 104, [(.bool false)] ++ bl (List.replicate 32 0) ++ [(.sl 1 true [] .any), (.int .i64 0), .nilmap, (.sl 1 true [] .any)]⟩
def ti115 : TI := ⟨(.struct #[⟨ "ideal", 4, 0, false, "", "anchorite/oracle", 0⟩, ⟨ "master", 34, 1, false, "", "anchorite/oracle", 1⟩, ⟨ "draws", 83, 33, false, "", "anchorite/oracle", 40⟩, ⟨ "used", 3, 34, false, "", "anchorite/oracle", 64⟩, ⟨ "known", 113, 35, false, "", "anchorite/oracle", 72⟩, ⟨ "log", 85, 36, false, "", "anchorite/oracle", 80⟩]), 37, 104, [(.bool false)] ++ bl (List.replicate 32 0) ++ [(.sl 1 true [] .any), (.int .i64 0), .nilmap, (.sl 1 true [] .any)]⟩
def ti116 : TI := ⟨(.func #[3, 37] #[4] false), 1, 8, [.nilfn]⟩
def ti117 : TI := ⟨(.slice 3), 1, 24, [(.sl 1 true [] .any)]⟩
def ti118 : TI := ⟨(.func #[120] #[117] false), 1, 8, [.nilfn]⟩
def ti119 : TI := ⟨(.func #[145] #[] false), 1, 8, [.nilfn]⟩
def ti120 : TI := ⟨(.func #[145] #[] false), 1, 8, [.nilfn]⟩
def ti121 : TI := ⟨(.func #[64] #[120] false), 1, 8, [.nilfn]⟩
def ti122 : TI := ⟨(.func #[85] #[85] false), 1, 8, [.nilfn]⟩
def ti123 : TI := ⟨(.int .i64), 1, 8, [(.int .i64 0)]⟩
def ti124 : TI := ⟨(.struct #[⟨ "Kind", 123, 0, false, "", "", 0⟩, ⟨ "Key", 34, 1, false, "", "", 8⟩, ⟨ "Domain", 98, 33, false, "", "", 40⟩, ⟨ "Data", 99, 34, false, "", "", 48⟩]), 35, 72, [(.int .i64 0)] ++ bl (List.replicate 32 0) ++ [(.int .i64 0), (.sl 1 true [] .any)]⟩
def ti125 : TI := ⟨(.struct #[⟨ "Kind", 123, 0, false, "", "", 0⟩, ⟨ "Key", 34, 1, false, "", "", 8⟩, ⟨ "Domain", 98, 33, false, "", "", 40⟩, ⟨ "Data", 99, 34, false, "", "", 48⟩]), 35, 72, [(.int .i64 0)] ++ bl (List.replicate 32 0) ++ [(.int .i64 0), (.sl 1 true [] .any)]⟩
def ti126 : TI := ⟨(.struct #[⟨ "Question", 125, 0, false, "", "", 0⟩, ⟨ "Answer", 34, 35, false, "", "", 72⟩]), 67, 104, [(.int .i64 0)] ++ bl (List.replicate 32 0) ++ [(.int .i64 0), (.sl 1 true [] .any)] ++ bl (List.replicate 32 0)⟩
def ti127 : TI := ⟨(.struct #[⟨ "Question", 125, 0, false, "", "", 0⟩, ⟨ "Answer", 34, 35, false, "", "", 72⟩]), 67, 104, [(.int .i64 0)] ++ bl (List.replicate 32 0) ++ [(.int .i64 0), (.sl 1 true [] .any)] ++ bl (List.replicate 32 0)⟩
def ti128 : TI := ⟨(.struct #[⟨ "kind", 123, 0, false, "", "anchorite/oracle", 0⟩, ⟨ "key", 34, 1, false, "", "anchorite/oracle", 8⟩, ⟨ "domain", 98, 33, false, "", "anchorite/oracle", 40⟩, ⟨ "data", 9, 34, false, "", "anchorite/oracle", 48⟩]), 35, 64, [(.int .i64 0)] ++ bl (List.replicate 32 0) ++ [(.int .i64 0), (.str [])]⟩
def ti129 : TI := ⟨(.struct #[⟨ "kind", 123, 0, false, "", "anchorite/oracle", 0⟩, ⟨ "key", 34, 1, false, "", "anchorite/oracle", 8⟩, ⟨ "domain", 98, 33, false, "", "anchorite/oracle", 40⟩, ⟨ "data", 9, 34, false, "", "anchorite/oracle", 48⟩]), 35, 64, [(.int .i64 0)] ++ bl (List.replicate 32 0) ++ [(.int .i64 0), (.str [])]⟩
def ti130 : TI := ⟨(.func #[85, 85] #[4] false), 1, 8, [.nilfn]⟩
def ti131 : TI := ⟨(.func #[] #[85] false), 1, 8, [.nilfn]⟩
def ti132 : TI := ⟨(.func #[35] #[35] false), 1, 8, [.nilfn]⟩
def ti133 : TI := ⟨(.slice 99), 1, 24, [(.sl 1 true [] .any)]⟩
def ti134 : TI := ⟨(.func #[125] #[34, 38] false), 1, 8, [.nilfn]⟩
def ti135 : TI := ⟨(.func #[133] #[99] false), 1, 8, [.nilfn]⟩
def ti137 : TI := ⟨(.func #[31, 3] #[99, 38] false), 1, 8, [.nilfn]⟩
def ti138 : TI := ⟨(.func #[125] #[34] false), 1, 8, [.nilfn]⟩
def ti139 : TI := ⟨(.int .u64), 1, 8, [(.int .u64 0)]⟩
def ti140 : TI := ⟨(.func #[3, 57] #[3] false), 1, 8, [.nilfn]⟩
def ti141 : TI := ⟨(.func #[47] #[4] false), 1, 8, [.nilfn]⟩
def ti142 : TI := ⟨(.func #[133] #[44] true), 1, 8, [.nilfn]⟩
def ti143 : TI := ⟨(.func #[9] #[99] false), 1, 8, [.nilfn]⟩
def ti144 : TI := ⟨(.func #[117] #[] false), 1, 8, [.nilfn]⟩
def ti145 : TI := ⟨(.func #[3] #[4] false), 1, 8, [.nilfn]⟩
def ti146 : TI := ⟨(.func #[125, 125] #[4] false), 1, 8, [.nilfn]⟩
def ti147 : TI := ⟨(.func #[99] #[99] false), 1, 8, [.nilfn]⟩
def ti148 : TI := ⟨(.func #[125] #[4] false), 1, 8, [.nilfn]⟩
def ti149 : TI := ⟨(.func #[125, 153] #[34] false), 1, 8, [.nilfn]⟩
def ti150 : TI := ⟨(.func #[99] #[34] false), 1, 8, [.nilfn]⟩
def ti151 : TI := ⟨(.func #[125] #[99] false), 1, 8, [.nilfn]⟩
def ti152 : TI := ⟨(.func #[99, 99] #[34] false), 1, 8, [.nilfn]⟩
def ti153 : TI := ⟨(.func #[] #[34] false), 1, 8, [.nilfn]⟩
def ti154 : TI := ⟨(.func #[133] #[99] true), 1, 8, [.nilfn]⟩
def ti155 : TI := ⟨(.func #[125, 34] #[34] false), 1, 8, [.nilfn]⟩
def ti156 : TI := ⟨(.func #[31, 3] #[99] false), 1, 8, [.nilfn]⟩
def ti157 : TI := ⟨(.func #[9, 133] #[44] true), 1, 8, [.nilfn]⟩
def ti158 : TI := ⟨(.func #[117, 120] #[117] false), 1, 8, [.nilfn]⟩
def ti159 : TI := ⟨(.func #[117, 3, 3, 3] #[] false), 1, 8, [.nilfn]⟩
def ti160 : TI := ⟨(.func #[139] #[3] false), 1, 8, [.nilfn]⟩
def ti161 : TI := ⟨(.pointer 190), 1, 8, [.nilp]⟩
def ti162 : TI := ⟨(.func #[] #[161] false), 1, 8, [.nilfn]⟩
def ti163 : TI := ⟨(.func #[99] #[38] false), 1, 8, [.nilfn]⟩
def ti164 : TI := ⟨(.func #[] #[34, 38] false), 1, 8, [.nilfn]⟩
def ti165 : TI := ⟨(.array 64 5), 64, 64, bl (List.replicate 64 0)⟩
def ti166 : TI := ⟨(.func #[5, 99] #[34] false), 1, 8, [.nilfn]⟩
def ti167 : TI := ⟨(.func #[99, 3] #[99] false), 1, 8, [.nilfn]⟩
def ti168 : TI := ⟨(.int .u32), 1, 4, [(.int .u32 0)]⟩
def ti169 : TI := ⟨(.array 8 168), 8, 32, [(.int .u32 0), (.int .u32 0), (.int .u32 0), (.int .u32 0), (.int .u32 0), (.int .u32 0), (.int .u32 0), (.int .u32 0)]⟩
def ti170 : TI := ⟨(.func #[3] #[168] false), 1, 8, [.nilfn]⟩
def ti171 : TI := ⟨(.slice 168), 1, 24, [(.sl 1 true [] .any)]⟩
def ti172 : TI := ⟨(.func #[] #[171] false), 1, 8, [.nilfn]⟩
def ti173 : TI := ⟨(.func #[169, 165, 171] #[169] false), 1, 8, [.nilfn]⟩
def ti174 : TI := ⟨(.func #[3] #[34] false), 1, 8, [.nilfn]⟩
def ti175 : TI := ⟨(.func #[99] #[] false), 1, 8, [.nilfn]⟩
def ti176 : TI := ⟨(.func #[117, 3, 3] #[] false), 1, 8, [.nilfn]⟩
def ti177 : TI := ⟨(.int .i64), 1, 8, [(.int .i64 0)]⟩
def ti179 : TI := ⟨(.func #[117, 3, 3] #[3, 177] false), 1, 8, [.nilfn]⟩
def ti180 : TI := ⟨(.func #[117, 3, 3] #[4] false), 1, 8, [.nilfn]⟩
def ti181 : TI := ⟨(.func #[3, 3] #[4] false), 1, 8, [.nilfn]⟩
def ti182 : TI := ⟨(.func #[117, 3, 3, 3] #[3] false), 1, 8, [.nilfn]⟩
def ti183 : TI := ⟨(.func #[117, 3, 3, 3] #[3, 4] false), 1, 8, [.nilfn]⟩
def ti184 : TI := ⟨(.func #[168] #[3] false), 1, 8, [.nilfn]⟩
def ti185 : TI := ⟨(.func #[31] #[3] false), 1, 8, [.nilfn]⟩
def ti186 : TI := ⟨(.array 64 168), 64, 256, List.replicate 64 (.int .u32 0)⟩
def ti188 : TI := ⟨(.func #[] #[186, 169] false), 1, 8, [.nilfn]⟩
def ti189 : TI := ⟨(.struct #[⟨ "k", 186, 0, false, "", "anchorite/sha", 0⟩, ⟨ "h", 169, 64, false, "", "anchorite/sha", 256⟩, ⟨ "rest", 99, 72, false, "", "anchorite/sha", 288⟩, ⟨ "n", 3, 73, false, "", "anchorite/sha", 312⟩, ⟨ "is", 4, 74, false, "", "anchorite/sha", 320⟩]), 75, 328, List.replicate 72 (.int .u32 0) ++ [(.sl 1 true [] .any), (.int .i64 0), (.bool false)]⟩
def ti190 : TI := ⟨(.struct #[⟨ "k", 186, 0, false, "", "anchorite/sha", 0⟩, ⟨ "h", 169, 64, false, "", "anchorite/sha", 256⟩, ⟨ "rest", 99, 72, false, "", "anchorite/sha", 288⟩, ⟨ "n", 3, 73, false, "", "anchorite/sha", 312⟩, ⟨ "is", 4, 74, false, "", "anchorite/sha", 320⟩]), 75, 328, List.replicate 72 (.int .u32 0) ++ [(.sl 1 true [] .any), (.int .i64 0), (.bool false)]⟩
def ti191 : TI := ⟨(.func #[169, 99, 186] #[169] false), 1, 8, [.nilfn]⟩
def ti192 : TI := ⟨(.func #[3] #[99] false), 1, 8, [.nilfn]⟩
def ti193 : TI := ⟨(.func #[31, 3] #[168] false), 1, 8, [.nilfn]⟩
def ti194 : TI := ⟨(.func #[3] #[31] false), 1, 8, [.nilfn]⟩
def ti195 : TI := ⟨(.func #[168, 139] #[168] false), 1, 8, [.nilfn]⟩
def ti196 : TI := ⟨(.int .u64), 1, 8, [(.int .u64 0)]⟩
def ti197 : TI := ⟨(.func #[3] #[139] false), 1, 8, [.nilfn]⟩
def ti198 : TI := ⟨(.func #[] #[31] false), 1, 8, [.nilfn]⟩
def ti199 : TI := ⟨(.func #[117, 3, 200] #[3] false), 1, 8, [.nilfn]⟩
def ti200 : TI := ⟨(.pointer 3), 1, 8, [.nilp]⟩
def ti201 : TI := ⟨(.func #[117, 3, 3, 3, 200] #[3] false), 1, 8, [.nilfn]⟩
def ti202 : TI := ⟨(.func #[] #[30] false), 1, 8, [.nilfn]⟩
def ti203 : TI := ⟨(.func #[31] #[168] false), 1, 8, [.nilfn]⟩
def ti204 : TI := ⟨(.func #[168, 3] #[168] false), 1, 8, [.nilfn]⟩
def ti205 : TI := ⟨(.func #[168, 117] #[168] true), 1, 8, [.nilfn]⟩
def ti206 : TI := ⟨(.func #[99] #[31, 38] false), 1, 8, [.nilfn]⟩
def ti207 : TI := ⟨(.func #[31, 3, 31] #[4] false), 1, 8, [.nilfn]⟩
def ti208 : TI := ⟨(.pointer 196), 1, 8, [.nilp]⟩
def ti210 : TI := ⟨(.func #[117, 3, 3, 200] #[3, 3] false), 1, 8, [.nilfn]⟩
def ti211 : TI := ⟨(.func #[30, 212] #[4] false), 1, 8, [.nilfn]⟩
def ti212 : TI := ⟨(.func #[31] #[4] false), 1, 8, [.nilfn]⟩
def ti213 : TI := ⟨(.func #[212] #[168] false), 1, 8, [.nilfn]⟩
def ti214 : TI := ⟨(.array 2 31), 2, 16, [(.int .u64 0), (.int .u64 0)]⟩
def ti216 : TI := ⟨(.func #[31] #[214, 4] false), 1, 8, [.nilfn]⟩
def ti217 : TI := ⟨(.func #[214, 4, 31] #[4] false), 1, 8, [.nilfn]⟩
def ti218 : TI := ⟨(.func #[31] #[214] false), 1, 8, [.nilfn]⟩
def ti219 : TI := ⟨(.func #[99] #[31] false), 1, 8, [.nilfn]⟩
def ti221 : TI := ⟨(.func #[31, 31] #[31, 31] false), 1, 8, [.nilfn]⟩
def ti222 : TI := ⟨(.func #[31, 31, 31] #[31, 31] false), 1, 8, [.nilfn]⟩
def ti223 : TI := ⟨(.func #[30, 212] #[3] false), 1, 8, [.nilfn]⟩
def ti224 : TI := ⟨(.func #[] #[9] false), 1, 8, [.nilfn]⟩
def ti225 : TI := ⟨(.struct #[⟨ "_interface", 17, 0, false, "", "runtime", 0⟩, ⟨ "concrete", 17, 1, false, "", "runtime", 8⟩, ⟨ "asserted", 17, 2, false, "", "runtime", 16⟩, ⟨ "missingMethod", 9, 3, false, "", "runtime", 24⟩]), 4, 40, [.nilp, .nilp, .nilp, (.str [])]⟩
def ti226 : TI := ⟨(.struct #[⟨ "_interface", 17, 0, false, "", "runtime", 0⟩, ⟨ "concrete", 17, 1, false, "", "runtime", 8⟩, ⟨ "asserted", 17, 2, false, "", "runtime", 16⟩, ⟨ "missingMethod", 9, 3, false, "", "runtime", 24⟩]), 4, 40, [.nilp, .nilp, .nilp, (.str [])]⟩
def ti227 : TI := ⟨(.array 0 16), 0, 0, []⟩
def ti228 : TI := ⟨(.struct #[⟨ "_", 227, 0, false, "", "runtime", 0⟩]), 0, 0, []⟩
def ti229 : TI := ⟨(.struct #[⟨ "_", 227, 0, false, "", "runtime", 0⟩]), 0, 0, []⟩
def ti230 : TI := ⟨(.func #[] #[3] false), 1, 8, [.nilfn]⟩
def ti231 : TI := ⟨(.int .u8), 1, 1, [(.int .u8 0)]⟩
def ti232 : TI := ⟨(.int .u8), 1, 1, [(.int .u8 0)]⟩
def ti233 : TI := ⟨(.func #[239, 239] #[4] false), 1, 8, [.nilfn]⟩
def ti234 : TI := ⟨(.pointer 5), 1, 8, [.nilp]⟩
def ti235 : TI := ⟨(.int .i32), 1, 4, [(.int .i32 0)]⟩
def ti236 : TI := ⟨(.int .i32), 1, 4, [(.int .i32 0)]⟩
def ti237 : TI := ⟨(.struct #[⟨ "Size_", 12, 0, false, "", "", 0⟩, ⟨ "PtrBytes", 12, 1, false, "", "", 8⟩, ⟨ "Hash", 168, 2, false, "", "", 16⟩, ⟨ "TFlag", 231, 3, false, "", "", 20⟩, ⟨ "Align_", 5, 4, false, "", "", 21⟩, ⟨ "FieldAlign_", 5, 5, false, "", "", 22⟩, ⟨ "Kind_", 232, 6, false, "", "", 23⟩, ⟨ "Equal", 233, 7, false, "", "", 24⟩, ⟨ "GCData", 234, 8, false, "", "", 32⟩, ⟨ "Str", 235, 9, false, "", "", 40⟩, ⟨ "PtrToThis", 236, 10, false, "", "", 44⟩]), 11, 48, [(.int .u64 0), (.int .u64 0), (.int .u32 0), (.int .u8 0), (.int .u8 0), (.int .u8 0), (.int .u8 0), .nilfn, .nilp, (.int .i32 0), (.int .i32 0)]⟩
def ti238 : TI := ⟨(.struct #[⟨ "Size_", 12, 0, false, "", "", 0⟩, ⟨ "PtrBytes", 12, 1, false, "", "", 8⟩, ⟨ "Hash", 168, 2, false, "", "", 16⟩, ⟨ "TFlag", 231, 3, false, "", "", 20⟩, ⟨ "Align_", 5, 4, false, "", "", 21⟩, ⟨ "FieldAlign_", 5, 5, false, "", "", 22⟩, ⟨ "Kind_", 232, 6, false, "", "", 23⟩, ⟨ "Equal", 233, 7, false, "", "", 24⟩, ⟨ "GCData", 234, 8, false, "", "", 32⟩, ⟨ "Str", 235, 9, false, "", "", 40⟩, ⟨ "PtrToThis", 236, 10, false, "", "", 44⟩]), 11, 48, [(.int .u64 0), (.int .u64 0), (.int .u32 0), (.int .u8 0), (.int .u8 0), (.int .u8 0), (.int .u8 0), .nilfn, .nilp, (.int .i32 0), (.int .i32 0)]⟩
def ti239 : TI := ⟨.unsafePointer, 1, 8, [.nilp]⟩
def tT (t : TypeId) : Option TI := (bif Nat.blt t 121 then (bif Nat.blt t 59 then (bif Nat.blt t 29 then (bif Nat.blt t 15 then (bif Nat.blt t 8 then (bif Nat.blt t 4 then (bif Nat.blt t 2 then (bif Nat.blt t 1 then none else bif Nat.beq t 1 then some ti1 else none) else bif Nat.beq t 2 then some ti2 else (bif Nat.blt t 3 then none else bif Nat.beq t 3 then some ti3 else none)) else bif Nat.beq t 4 then some ti4 else (bif Nat.blt t 6 then (bif Nat.blt t 5 then none else bif Nat.beq t 5 then some ti5 else none) else bif Nat.beq t 6 then some ti6 else (bif Nat.blt t 7 then none else bif Nat.beq t 7 then some ti7 else none))) else bif Nat.beq t 8 then some ti8 else (bif Nat.blt t 12 then (bif Nat.blt t 10 then (bif Nat.blt t 9 then none else bif Nat.beq t 9 then some ti9 else none) else bif Nat.beq t 10 then some ti10 else (bif Nat.blt t 11 then none else bif Nat.beq t 11 then some ti11 else none)) else bif Nat.beq t 12 then some ti12 else (bif Nat.blt t 14 then (bif Nat.blt t 13 then none else bif Nat.beq t 13 then some ti13 else none) else bif Nat.beq t 14 then some ti14 else none))) else bif Nat.beq t 15 then some ti15 else (bif Nat.blt t 22 then (bif Nat.blt t 19 then (bif Nat.blt t 17 then (bif Nat.blt t 16 then none else bif Nat.beq t 16 then some ti16 else none) else bif Nat.beq t 17 then some ti17 else (bif Nat.blt t 18 then none else bif Nat.beq t 18 then some ti18 else none)) else bif Nat.beq t 19 then some ti19 else (bif Nat.blt t 21 then (bif Nat.blt t 20 then none else bif Nat.beq t 20 then some ti20 else none) else bif Nat.beq t 21 then some ti21 else none)) else bif Nat.beq t 22 then some ti22 else (bif Nat.blt t 26 then (bif Nat.blt t 24 then (bif Nat.blt t 23 then none else bif Nat.beq t 23 then some ti23 else none) else bif Nat.beq t 24 then some ti24 else (bif Nat.blt t 25 then none else bif Nat.beq t 25 then some ti25 else none)) else bif Nat.beq t 26 then some ti26 else (bif Nat.blt t 28 then (bif Nat.blt t 27 then none else bif Nat.beq t 27 then some ti27 else none) else bif Nat.beq t 28 then some ti28 else none)))) else bif Nat.beq t 29 then some ti29 else (bif Nat.blt t 44 then (bif Nat.blt t 36 then (bif Nat.blt t 33 then (bif Nat.blt t 31 then (bif Nat.blt t 30 then none else bif Nat.beq t 30 then some ti30 else none) else bif Nat.beq t 31 then some ti31 else (bif Nat.blt t 32 then none else bif Nat.beq t 32 then some ti32 else none)) else bif Nat.beq t 33 then some ti33 else (bif Nat.blt t 35 then (bif Nat.blt t 34 then none else bif Nat.beq t 34 then some ti34 else none) else bif Nat.beq t 35 then some ti35 else none)) else bif Nat.beq t 36 then some ti36 else (bif Nat.blt t 41 then (bif Nat.blt t 38 then (bif Nat.blt t 37 then none else bif Nat.beq t 37 then some ti37 else none) else bif Nat.beq t 38 then some ti38 else (bif Nat.blt t 40 then none else bif Nat.beq t 40 then some ti40 else none)) else bif Nat.beq t 41 then some ti41 else (bif Nat.blt t 43 then (bif Nat.blt t 42 then none else bif Nat.beq t 42 then some ti42 else none) else bif Nat.beq t 43 then some ti43 else none))) else bif Nat.beq t 44 then some ti44 else (bif Nat.blt t 52 then (bif Nat.blt t 48 then (bif Nat.blt t 46 then (bif Nat.blt t 45 then none else bif Nat.beq t 45 then some ti45 else none) else bif Nat.beq t 46 then some ti46 else (bif Nat.blt t 47 then none else bif Nat.beq t 47 then some ti47 else none)) else bif Nat.beq t 48 then some ti48 else (bif Nat.blt t 50 then (bif Nat.blt t 49 then none else bif Nat.beq t 49 then some ti49 else none) else bif Nat.beq t 50 then some ti50 else none)) else bif Nat.beq t 52 then some ti52 else (bif Nat.blt t 56 then (bif Nat.blt t 54 then (bif Nat.blt t 53 then none else bif Nat.beq t 53 then some ti53 else none) else bif Nat.beq t 54 then some ti54 else (bif Nat.blt t 55 then none else bif Nat.beq t 55 then some ti55 else none)) else bif Nat.beq t 56 then some ti56 else (bif Nat.blt t 58 then (bif Nat.blt t 57 then none else bif Nat.beq t 57 then some ti57 else none) else bif Nat.beq t 58 then some ti58 else none))))) else bif Nat.beq t 59 then some ti59 else (bif Nat.blt t 90 then (bif Nat.blt t 75 then (bif Nat.blt t 68 then (bif Nat.blt t 65 then (bif Nat.blt t 63 then (bif Nat.blt t 61 then none else bif Nat.beq t 61 then some ti61 else none) else bif Nat.beq t 63 then some ti63 else (bif Nat.blt t 64 then none else bif Nat.beq t 64 then some ti64 else none)) else bif Nat.beq t 65 then some ti65 else (bif Nat.blt t 67 then (bif Nat.blt t 66 then none else bif Nat.beq t 66 then some ti66 else none) else bif Nat.beq t 67 then some ti67 else none)) else bif Nat.beq t 68 then some ti68 else (bif Nat.blt t 72 then (bif Nat.blt t 70 then (bif Nat.blt t 69 then none else bif Nat.beq t 69 then some ti69 else none) else bif Nat.beq t 70 then some ti70 else (bif Nat.blt t 71 then none else bif Nat.beq t 71 then some ti71 else none)) else bif Nat.beq t 72 then some ti72 else (bif Nat.blt t 74 then (bif Nat.blt t 73 then none else bif Nat.beq t 73 then some ti73 else none) else bif Nat.beq t 74 then some ti74 else none))) else bif Nat.beq t 75 then some ti75 else (bif Nat.blt t 83 then (bif Nat.blt t 80 then (bif Nat.blt t 78 then (bif Nat.blt t 76 then none else bif Nat.beq t 76 then some ti76 else none) else bif Nat.beq t 78 then some ti78 else (bif Nat.blt t 79 then none else bif Nat.beq t 79 then some ti79 else none)) else bif Nat.beq t 80 then some ti80 else (bif Nat.blt t 82 then (bif Nat.blt t 81 then none else bif Nat.beq t 81 then some ti81 else none) else bif Nat.beq t 82 then some ti82 else none)) else bif Nat.beq t 83 then some ti83 else (bif Nat.blt t 87 then (bif Nat.blt t 85 then (bif Nat.blt t 84 then none else bif Nat.beq t 84 then some ti84 else none) else bif Nat.beq t 85 then some ti85 else (bif Nat.blt t 86 then none else bif Nat.beq t 86 then some ti86 else none)) else bif Nat.beq t 87 then some ti87 else (bif Nat.blt t 89 then (bif Nat.blt t 88 then none else bif Nat.beq t 88 then some ti88 else none) else bif Nat.beq t 89 then some ti89 else none)))) else bif Nat.beq t 90 then some ti90 else (bif Nat.blt t 106 then (bif Nat.blt t 99 then (bif Nat.blt t 94 then (bif Nat.blt t 92 then (bif Nat.blt t 91 then none else bif Nat.beq t 91 then some ti91 else none) else bif Nat.beq t 92 then some ti92 else (bif Nat.blt t 93 then none else bif Nat.beq t 93 then some ti93 else none)) else bif Nat.beq t 94 then some ti94 else (bif Nat.blt t 98 then (bif Nat.blt t 97 then none else bif Nat.beq t 97 then some ti97 else none) else bif Nat.beq t 98 then some ti98 else none)) else bif Nat.beq t 99 then some ti99 else (bif Nat.blt t 103 then (bif Nat.blt t 101 then (bif Nat.blt t 100 then none else bif Nat.beq t 100 then some ti100 else none) else bif Nat.beq t 101 then some ti101 else (bif Nat.blt t 102 then none else bif Nat.beq t 102 then some ti102 else none)) else bif Nat.beq t 103 then some ti103 else (bif Nat.blt t 105 then (bif Nat.blt t 104 then none else bif Nat.beq t 104 then some ti104 else none) else bif Nat.beq t 105 then some ti105 else none))) else bif Nat.beq t 106 then some ti106 else (bif Nat.blt t 114 then (bif Nat.blt t 111 then (bif Nat.blt t 108 then (bif Nat.blt t 107 then none else bif Nat.beq t 107 then some ti107 else none) else bif Nat.beq t 108 then some ti108 else (bif Nat.blt t 109 then none else bif Nat.beq t 109 then some ti109 else none)) else bif Nat.beq t 111 then some ti111 else (bif Nat.blt t 113 then (bif Nat.blt t 112 then none else bif Nat.beq t 112 then some ti112 else none) else bif Nat.beq t 113 then some ti113 else none)) else bif Nat.beq t 114 then some ti114 else (bif Nat.blt t 118 then (bif Nat.blt t 116 then (bif Nat.blt t 115 then none else bif Nat.beq t 115 then some ti115 else none) else bif Nat.beq t 116 then some ti116 else (bif Nat.blt t 117 then none else bif Nat.beq t 117 then some ti117 else none)) else bif Nat.beq t 118 then some ti118 else (bif Nat.blt t 120 then (bif Nat.blt t 119 then none else bif Nat.beq t 119 then some ti119 else none) else bif Nat.beq t 120 then some ti120 else none)))))) else bif Nat.beq t 121 then some ti121 else (bif Nat.blt t 180 then (bif Nat.blt t 151 then (bif Nat.blt t 137 then (bif Nat.blt t 129 then (bif Nat.blt t 125 then (bif Nat.blt t 123 then (bif Nat.blt t 122 then none else bif Nat.beq t 122 then some ti122 else none) else bif Nat.beq t 123 then some ti123 else (bif Nat.blt t 124 then none else bif Nat.beq t 124 then some ti124 else none)) else bif Nat.beq t 125 then some ti125 else (bif Nat.blt t 127 then (bif Nat.blt t 126 then none else bif Nat.beq t 126 then some ti126 else none) else bif Nat.beq t 127 then some ti127 else (bif Nat.blt t 128 then none else bif Nat.beq t 128 then some ti128 else none))) else bif Nat.beq t 129 then some ti129 else (bif Nat.blt t 133 then (bif Nat.blt t 131 then (bif Nat.blt t 130 then none else bif Nat.beq t 130 then some ti130 else none) else bif Nat.beq t 131 then some ti131 else (bif Nat.blt t 132 then none else bif Nat.beq t 132 then some ti132 else none)) else bif Nat.beq t 133 then some ti133 else (bif Nat.blt t 135 then (bif Nat.blt t 134 then none else bif Nat.beq t 134 then some ti134 else none) else bif Nat.beq t 135 then some ti135 else none))) else bif Nat.beq t 137 then some ti137 else (bif Nat.blt t 144 then (bif Nat.blt t 141 then (bif Nat.blt t 139 then (bif Nat.blt t 138 then none else bif Nat.beq t 138 then some ti138 else none) else bif Nat.beq t 139 then some ti139 else (bif Nat.blt t 140 then none else bif Nat.beq t 140 then some ti140 else none)) else bif Nat.beq t 141 then some ti141 else (bif Nat.blt t 143 then (bif Nat.blt t 142 then none else bif Nat.beq t 142 then some ti142 else none) else bif Nat.beq t 143 then some ti143 else none)) else bif Nat.beq t 144 then some ti144 else (bif Nat.blt t 148 then (bif Nat.blt t 146 then (bif Nat.blt t 145 then none else bif Nat.beq t 145 then some ti145 else none) else bif Nat.beq t 146 then some ti146 else (bif Nat.blt t 147 then none else bif Nat.beq t 147 then some ti147 else none)) else bif Nat.beq t 148 then some ti148 else (bif Nat.blt t 150 then (bif Nat.blt t 149 then none else bif Nat.beq t 149 then some ti149 else none) else bif Nat.beq t 150 then some ti150 else none)))) else bif Nat.beq t 151 then some ti151 else (bif Nat.blt t 165 then (bif Nat.blt t 158 then (bif Nat.blt t 155 then (bif Nat.blt t 153 then (bif Nat.blt t 152 then none else bif Nat.beq t 152 then some ti152 else none) else bif Nat.beq t 153 then some ti153 else (bif Nat.blt t 154 then none else bif Nat.beq t 154 then some ti154 else none)) else bif Nat.beq t 155 then some ti155 else (bif Nat.blt t 157 then (bif Nat.blt t 156 then none else bif Nat.beq t 156 then some ti156 else none) else bif Nat.beq t 157 then some ti157 else none)) else bif Nat.beq t 158 then some ti158 else (bif Nat.blt t 162 then (bif Nat.blt t 160 then (bif Nat.blt t 159 then none else bif Nat.beq t 159 then some ti159 else none) else bif Nat.beq t 160 then some ti160 else (bif Nat.blt t 161 then none else bif Nat.beq t 161 then some ti161 else none)) else bif Nat.beq t 162 then some ti162 else (bif Nat.blt t 164 then (bif Nat.blt t 163 then none else bif Nat.beq t 163 then some ti163 else none) else bif Nat.beq t 164 then some ti164 else none))) else bif Nat.beq t 165 then some ti165 else (bif Nat.blt t 172 then (bif Nat.blt t 169 then (bif Nat.blt t 167 then (bif Nat.blt t 166 then none else bif Nat.beq t 166 then some ti166 else none) else bif Nat.beq t 167 then some ti167 else (bif Nat.blt t 168 then none else bif Nat.beq t 168 then some ti168 else none)) else bif Nat.beq t 169 then some ti169 else (bif Nat.blt t 171 then (bif Nat.blt t 170 then none else bif Nat.beq t 170 then some ti170 else none) else bif Nat.beq t 171 then some ti171 else none)) else bif Nat.beq t 172 then some ti172 else (bif Nat.blt t 176 then (bif Nat.blt t 174 then (bif Nat.blt t 173 then none else bif Nat.beq t 173 then some ti173 else none) else bif Nat.beq t 174 then some ti174 else (bif Nat.blt t 175 then none else bif Nat.beq t 175 then some ti175 else none)) else bif Nat.beq t 176 then some ti176 else (bif Nat.blt t 179 then (bif Nat.blt t 177 then none else bif Nat.beq t 177 then some ti177 else none) else bif Nat.beq t 179 then some ti179 else none))))) else bif Nat.beq t 180 then some ti180 else (bif Nat.blt t 210 then (bif Nat.blt t 195 then (bif Nat.blt t 188 then (bif Nat.blt t 184 then (bif Nat.blt t 182 then (bif Nat.blt t 181 then none else bif Nat.beq t 181 then some ti181 else none) else bif Nat.beq t 182 then some ti182 else (bif Nat.blt t 183 then none else bif Nat.beq t 183 then some ti183 else none)) else bif Nat.beq t 184 then some ti184 else (bif Nat.blt t 186 then (bif Nat.blt t 185 then none else bif Nat.beq t 185 then some ti185 else none) else bif Nat.beq t 186 then some ti186 else none)) else bif Nat.beq t 188 then some ti188 else (bif Nat.blt t 192 then (bif Nat.blt t 190 then (bif Nat.blt t 189 then none else bif Nat.beq t 189 then some ti189 else none) else bif Nat.beq t 190 then some ti190 else (bif Nat.blt t 191 then none else bif Nat.beq t 191 then some ti191 else none)) else bif Nat.beq t 192 then some ti192 else (bif Nat.blt t 194 then (bif Nat.blt t 193 then none else bif Nat.beq t 193 then some ti193 else none) else bif Nat.beq t 194 then some ti194 else none))) else bif Nat.beq t 195 then some ti195 else (bif Nat.blt t 202 then (bif Nat.blt t 199 then (bif Nat.blt t 197 then (bif Nat.blt t 196 then none else bif Nat.beq t 196 then some ti196 else none) else bif Nat.beq t 197 then some ti197 else (bif Nat.blt t 198 then none else bif Nat.beq t 198 then some ti198 else none)) else bif Nat.beq t 199 then some ti199 else (bif Nat.blt t 201 then (bif Nat.blt t 200 then none else bif Nat.beq t 200 then some ti200 else none) else bif Nat.beq t 201 then some ti201 else none)) else bif Nat.beq t 202 then some ti202 else (bif Nat.blt t 206 then (bif Nat.blt t 204 then (bif Nat.blt t 203 then none else bif Nat.beq t 203 then some ti203 else none) else bif Nat.beq t 204 then some ti204 else (bif Nat.blt t 205 then none else bif Nat.beq t 205 then some ti205 else none)) else bif Nat.beq t 206 then some ti206 else (bif Nat.blt t 208 then (bif Nat.blt t 207 then none else bif Nat.beq t 207 then some ti207 else none) else bif Nat.beq t 208 then some ti208 else none)))) else bif Nat.beq t 210 then some ti210 else (bif Nat.blt t 226 then (bif Nat.blt t 218 then (bif Nat.blt t 214 then (bif Nat.blt t 212 then (bif Nat.blt t 211 then none else bif Nat.beq t 211 then some ti211 else none) else bif Nat.beq t 212 then some ti212 else (bif Nat.blt t 213 then none else bif Nat.beq t 213 then some ti213 else none)) else bif Nat.beq t 214 then some ti214 else (bif Nat.blt t 217 then (bif Nat.blt t 216 then none else bif Nat.beq t 216 then some ti216 else none) else bif Nat.beq t 217 then some ti217 else none)) else bif Nat.beq t 218 then some ti218 else (bif Nat.blt t 223 then (bif Nat.blt t 221 then (bif Nat.blt t 219 then none else bif Nat.beq t 219 then some ti219 else none) else bif Nat.beq t 221 then some ti221 else (bif Nat.blt t 222 then none else bif Nat.beq t 222 then some ti222 else none)) else bif Nat.beq t 223 then some ti223 else (bif Nat.blt t 225 then (bif Nat.blt t 224 then none else bif Nat.beq t 224 then some ti224 else none) else bif Nat.beq t 225 then some ti225 else none))) else bif Nat.beq t 226 then some ti226 else (bif Nat.blt t 233 then (bif Nat.blt t 230 then (bif Nat.blt t 228 then (bif Nat.blt t 227 then none else bif Nat.beq t 227 then some ti227 else none) else bif Nat.beq t 228 then some ti228 else (bif Nat.blt t 229 then none else bif Nat.beq t 229 then some ti229 else none)) else bif Nat.beq t 230 then some ti230 else (bif Nat.blt t 232 then (bif Nat.blt t 231 then none else bif Nat.beq t 231 then some ti231 else none) else bif Nat.beq t 232 then some ti232 else none)) else bif Nat.beq t 233 then some ti233 else (bif Nat.blt t 237 then (bif Nat.blt t 235 then (bif Nat.blt t 234 then none else bif Nat.beq t 234 then some ti234 else none) else bif Nat.beq t 235 then some ti235 else (bif Nat.blt t 236 then none else bif Nat.beq t 236 then some ti236 else none)) else bif Nat.beq t 237 then some ti237 else (bif Nat.blt t 239 then (bif Nat.blt t 238 then none else bif Nat.beq t 238 then some ti238 else none) else bif Nat.beq t 239 then some ti239 else none)))))))
noncomputable def cx : Cx := ⟨Tryz.prog, tT, fun _ => none, fun _ => false, fun _ => none⟩
theorem tT_small : (List.range 240).map tT = (List.range 240).map (tyB Tryz.prog 240) := by kernel_rfl
theorem nblt (t k : Nat) (h : k ≤ t) : Nat.blt t k = false := by cases hb : Nat.blt t k; rfl; exact absurd (blt_iff.1 hb) (by omega)
theorem nbne (t k : Nat) (h : t ≠ k) : Nat.beq t k = false := by cases hb : Nat.beq t k; rfl; exact absurd (nbeq hb) h
theorem tT_big (t : Nat) (h : 240 ≤ t) : tT t = none := by
  unfold tT
  rw [show Nat.blt t 121 = false from nblt t 121 (by omega), cond_false, show Nat.beq t 121 = false from nbne t 121 (by omega), cond_false, show Nat.blt t 180 = false from nblt t 180 (by omega), cond_false, show Nat.beq t 180 = false from nbne t 180 (by omega), cond_false, show Nat.blt t 210 = false from nblt t 210 (by omega), cond_false, show Nat.beq t 210 = false from nbne t 210 (by omega), cond_false, show Nat.blt t 226 = false from nblt t 226 (by omega), cond_false, show Nat.beq t 226 = false from nbne t 226 (by omega), cond_false, show Nat.blt t 233 = false from nblt t 233 (by omega), cond_false, show Nat.beq t 233 = false from nbne t 233 (by omega), cond_false, show Nat.blt t 237 = false from nblt t 237 (by omega), cond_false, show Nat.beq t 237 = false from nbne t 237 (by omega), cond_false, show Nat.blt t 239 = false from nblt t 239 (by omega), cond_false, show Nat.beq t 239 = false from nbne t 239 (by omega), cond_false]
theorem tT_eq (t : TypeId) (i : TI) (h : tT t = some i) : tyB Tryz.prog 240 t = some i := by
  rcases Nat.lt_or_ge t 240 with hl | hl
  · have := congrArg (fun l => l[t]?) tT_small
    simp only [List.getElem?_map, List.getElem?_range hl, Option.map_some, Option.some.injEq] at this
    rw [← this]; exact h
  · exact absurd h (by have e := tT_big t hl; rw [e]; exact fun h => by cases h)
theorem cxT : TOk cx.P cx.T := by
  have h : TOk Tryz.prog (tyB Tryz.prog 240) := tyB_ok (by kernel_rfl)
  have e : tyB Tryz.prog 240 = tT := by
    funext t
    rcases Nat.lt_or_ge t 240 with hl | hl
    · have := congrArg (fun l => l[t]?) tT_small
      simp only [List.getElem?_map, List.getElem?_range hl, Option.map_some, Option.some.injEq] at this
      exact this.symm
    · rw [tT_big t hl]
      unfold tyB basicOk
      rw [decide_eq_false (Nat.not_lt.2 hl : ¬ (t : Nat) < 240)]
      rfl
  rw [e] at h
  exact h
theorem cxOk : cx.Ok := ⟨cxT, fun t i h => cells_of t i (tT_eq t i h), by kernel_rfl⟩
theorem cxG : GClosed cx := fun g v h => by cases h
noncomputable def fe5 : FE := ⟨LB Tryz.f5, Tryz.f5.ntmps, Tryz.f5.results.toList, fun _ => none, true⟩
theorem fo5 : FnOk cx 5 fe5.body fe5.N fe5.rs ∧ BodyOk cx 5 pF fe5.q :=
  have h : FnOk cx 5 (LB Tryz.f5) Tryz.f5.ntmps Tryz.f5.results.toList := fnOk_of Tryz.func5 (by kernel_rfl)
  ⟨h, bodyOk_of Tryz.func5 (by kernel_rfl)⟩
noncomputable def fe7 : FE := ⟨LB Tryz.f7, Tryz.f7.ntmps, Tryz.f7.results.toList, fun _ => none, true⟩
theorem fo7 : FnOk cx 7 fe7.body fe7.N fe7.rs ∧ BodyOk cx 7 pF fe7.q :=
  have h : FnOk cx 7 (LB Tryz.f7) Tryz.f7.ntmps Tryz.f7.results.toList := fnOk_of Tryz.func7 (by kernel_rfl)
  ⟨h, bodyOk_of Tryz.func7 (by kernel_rfl)⟩
noncomputable def fe8 : FE := ⟨LB Tryz.f8, Tryz.f8.ntmps, Tryz.f8.results.toList, fun _ => none, false⟩
theorem fo8 : FnOk cx 8 fe8.body fe8.N fe8.rs ∧ BodyOk cx 8 pF fe8.q :=
  have h : FnOk cx 8 (LB Tryz.f8) Tryz.f8.ntmps Tryz.f8.results.toList := fnOk_of Tryz.func8 (by kernel_rfl)
  ⟨h, bodyOk_of Tryz.func8 (by kernel_rfl)⟩
noncomputable def fe9 : FE := ⟨LB Tryz.f9, Tryz.f9.ntmps, Tryz.f9.results.toList, fun _ => none, false⟩
theorem fo9 : FnOk cx 9 fe9.body fe9.N fe9.rs ∧ BodyOk cx 9 pF fe9.q :=
  have h : FnOk cx 9 (LB Tryz.f9) Tryz.f9.ntmps Tryz.f9.results.toList := fnOk_of Tryz.func9 (by kernel_rfl)
  ⟨h, bodyOk_of Tryz.func9 (by kernel_rfl)⟩
noncomputable def fe10 : FE := ⟨LB Tryz.f10, Tryz.f10.ntmps, Tryz.f10.results.toList, fun i => bif Nat.beq i 11 then some [(some 61, some 14)] else bif Nat.beq i 12 then some [(some 72, some 77), (some 72, some 16), (some 76, some 16)] else none, false⟩
theorem fo10 : FnOk cx 10 fe10.body fe10.N fe10.rs ∧ BodyOk cx 10 pF fe10.q :=
  have h : FnOk cx 10 (LB Tryz.f10) Tryz.f10.ntmps Tryz.f10.results.toList := fnOk_of Tryz.func10 (by kernel_rfl)
  ⟨h, bodyOk_of Tryz.func10 (by kernel_rfl)⟩
noncomputable def fe14 : FE := ⟨LB Tryz.f14, Tryz.f14.ntmps, Tryz.f14.results.toList, fun _ => none, true⟩
theorem fo14 : FnOk cx 14 fe14.body fe14.N fe14.rs ∧ BodyOk cx 14 pF fe14.q :=
  have h : FnOk cx 14 (LB Tryz.f14) Tryz.f14.ntmps Tryz.f14.results.toList := fnOk_of Tryz.func14 (by kernel_rfl)
  ⟨h, bodyOk_of Tryz.func14 (by kernel_rfl)⟩
noncomputable def fe16 : FE := ⟨LB Tryz.f16, Tryz.f16.ntmps, Tryz.f16.results.toList, fun _ => none, false⟩
theorem fo16 : FnOk cx 16 fe16.body fe16.N fe16.rs ∧ BodyOk cx 16 pF fe16.q :=
  have h : FnOk cx 16 (LB Tryz.f16) Tryz.f16.ntmps Tryz.f16.results.toList := fnOk_of Tryz.func16 (by kernel_rfl)
  ⟨h, bodyOk_of Tryz.func16 (by kernel_rfl)⟩
noncomputable def fe17 : FE := ⟨LB Tryz.f17, Tryz.f17.ntmps, Tryz.f17.results.toList, fun _ => none, true⟩
theorem fo17 : FnOk cx 17 fe17.body fe17.N fe17.rs ∧ BodyOk cx 17 pF fe17.q :=
  have h : FnOk cx 17 (LB Tryz.f17) Tryz.f17.ntmps Tryz.f17.results.toList := fnOk_of Tryz.func17 (by kernel_rfl)
  ⟨h, bodyOk_of Tryz.func17 (by kernel_rfl)⟩
noncomputable def fe18 : FE := ⟨LB Tryz.f18, Tryz.f18.ntmps, Tryz.f18.results.toList, fun _ => none, true⟩
theorem fo18 : FnOk cx 18 fe18.body fe18.N fe18.rs ∧ BodyOk cx 18 pF fe18.q :=
  have h : FnOk cx 18 (LB Tryz.f18) Tryz.f18.ntmps Tryz.f18.results.toList := fnOk_of Tryz.func18 (by kernel_rfl)
  ⟨h, bodyOk_of Tryz.func18 (by kernel_rfl)⟩
noncomputable def fe19 : FE := ⟨LB Tryz.f19, Tryz.f19.ntmps, Tryz.f19.results.toList, fun _ => none, true⟩
theorem fo19 : FnOk cx 19 fe19.body fe19.N fe19.rs ∧ BodyOk cx 19 pF fe19.q :=
  have h : FnOk cx 19 (LB Tryz.f19) Tryz.f19.ntmps Tryz.f19.results.toList := fnOk_of Tryz.func19 (by kernel_rfl)
  ⟨h, bodyOk_of Tryz.func19 (by kernel_rfl)⟩
noncomputable def fe20 : FE := ⟨LB Tryz.f20, Tryz.f20.ntmps, Tryz.f20.results.toList, fun _ => none, true⟩
theorem fo20 : FnOk cx 20 fe20.body fe20.N fe20.rs ∧ BodyOk cx 20 pF fe20.q :=
  have h : FnOk cx 20 (LB Tryz.f20) Tryz.f20.ntmps Tryz.f20.results.toList := fnOk_of Tryz.func20 (by kernel_rfl)
  ⟨h, bodyOk_of Tryz.func20 (by kernel_rfl)⟩
noncomputable def fe21 : FE := ⟨LB Tryz.f21, Tryz.f21.ntmps, Tryz.f21.results.toList, fun _ => none, true⟩
theorem fo21 : FnOk cx 21 fe21.body fe21.N fe21.rs ∧ BodyOk cx 21 pF fe21.q :=
  have h : FnOk cx 21 (LB Tryz.f21) Tryz.f21.ntmps Tryz.f21.results.toList := fnOk_of Tryz.func21 (by kernel_rfl)
  ⟨h, bodyOk_of Tryz.func21 (by kernel_rfl)⟩
noncomputable def fe22 : FE := ⟨LB Tryz.f22, Tryz.f22.ntmps, Tryz.f22.results.toList, fun _ => none, true⟩
theorem fo22 : FnOk cx 22 fe22.body fe22.N fe22.rs ∧ BodyOk cx 22 pF fe22.q :=
  have h : FnOk cx 22 (LB Tryz.f22) Tryz.f22.ntmps Tryz.f22.results.toList := fnOk_of Tryz.func22 (by kernel_rfl)
  ⟨h, bodyOk_of Tryz.func22 (by kernel_rfl)⟩
noncomputable def fe23 : FE := ⟨LB Tryz.f23, Tryz.f23.ntmps, Tryz.f23.results.toList, fun _ => none, true⟩
theorem fo23 : FnOk cx 23 fe23.body fe23.N fe23.rs ∧ BodyOk cx 23 pF fe23.q :=
  have h : FnOk cx 23 (LB Tryz.f23) Tryz.f23.ntmps Tryz.f23.results.toList := fnOk_of Tryz.func23 (by kernel_rfl)
  ⟨h, bodyOk_of Tryz.func23 (by kernel_rfl)⟩
noncomputable def fe24 : FE := ⟨LB Tryz.f24, Tryz.f24.ntmps, Tryz.f24.results.toList, fun i => bif Nat.beq i 7 then some [(some 30, some 33)] else none, false⟩
theorem fo24 : FnOk cx 24 fe24.body fe24.N fe24.rs ∧ BodyOk cx 24 pF fe24.q :=
  have h : FnOk cx 24 (LB Tryz.f24) Tryz.f24.ntmps Tryz.f24.results.toList := fnOk_of Tryz.func24 (by kernel_rfl)
  ⟨h, bodyOk_of Tryz.func24 (by kernel_rfl)⟩
noncomputable def fe25 : FE := ⟨LB Tryz.f25, Tryz.f25.ntmps, Tryz.f25.results.toList, fun i => bif Nat.beq i 1 then some [(some 8, some 10), (some 8, some 11)] else none, false⟩
theorem fo25 : FnOk cx 25 fe25.body fe25.N fe25.rs ∧ BodyOk cx 25 pF fe25.q :=
  have h : FnOk cx 25 (LB Tryz.f25) Tryz.f25.ntmps Tryz.f25.results.toList := fnOk_of Tryz.func25 (by kernel_rfl)
  ⟨h, bodyOk_of Tryz.func25 (by kernel_rfl)⟩
noncomputable def fe26 : FE := ⟨LB Tryz.f26, Tryz.f26.ntmps, Tryz.f26.results.toList, fun i => bif Nat.beq i 6 then some [(some 19, some 22)] else none, false⟩
theorem fo26 : FnOk cx 26 fe26.body fe26.N fe26.rs ∧ BodyOk cx 26 pF fe26.q :=
  have h : FnOk cx 26 (LB Tryz.f26) Tryz.f26.ntmps Tryz.f26.results.toList := fnOk_of Tryz.func26 (by kernel_rfl)
  ⟨h, bodyOk_of Tryz.func26 (by kernel_rfl)⟩
noncomputable def fe27 : FE := ⟨LB Tryz.f27, Tryz.f27.ntmps, Tryz.f27.results.toList, fun _ => none, true⟩
theorem fo27 : FnOk cx 27 fe27.body fe27.N fe27.rs ∧ BodyOk cx 27 pF fe27.q :=
  have h : FnOk cx 27 (LB Tryz.f27) Tryz.f27.ntmps Tryz.f27.results.toList := fnOk_of Tryz.func27 (by kernel_rfl)
  ⟨h, bodyOk_of Tryz.func27 (by kernel_rfl)⟩
noncomputable def fe28 : FE := ⟨LB Tryz.f28, Tryz.f28.ntmps, Tryz.f28.results.toList, fun i => bif Nat.beq i 4 then some [(some 27, some 32)] else none, false⟩
theorem fo28 : FnOk cx 28 fe28.body fe28.N fe28.rs ∧ BodyOk cx 28 pF fe28.q :=
  have h : FnOk cx 28 (LB Tryz.f28) Tryz.f28.ntmps Tryz.f28.results.toList := fnOk_of Tryz.func28 (by kernel_rfl)
  ⟨h, bodyOk_of Tryz.func28 (by kernel_rfl)⟩
noncomputable def fe32 : FE := ⟨LB Tryz.f32, Tryz.f32.ntmps, Tryz.f32.results.toList, fun _ => none, true⟩
theorem fo32 : FnOk cx 32 fe32.body fe32.N fe32.rs ∧ BodyOk cx 32 pF fe32.q :=
  have h : FnOk cx 32 (LB Tryz.f32) Tryz.f32.ntmps Tryz.f32.results.toList := fnOk_of Tryz.func32 (by kernel_rfl)
  ⟨h, bodyOk_of Tryz.func32 (by kernel_rfl)⟩
noncomputable def fe33 : FE := ⟨LB Tryz.f33, Tryz.f33.ntmps, Tryz.f33.results.toList, fun _ => none, true⟩
theorem fo33 : FnOk cx 33 fe33.body fe33.N fe33.rs ∧ BodyOk cx 33 pF fe33.q :=
  have h : FnOk cx 33 (LB Tryz.f33) Tryz.f33.ntmps Tryz.f33.results.toList := fnOk_of Tryz.func33 (by kernel_rfl)
  ⟨h, bodyOk_of Tryz.func33 (by kernel_rfl)⟩
noncomputable def fe34 : FE := ⟨LB Tryz.f34, Tryz.f34.ntmps, Tryz.f34.results.toList, fun _ => none, false⟩
theorem fo34 : FnOk cx 34 fe34.body fe34.N fe34.rs ∧ BodyOk cx 34 pF fe34.q :=
  have h : FnOk cx 34 (LB Tryz.f34) Tryz.f34.ntmps Tryz.f34.results.toList := fnOk_of Tryz.func34 (by kernel_rfl)
  ⟨h, bodyOk_of Tryz.func34 (by kernel_rfl)⟩
noncomputable def fe35 : FE := ⟨LB Tryz.f35, Tryz.f35.ntmps, Tryz.f35.results.toList, fun _ => none, true⟩
theorem fo35 : FnOk cx 35 fe35.body fe35.N fe35.rs ∧ BodyOk cx 35 pF fe35.q :=
  have h : FnOk cx 35 (LB Tryz.f35) Tryz.f35.ntmps Tryz.f35.results.toList := fnOk_of Tryz.func35 (by kernel_rfl)
  ⟨h, bodyOk_of Tryz.func35 (by kernel_rfl)⟩
noncomputable def fe36 : FE := ⟨LB Tryz.f36, Tryz.f36.ntmps, Tryz.f36.results.toList, fun _ => none, true⟩
theorem fo36 : FnOk cx 36 fe36.body fe36.N fe36.rs ∧ BodyOk cx 36 pF fe36.q :=
  have h : FnOk cx 36 (LB Tryz.f36) Tryz.f36.ntmps Tryz.f36.results.toList := fnOk_of Tryz.func36 (by kernel_rfl)
  ⟨h, bodyOk_of Tryz.func36 (by kernel_rfl)⟩
noncomputable def fe37 : FE := ⟨LB Tryz.f37, Tryz.f37.ntmps, Tryz.f37.results.toList, fun i => bif Nat.beq i 3 then some [(some 16, some 19)] else none, true⟩
theorem fo37 : FnOk cx 37 fe37.body fe37.N fe37.rs ∧ BodyOk cx 37 pF fe37.q :=
  have h : FnOk cx 37 (LB Tryz.f37) Tryz.f37.ntmps Tryz.f37.results.toList := fnOk_of Tryz.func37 (by kernel_rfl)
  ⟨h, bodyOk_of Tryz.func37 (by kernel_rfl)⟩
noncomputable def fe38 : FE := ⟨LB Tryz.f38, Tryz.f38.ntmps, Tryz.f38.results.toList, fun _ => none, false⟩
theorem fo38 : FnOk cx 38 fe38.body fe38.N fe38.rs ∧ BodyOk cx 38 pF fe38.q :=
  have h : FnOk cx 38 (LB Tryz.f38) Tryz.f38.ntmps Tryz.f38.results.toList := fnOk_of Tryz.func38 (by kernel_rfl)
  ⟨h, bodyOk_of Tryz.func38 (by kernel_rfl)⟩
noncomputable def fe51 : FE := ⟨LB Tryz.f51, Tryz.f51.ntmps, Tryz.f51.results.toList, fun _ => none, true⟩
theorem fo51 : FnOk cx 51 fe51.body fe51.N fe51.rs ∧ BodyOk cx 51 pF fe51.q :=
  have h : FnOk cx 51 (LB Tryz.f51) Tryz.f51.ntmps Tryz.f51.results.toList := fnOk_of Tryz.func51 (by kernel_rfl)
  ⟨h, bodyOk_of Tryz.func51 (by kernel_rfl)⟩
noncomputable def fe52 : FE := ⟨LB Tryz.f52, Tryz.f52.ntmps, Tryz.f52.results.toList, fun i => bif Nat.beq i 3 then some [(some 14, some 24), (some 17, some 24), (some 14, some 6), (some 17, some 6), (some 22, some 6)] else none, true⟩
theorem fo52 : FnOk cx 52 fe52.body fe52.N fe52.rs ∧ BodyOk cx 52 pF fe52.q :=
  have h : FnOk cx 52 (LB Tryz.f52) Tryz.f52.ntmps Tryz.f52.results.toList := fnOk_of Tryz.func52 (by kernel_rfl)
  ⟨h, bodyOk_of Tryz.func52 (by kernel_rfl)⟩
noncomputable def fe53 : FE := ⟨LB Tryz.f53, Tryz.f53.ntmps, Tryz.f53.results.toList, fun i => bif Nat.beq i 3 then some [(some 15, some 20), (some 21, some 20), (some 15, some 23)] else none, true⟩
theorem fo53 : FnOk cx 53 fe53.body fe53.N fe53.rs ∧ BodyOk cx 53 pF fe53.q :=
  have h : FnOk cx 53 (LB Tryz.f53) Tryz.f53.ntmps Tryz.f53.results.toList := fnOk_of Tryz.func53 (by kernel_rfl)
  ⟨h, bodyOk_of Tryz.func53 (by kernel_rfl)⟩
noncomputable def fe54 : FE := ⟨LB Tryz.f54, Tryz.f54.ntmps, Tryz.f54.results.toList, fun i => bif Nat.beq i 6 then some [(some 22, some 7), (some 25, some 7)] else none, true⟩
theorem fo54 : FnOk cx 54 fe54.body fe54.N fe54.rs ∧ BodyOk cx 54 pF fe54.q :=
  have h : FnOk cx 54 (LB Tryz.f54) Tryz.f54.ntmps Tryz.f54.results.toList := fnOk_of Tryz.func54 (by kernel_rfl)
  ⟨h, bodyOk_of Tryz.func54 (by kernel_rfl)⟩
noncomputable def fe55 : FE := ⟨LB Tryz.f55, Tryz.f55.ntmps, Tryz.f55.results.toList, fun _ => none, true⟩
theorem fo55 : FnOk cx 55 fe55.body fe55.N fe55.rs ∧ BodyOk cx 55 pF fe55.q :=
  have h : FnOk cx 55 (LB Tryz.f55) Tryz.f55.ntmps Tryz.f55.results.toList := fnOk_of Tryz.func55 (by kernel_rfl)
  ⟨h, bodyOk_of Tryz.func55 (by kernel_rfl)⟩
noncomputable def fe56 : FE := ⟨LB Tryz.f56, Tryz.f56.ntmps, Tryz.f56.results.toList, fun _ => none, true⟩
theorem fo56 : FnOk cx 56 fe56.body fe56.N fe56.rs ∧ BodyOk cx 56 pF fe56.q :=
  have h : FnOk cx 56 (LB Tryz.f56) Tryz.f56.ntmps Tryz.f56.results.toList := fnOk_of Tryz.func56 (by kernel_rfl)
  ⟨h, bodyOk_of Tryz.func56 (by kernel_rfl)⟩
noncomputable def fe57 : FE := ⟨LB Tryz.f57, Tryz.f57.ntmps, Tryz.f57.results.toList, fun _ => none, true⟩
theorem fo57 : FnOk cx 57 fe57.body fe57.N fe57.rs ∧ BodyOk cx 57 pF fe57.q :=
  have h : FnOk cx 57 (LB Tryz.f57) Tryz.f57.ntmps Tryz.f57.results.toList := fnOk_of Tryz.func57 (by kernel_rfl)
  ⟨h, bodyOk_of Tryz.func57 (by kernel_rfl)⟩
noncomputable def fe58 : FE := ⟨LB Tryz.f58, Tryz.f58.ntmps, Tryz.f58.results.toList, fun _ => none, true⟩
theorem fo58 : FnOk cx 58 fe58.body fe58.N fe58.rs ∧ BodyOk cx 58 pF fe58.q :=
  have h : FnOk cx 58 (LB Tryz.f58) Tryz.f58.ntmps Tryz.f58.results.toList := fnOk_of Tryz.func58 (by kernel_rfl)
  ⟨h, bodyOk_of Tryz.func58 (by kernel_rfl)⟩
noncomputable def fe59 : FE := ⟨LB Tryz.f59, Tryz.f59.ntmps, Tryz.f59.results.toList, fun _ => none, true⟩
theorem fo59 : FnOk cx 59 fe59.body fe59.N fe59.rs ∧ BodyOk cx 59 pF fe59.q :=
  have h : FnOk cx 59 (LB Tryz.f59) Tryz.f59.ntmps Tryz.f59.results.toList := fnOk_of Tryz.func59 (by kernel_rfl)
  ⟨h, bodyOk_of Tryz.func59 (by kernel_rfl)⟩
noncomputable def fe60 : FE := ⟨LB Tryz.f60, Tryz.f60.ntmps, Tryz.f60.results.toList, fun _ => none, true⟩
theorem fo60 : FnOk cx 60 fe60.body fe60.N fe60.rs ∧ BodyOk cx 60 pF fe60.q :=
  have h : FnOk cx 60 (LB Tryz.f60) Tryz.f60.ntmps Tryz.f60.results.toList := fnOk_of Tryz.func60 (by kernel_rfl)
  ⟨h, bodyOk_of Tryz.func60 (by kernel_rfl)⟩
noncomputable def fe61 : FE := ⟨LB Tryz.f61, Tryz.f61.ntmps, Tryz.f61.results.toList, fun _ => none, true⟩
theorem fo61 : FnOk cx 61 fe61.body fe61.N fe61.rs ∧ BodyOk cx 61 pF fe61.q :=
  have h : FnOk cx 61 (LB Tryz.f61) Tryz.f61.ntmps Tryz.f61.results.toList := fnOk_of Tryz.func61 (by kernel_rfl)
  ⟨h, bodyOk_of Tryz.func61 (by kernel_rfl)⟩
noncomputable def fe62 : FE := ⟨LB Tryz.f62, Tryz.f62.ntmps, Tryz.f62.results.toList, fun _ => none, true⟩
theorem fo62 : FnOk cx 62 fe62.body fe62.N fe62.rs ∧ BodyOk cx 62 pF fe62.q :=
  have h : FnOk cx 62 (LB Tryz.f62) Tryz.f62.ntmps Tryz.f62.results.toList := fnOk_of Tryz.func62 (by kernel_rfl)
  ⟨h, bodyOk_of Tryz.func62 (by kernel_rfl)⟩
noncomputable def fe63 : FE := ⟨LB Tryz.f63, Tryz.f63.ntmps, Tryz.f63.results.toList, fun _ => none, false⟩
theorem fo63 : FnOk cx 63 fe63.body fe63.N fe63.rs ∧ BodyOk cx 63 pF fe63.q :=
  have h : FnOk cx 63 (LB Tryz.f63) Tryz.f63.ntmps Tryz.f63.results.toList := fnOk_of Tryz.func63 (by kernel_rfl)
  ⟨h, bodyOk_of Tryz.func63 (by kernel_rfl)⟩
noncomputable def fe64 : FE := ⟨LB Tryz.f64, Tryz.f64.ntmps, Tryz.f64.results.toList, fun _ => none, false⟩
theorem fo64 : FnOk cx 64 fe64.body fe64.N fe64.rs ∧ BodyOk cx 64 pF fe64.q :=
  have h : FnOk cx 64 (LB Tryz.f64) Tryz.f64.ntmps Tryz.f64.results.toList := fnOk_of Tryz.func64 (by kernel_rfl)
  ⟨h, bodyOk_of Tryz.func64 (by kernel_rfl)⟩
noncomputable def fe65 : FE := ⟨LB Tryz.f65, Tryz.f65.ntmps, Tryz.f65.results.toList, fun _ => none, true⟩
theorem fo65 : FnOk cx 65 fe65.body fe65.N fe65.rs ∧ BodyOk cx 65 pF fe65.q :=
  have h : FnOk cx 65 (LB Tryz.f65) Tryz.f65.ntmps Tryz.f65.results.toList := fnOk_of Tryz.func65 (by kernel_rfl)
  ⟨h, bodyOk_of Tryz.func65 (by kernel_rfl)⟩
noncomputable def fe66 : FE := ⟨LB Tryz.f66, Tryz.f66.ntmps, Tryz.f66.results.toList, fun _ => none, true⟩
theorem fo66 : FnOk cx 66 fe66.body fe66.N fe66.rs ∧ BodyOk cx 66 pF fe66.q :=
  have h : FnOk cx 66 (LB Tryz.f66) Tryz.f66.ntmps Tryz.f66.results.toList := fnOk_of Tryz.func66 (by kernel_rfl)
  ⟨h, bodyOk_of Tryz.func66 (by kernel_rfl)⟩
noncomputable def fe69 : FE := ⟨LB Tryz.f69, Tryz.f69.ntmps, Tryz.f69.results.toList, fun _ => none, true⟩
theorem fo69 : FnOk cx 69 fe69.body fe69.N fe69.rs ∧ BodyOk cx 69 pF fe69.q :=
  have h : FnOk cx 69 (LB Tryz.f69) Tryz.f69.ntmps Tryz.f69.results.toList := fnOk_of Tryz.func69 (by kernel_rfl)
  ⟨h, bodyOk_of Tryz.func69 (by kernel_rfl)⟩
noncomputable def fe70 : FE := ⟨LB Tryz.f70, Tryz.f70.ntmps, Tryz.f70.results.toList, fun _ => none, true⟩
theorem fo70 : FnOk cx 70 fe70.body fe70.N fe70.rs ∧ BodyOk cx 70 pF fe70.q :=
  have h : FnOk cx 70 (LB Tryz.f70) Tryz.f70.ntmps Tryz.f70.results.toList := fnOk_of Tryz.func70 (by kernel_rfl)
  ⟨h, bodyOk_of Tryz.func70 (by kernel_rfl)⟩
noncomputable def fe71 : FE := ⟨LB Tryz.f71, Tryz.f71.ntmps, Tryz.f71.results.toList, fun _ => none, false⟩
theorem fo71 : FnOk cx 71 fe71.body fe71.N fe71.rs ∧ BodyOk cx 71 pF fe71.q :=
  have h : FnOk cx 71 (LB Tryz.f71) Tryz.f71.ntmps Tryz.f71.results.toList := fnOk_of Tryz.func71 (by kernel_rfl)
  ⟨h, bodyOk_of Tryz.func71 (by kernel_rfl)⟩
noncomputable def fe72 : FE := ⟨LB Tryz.f72, Tryz.f72.ntmps, Tryz.f72.results.toList, fun _ => none, false⟩
theorem fo72 : FnOk cx 72 fe72.body fe72.N fe72.rs ∧ BodyOk cx 72 pF fe72.q :=
  have h : FnOk cx 72 (LB Tryz.f72) Tryz.f72.ntmps Tryz.f72.results.toList := fnOk_of Tryz.func72 (by kernel_rfl)
  ⟨h, bodyOk_of Tryz.func72 (by kernel_rfl)⟩
noncomputable def fe79 : FE := ⟨LB Tryz.f79, Tryz.f79.ntmps, Tryz.f79.results.toList, fun _ => none, true⟩
theorem fo79 : FnOk cx 79 fe79.body fe79.N fe79.rs ∧ BodyOk cx 79 pF fe79.q :=
  have h : FnOk cx 79 (LB Tryz.f79) Tryz.f79.ntmps Tryz.f79.results.toList := fnOk_of Tryz.func79 (by kernel_rfl)
  ⟨h, bodyOk_of Tryz.func79 (by kernel_rfl)⟩
noncomputable def fe80 : FE := ⟨LB Tryz.f80, Tryz.f80.ntmps, Tryz.f80.results.toList, fun _ => none, true⟩
theorem fo80 : FnOk cx 80 fe80.body fe80.N fe80.rs ∧ BodyOk cx 80 pF fe80.q :=
  have h : FnOk cx 80 (LB Tryz.f80) Tryz.f80.ntmps Tryz.f80.results.toList := fnOk_of Tryz.func80 (by kernel_rfl)
  ⟨h, bodyOk_of Tryz.func80 (by kernel_rfl)⟩
noncomputable def fe81 : FE := ⟨LB Tryz.f81, Tryz.f81.ntmps, Tryz.f81.results.toList, fun _ => none, false⟩
theorem fo81 : FnOk cx 81 fe81.body fe81.N fe81.rs ∧ BodyOk cx 81 pF fe81.q :=
  have h : FnOk cx 81 (LB Tryz.f81) Tryz.f81.ntmps Tryz.f81.results.toList := fnOk_of Tryz.func81 (by kernel_rfl)
  ⟨h, bodyOk_of Tryz.func81 (by kernel_rfl)⟩
noncomputable def fe82 : FE := ⟨LB Tryz.f82, Tryz.f82.ntmps, Tryz.f82.results.toList, fun _ => none, true⟩
theorem fo82 : FnOk cx 82 fe82.body fe82.N fe82.rs ∧ BodyOk cx 82 pF fe82.q :=
  have h : FnOk cx 82 (LB Tryz.f82) Tryz.f82.ntmps Tryz.f82.results.toList := fnOk_of Tryz.func82 (by kernel_rfl)
  ⟨h, bodyOk_of Tryz.func82 (by kernel_rfl)⟩
noncomputable def fe83 : FE := ⟨LB Tryz.f83, Tryz.f83.ntmps, Tryz.f83.results.toList, fun _ => none, true⟩
theorem fo83 : FnOk cx 83 fe83.body fe83.N fe83.rs ∧ BodyOk cx 83 pF fe83.q :=
  have h : FnOk cx 83 (LB Tryz.f83) Tryz.f83.ntmps Tryz.f83.results.toList := fnOk_of Tryz.func83 (by kernel_rfl)
  ⟨h, bodyOk_of Tryz.func83 (by kernel_rfl)⟩
noncomputable def fe85 : FE := ⟨LB Tryz.f85, Tryz.f85.ntmps, Tryz.f85.results.toList, fun _ => none, true⟩
theorem fo85 : FnOk cx 85 fe85.body fe85.N fe85.rs ∧ BodyOk cx 85 pF fe85.q :=
  have h : FnOk cx 85 (LB Tryz.f85) Tryz.f85.ntmps Tryz.f85.results.toList := fnOk_of Tryz.func85 (by kernel_rfl)
  ⟨h, bodyOk_of Tryz.func85 (by kernel_rfl)⟩
noncomputable def fe86 : FE := ⟨LB Tryz.f86, Tryz.f86.ntmps, Tryz.f86.results.toList, fun _ => none, true⟩
theorem fo86 : FnOk cx 86 fe86.body fe86.N fe86.rs ∧ BodyOk cx 86 pF fe86.q :=
  have h : FnOk cx 86 (LB Tryz.f86) Tryz.f86.ntmps Tryz.f86.results.toList := fnOk_of Tryz.func86 (by kernel_rfl)
  ⟨h, bodyOk_of Tryz.func86 (by kernel_rfl)⟩
noncomputable def fe87 : FE := ⟨LB Tryz.f87, Tryz.f87.ntmps, Tryz.f87.results.toList, fun _ => none, true⟩
theorem fo87 : FnOk cx 87 fe87.body fe87.N fe87.rs ∧ BodyOk cx 87 pF fe87.q :=
  have h : FnOk cx 87 (LB Tryz.f87) Tryz.f87.ntmps Tryz.f87.results.toList := fnOk_of Tryz.func87 (by kernel_rfl)
  ⟨h, bodyOk_of Tryz.func87 (by kernel_rfl)⟩
noncomputable def fe88 : FE := ⟨LB Tryz.f88, Tryz.f88.ntmps, Tryz.f88.results.toList, fun _ => none, true⟩
theorem fo88 : FnOk cx 88 fe88.body fe88.N fe88.rs ∧ BodyOk cx 88 pF fe88.q :=
  have h : FnOk cx 88 (LB Tryz.f88) Tryz.f88.ntmps Tryz.f88.results.toList := fnOk_of Tryz.func88 (by kernel_rfl)
  ⟨h, bodyOk_of Tryz.func88 (by kernel_rfl)⟩
noncomputable def fe89 : FE := ⟨LB Tryz.f89, Tryz.f89.ntmps, Tryz.f89.results.toList, fun _ => none, true⟩
theorem fo89 : FnOk cx 89 fe89.body fe89.N fe89.rs ∧ BodyOk cx 89 pF fe89.q :=
  have h : FnOk cx 89 (LB Tryz.f89) Tryz.f89.ntmps Tryz.f89.results.toList := fnOk_of Tryz.func89 (by kernel_rfl)
  ⟨h, bodyOk_of Tryz.func89 (by kernel_rfl)⟩
noncomputable def fe90 : FE := ⟨LB Tryz.f90, Tryz.f90.ntmps, Tryz.f90.results.toList, fun i => bif Nat.beq i 2 then some [(some 18, some 16)] else none, false⟩
theorem fo90 : FnOk cx 90 fe90.body fe90.N fe90.rs ∧ BodyOk cx 90 pF fe90.q :=
  have h : FnOk cx 90 (LB Tryz.f90) Tryz.f90.ntmps Tryz.f90.results.toList := fnOk_of Tryz.func90 (by kernel_rfl)
  ⟨h, bodyOk_of Tryz.func90 (by kernel_rfl)⟩
noncomputable def fe91 : FE := ⟨LB Tryz.f91, Tryz.f91.ntmps, Tryz.f91.results.toList, fun _ => none, true⟩
theorem fo91 : FnOk cx 91 fe91.body fe91.N fe91.rs ∧ BodyOk cx 91 pF fe91.q :=
  have h : FnOk cx 91 (LB Tryz.f91) Tryz.f91.ntmps Tryz.f91.results.toList := fnOk_of Tryz.func91 (by kernel_rfl)
  ⟨h, bodyOk_of Tryz.func91 (by kernel_rfl)⟩
noncomputable def fe92 : FE := ⟨LB Tryz.f92, Tryz.f92.ntmps, Tryz.f92.results.toList, fun _ => none, false⟩
theorem fo92 : FnOk cx 92 fe92.body fe92.N fe92.rs ∧ BodyOk cx 92 pF fe92.q :=
  have h : FnOk cx 92 (LB Tryz.f92) Tryz.f92.ntmps Tryz.f92.results.toList := fnOk_of Tryz.func92 (by kernel_rfl)
  ⟨h, bodyOk_of Tryz.func92 (by kernel_rfl)⟩
noncomputable def fe99 : FE := ⟨LB Tryz.f99, Tryz.f99.ntmps, Tryz.f99.results.toList, fun _ => none, false⟩
theorem fo99 : FnOk cx 99 fe99.body fe99.N fe99.rs ∧ BodyOk cx 99 pF fe99.q :=
  have h : FnOk cx 99 (LB Tryz.f99) Tryz.f99.ntmps Tryz.f99.results.toList := fnOk_of Tryz.func99 (by kernel_rfl)
  ⟨h, bodyOk_of Tryz.func99 (by kernel_rfl)⟩
noncomputable def fe100 : FE := ⟨LB Tryz.f100, Tryz.f100.ntmps, Tryz.f100.results.toList, fun _ => none, true⟩
theorem fo100 : FnOk cx 100 fe100.body fe100.N fe100.rs ∧ BodyOk cx 100 pF fe100.q :=
  have h : FnOk cx 100 (LB Tryz.f100) Tryz.f100.ntmps Tryz.f100.results.toList := fnOk_of Tryz.func100 (by kernel_rfl)
  ⟨h, bodyOk_of Tryz.func100 (by kernel_rfl)⟩
noncomputable def fe101 : FE := ⟨LB Tryz.f101, Tryz.f101.ntmps, Tryz.f101.results.toList, fun _ => none, false⟩
theorem fo101 : FnOk cx 101 fe101.body fe101.N fe101.rs ∧ BodyOk cx 101 pF fe101.q :=
  have h : FnOk cx 101 (LB Tryz.f101) Tryz.f101.ntmps Tryz.f101.results.toList := fnOk_of Tryz.func101 (by kernel_rfl)
  ⟨h, bodyOk_of Tryz.func101 (by kernel_rfl)⟩
noncomputable def fe102 : FE := ⟨LB Tryz.f102, Tryz.f102.ntmps, Tryz.f102.results.toList, fun _ => none, true⟩
theorem fo102 : FnOk cx 102 fe102.body fe102.N fe102.rs ∧ BodyOk cx 102 pF fe102.q :=
  have h : FnOk cx 102 (LB Tryz.f102) Tryz.f102.ntmps Tryz.f102.results.toList := fnOk_of Tryz.func102 (by kernel_rfl)
  ⟨h, bodyOk_of Tryz.func102 (by kernel_rfl)⟩
noncomputable def fe103 : FE := ⟨LB Tryz.f103, Tryz.f103.ntmps, Tryz.f103.results.toList, fun _ => none, true⟩
theorem fo103 : FnOk cx 103 fe103.body fe103.N fe103.rs ∧ BodyOk cx 103 pF fe103.q :=
  have h : FnOk cx 103 (LB Tryz.f103) Tryz.f103.ntmps Tryz.f103.results.toList := fnOk_of Tryz.func103 (by kernel_rfl)
  ⟨h, bodyOk_of Tryz.func103 (by kernel_rfl)⟩
noncomputable def fe104 : FE := ⟨LB Tryz.f104, Tryz.f104.ntmps, Tryz.f104.results.toList, fun _ => none, true⟩
theorem fo104 : FnOk cx 104 fe104.body fe104.N fe104.rs ∧ BodyOk cx 104 pF fe104.q :=
  have h : FnOk cx 104 (LB Tryz.f104) Tryz.f104.ntmps Tryz.f104.results.toList := fnOk_of Tryz.func104 (by kernel_rfl)
  ⟨h, bodyOk_of Tryz.func104 (by kernel_rfl)⟩
noncomputable def fe105 : FE := ⟨LB Tryz.f105, Tryz.f105.ntmps, Tryz.f105.results.toList, fun _ => none, false⟩
theorem fo105 : FnOk cx 105 fe105.body fe105.N fe105.rs ∧ BodyOk cx 105 pF fe105.q :=
  have h : FnOk cx 105 (LB Tryz.f105) Tryz.f105.ntmps Tryz.f105.results.toList := fnOk_of Tryz.func105 (by kernel_rfl)
  ⟨h, bodyOk_of Tryz.func105 (by kernel_rfl)⟩
noncomputable def fe106 : FE := ⟨LB Tryz.f106, Tryz.f106.ntmps, Tryz.f106.results.toList, fun _ => none, true⟩
theorem fo106 : FnOk cx 106 fe106.body fe106.N fe106.rs ∧ BodyOk cx 106 pF fe106.q :=
  have h : FnOk cx 106 (LB Tryz.f106) Tryz.f106.ntmps Tryz.f106.results.toList := fnOk_of Tryz.func106 (by kernel_rfl)
  ⟨h, bodyOk_of Tryz.func106 (by kernel_rfl)⟩
noncomputable def fe107 : FE := ⟨LB Tryz.f107, Tryz.f107.ntmps, Tryz.f107.results.toList, fun _ => none, true⟩
theorem fo107 : FnOk cx 107 fe107.body fe107.N fe107.rs ∧ BodyOk cx 107 pF fe107.q :=
  have h : FnOk cx 107 (LB Tryz.f107) Tryz.f107.ntmps Tryz.f107.results.toList := fnOk_of Tryz.func107 (by kernel_rfl)
  ⟨h, bodyOk_of Tryz.func107 (by kernel_rfl)⟩
noncomputable def fe108 : FE := ⟨LB Tryz.f108, Tryz.f108.ntmps, Tryz.f108.results.toList, fun _ => none, true⟩
theorem fo108 : FnOk cx 108 fe108.body fe108.N fe108.rs ∧ BodyOk cx 108 pF fe108.q :=
  have h : FnOk cx 108 (LB Tryz.f108) Tryz.f108.ntmps Tryz.f108.results.toList := fnOk_of Tryz.func108 (by kernel_rfl)
  ⟨h, bodyOk_of Tryz.func108 (by kernel_rfl)⟩
noncomputable def fe109 : FE := ⟨LB Tryz.f109, Tryz.f109.ntmps, Tryz.f109.results.toList, fun _ => none, false⟩
theorem fo109 : FnOk cx 109 fe109.body fe109.N fe109.rs ∧ BodyOk cx 109 pF fe109.q :=
  have h : FnOk cx 109 (LB Tryz.f109) Tryz.f109.ntmps Tryz.f109.results.toList := fnOk_of Tryz.func109 (by kernel_rfl)
  ⟨h, bodyOk_of Tryz.func109 (by kernel_rfl)⟩
noncomputable def fe110 : FE := ⟨LB Tryz.f110, Tryz.f110.ntmps, Tryz.f110.results.toList, fun _ => none, false⟩
theorem fo110 : FnOk cx 110 fe110.body fe110.N fe110.rs ∧ BodyOk cx 110 pF fe110.q :=
  have h : FnOk cx 110 (LB Tryz.f110) Tryz.f110.ntmps Tryz.f110.results.toList := fnOk_of Tryz.func110 (by kernel_rfl)
  ⟨h, bodyOk_of Tryz.func110 (by kernel_rfl)⟩
noncomputable def fe116 : FE := ⟨LB Tryz.f116, Tryz.f116.ntmps, Tryz.f116.results.toList, fun i => bif Nat.beq i 0 then some [(some 4, some 8)] else none, true⟩
theorem fo116 : FnOk cx 116 fe116.body fe116.N fe116.rs ∧ BodyOk cx 116 pF fe116.q :=
  have h : FnOk cx 116 (LB Tryz.f116) Tryz.f116.ntmps Tryz.f116.results.toList := fnOk_of Tryz.func116 (by kernel_rfl)
  ⟨h, bodyOk_of Tryz.func116 (by kernel_rfl)⟩
noncomputable def fe117 : FE := ⟨LB Tryz.f117, Tryz.f117.ntmps, Tryz.f117.results.toList, fun _ => none, true⟩
theorem fo117 : FnOk cx 117 fe117.body fe117.N fe117.rs ∧ BodyOk cx 117 pF fe117.q :=
  have h : FnOk cx 117 (LB Tryz.f117) Tryz.f117.ntmps Tryz.f117.results.toList := fnOk_of Tryz.func117 (by kernel_rfl)
  ⟨h, bodyOk_of Tryz.func117 (by kernel_rfl)⟩
noncomputable def fe118 : FE := ⟨LB Tryz.f118, Tryz.f118.ntmps, Tryz.f118.results.toList, fun _ => none, true⟩
theorem fo118 : FnOk cx 118 fe118.body fe118.N fe118.rs ∧ BodyOk cx 118 pF fe118.q :=
  have h : FnOk cx 118 (LB Tryz.f118) Tryz.f118.ntmps Tryz.f118.results.toList := fnOk_of Tryz.func118 (by kernel_rfl)
  ⟨h, bodyOk_of Tryz.func118 (by kernel_rfl)⟩
noncomputable def fe119 : FE := ⟨LB Tryz.f119, Tryz.f119.ntmps, Tryz.f119.results.toList, fun _ => none, true⟩
theorem fo119 : FnOk cx 119 fe119.body fe119.N fe119.rs ∧ BodyOk cx 119 pF fe119.q :=
  have h : FnOk cx 119 (LB Tryz.f119) Tryz.f119.ntmps Tryz.f119.results.toList := fnOk_of Tryz.func119 (by kernel_rfl)
  ⟨h, bodyOk_of Tryz.func119 (by kernel_rfl)⟩
noncomputable def fe120 : FE := ⟨LB Tryz.f120, Tryz.f120.ntmps, Tryz.f120.results.toList, fun _ => none, true⟩
theorem fo120 : FnOk cx 120 fe120.body fe120.N fe120.rs ∧ BodyOk cx 120 pF fe120.q :=
  have h : FnOk cx 120 (LB Tryz.f120) Tryz.f120.ntmps Tryz.f120.results.toList := fnOk_of Tryz.func120 (by kernel_rfl)
  ⟨h, bodyOk_of Tryz.func120 (by kernel_rfl)⟩
noncomputable def fe121 : FE := ⟨LB Tryz.f121, Tryz.f121.ntmps, Tryz.f121.results.toList, fun _ => none, true⟩
theorem fo121 : FnOk cx 121 fe121.body fe121.N fe121.rs ∧ BodyOk cx 121 pF fe121.q :=
  have h : FnOk cx 121 (LB Tryz.f121) Tryz.f121.ntmps Tryz.f121.results.toList := fnOk_of Tryz.func121 (by kernel_rfl)
  ⟨h, bodyOk_of Tryz.func121 (by kernel_rfl)⟩
noncomputable def fe122 : FE := ⟨LB Tryz.f122, Tryz.f122.ntmps, Tryz.f122.results.toList, fun _ => none, true⟩
theorem fo122 : FnOk cx 122 fe122.body fe122.N fe122.rs ∧ BodyOk cx 122 pF fe122.q :=
  have h : FnOk cx 122 (LB Tryz.f122) Tryz.f122.ntmps Tryz.f122.results.toList := fnOk_of Tryz.func122 (by kernel_rfl)
  ⟨h, bodyOk_of Tryz.func122 (by kernel_rfl)⟩
noncomputable def fe123 : FE := ⟨LB Tryz.f123, Tryz.f123.ntmps, Tryz.f123.results.toList, fun _ => none, true⟩
theorem fo123 : FnOk cx 123 fe123.body fe123.N fe123.rs ∧ BodyOk cx 123 pF fe123.q :=
  have h : FnOk cx 123 (LB Tryz.f123) Tryz.f123.ntmps Tryz.f123.results.toList := fnOk_of Tryz.func123 (by kernel_rfl)
  ⟨h, bodyOk_of Tryz.func123 (by kernel_rfl)⟩
noncomputable def fe124 : FE := ⟨LB Tryz.f124, Tryz.f124.ntmps, Tryz.f124.results.toList, fun _ => none, true⟩
theorem fo124 : FnOk cx 124 fe124.body fe124.N fe124.rs ∧ BodyOk cx 124 pF fe124.q :=
  have h : FnOk cx 124 (LB Tryz.f124) Tryz.f124.ntmps Tryz.f124.results.toList := fnOk_of Tryz.func124 (by kernel_rfl)
  ⟨h, bodyOk_of Tryz.func124 (by kernel_rfl)⟩
noncomputable def fe125 : FE := ⟨LB Tryz.f125, Tryz.f125.ntmps, Tryz.f125.results.toList, fun _ => none, true⟩
theorem fo125 : FnOk cx 125 fe125.body fe125.N fe125.rs ∧ BodyOk cx 125 pF fe125.q :=
  have h : FnOk cx 125 (LB Tryz.f125) Tryz.f125.ntmps Tryz.f125.results.toList := fnOk_of Tryz.func125 (by kernel_rfl)
  ⟨h, bodyOk_of Tryz.func125 (by kernel_rfl)⟩
noncomputable def fe126 : FE := ⟨LB Tryz.f126, Tryz.f126.ntmps, Tryz.f126.results.toList, fun _ => none, true⟩
theorem fo126 : FnOk cx 126 fe126.body fe126.N fe126.rs ∧ BodyOk cx 126 pF fe126.q :=
  have h : FnOk cx 126 (LB Tryz.f126) Tryz.f126.ntmps Tryz.f126.results.toList := fnOk_of Tryz.func126 (by kernel_rfl)
  ⟨h, bodyOk_of Tryz.func126 (by kernel_rfl)⟩
noncomputable def fe127 : FE := ⟨LB Tryz.f127, Tryz.f127.ntmps, Tryz.f127.results.toList, fun _ => none, true⟩
theorem fo127 : FnOk cx 127 fe127.body fe127.N fe127.rs ∧ BodyOk cx 127 pF fe127.q :=
  have h : FnOk cx 127 (LB Tryz.f127) Tryz.f127.ntmps Tryz.f127.results.toList := fnOk_of Tryz.func127 (by kernel_rfl)
  ⟨h, bodyOk_of Tryz.func127 (by kernel_rfl)⟩
noncomputable def fe128 : FE := ⟨LB Tryz.f128, Tryz.f128.ntmps, Tryz.f128.results.toList, fun _ => none, false⟩
theorem fo128 : FnOk cx 128 fe128.body fe128.N fe128.rs ∧ BodyOk cx 128 pF fe128.q :=
  have h : FnOk cx 128 (LB Tryz.f128) Tryz.f128.ntmps Tryz.f128.results.toList := fnOk_of Tryz.func128 (by kernel_rfl)
  ⟨h, bodyOk_of Tryz.func128 (by kernel_rfl)⟩
noncomputable def fe129 : FE := ⟨LB Tryz.f129, Tryz.f129.ntmps, Tryz.f129.results.toList, fun i => bif Nat.beq i 8 then some [(some 23, none)] else none, true⟩
theorem fo129 : FnOk cx 129 fe129.body fe129.N fe129.rs ∧ BodyOk cx 129 pF fe129.q :=
  have h : FnOk cx 129 (LB Tryz.f129) Tryz.f129.ntmps Tryz.f129.results.toList := fnOk_of Tryz.func129 (by kernel_rfl)
  ⟨h, bodyOk_of Tryz.func129 (by kernel_rfl)⟩
noncomputable def fe130 : FE := ⟨LB Tryz.f130, Tryz.f130.ntmps, Tryz.f130.results.toList, fun _ => none, true⟩
theorem fo130 : FnOk cx 130 fe130.body fe130.N fe130.rs ∧ BodyOk cx 130 pF fe130.q :=
  have h : FnOk cx 130 (LB Tryz.f130) Tryz.f130.ntmps Tryz.f130.results.toList := fnOk_of Tryz.func130 (by kernel_rfl)
  ⟨h, bodyOk_of Tryz.func130 (by kernel_rfl)⟩
noncomputable def fe131 : FE := ⟨LB Tryz.f131, Tryz.f131.ntmps, Tryz.f131.results.toList, fun i => bif Nat.beq i 13 then some [(some 64, some 68), (some 76, some 68), (some 64, some 81), (some 76, some 81)] else bif Nat.beq i 18 then some [(some 123, some 110), (some 127, some 110)] else none, true⟩
theorem fo131 : FnOk cx 131 fe131.body fe131.N fe131.rs ∧ BodyOk cx 131 pF fe131.q :=
  have h : FnOk cx 131 (LB Tryz.f131) Tryz.f131.ntmps Tryz.f131.results.toList := fnOk_of Tryz.func131 (by kernel_rfl)
  ⟨h, bodyOk_of Tryz.func131 (by kernel_rfl)⟩
noncomputable def fe132 : FE := ⟨LB Tryz.f132, Tryz.f132.ntmps, Tryz.f132.results.toList, fun _ => none, false⟩
theorem fo132 : FnOk cx 132 fe132.body fe132.N fe132.rs ∧ BodyOk cx 132 pF fe132.q :=
  have h : FnOk cx 132 (LB Tryz.f132) Tryz.f132.ntmps Tryz.f132.results.toList := fnOk_of Tryz.func132 (by kernel_rfl)
  ⟨h, bodyOk_of Tryz.func132 (by kernel_rfl)⟩
noncomputable def fe133 : FE := ⟨LB Tryz.f133, Tryz.f133.ntmps, Tryz.f133.results.toList, fun _ => none, false⟩
theorem fo133 : FnOk cx 133 fe133.body fe133.N fe133.rs ∧ BodyOk cx 133 pF fe133.q :=
  have h : FnOk cx 133 (LB Tryz.f133) Tryz.f133.ntmps Tryz.f133.results.toList := fnOk_of Tryz.func133 (by kernel_rfl)
  ⟨h, bodyOk_of Tryz.func133 (by kernel_rfl)⟩
noncomputable def fe134 : FE := ⟨LB Tryz.f134, Tryz.f134.ntmps, Tryz.f134.results.toList, fun _ => none, false⟩
theorem fo134 : FnOk cx 134 fe134.body fe134.N fe134.rs ∧ BodyOk cx 134 pF fe134.q :=
  have h : FnOk cx 134 (LB Tryz.f134) Tryz.f134.ntmps Tryz.f134.results.toList := fnOk_of Tryz.func134 (by kernel_rfl)
  ⟨h, bodyOk_of Tryz.func134 (by kernel_rfl)⟩
noncomputable def fe139 : FE := ⟨LB Tryz.f139, Tryz.f139.ntmps, Tryz.f139.results.toList, fun _ => none, true⟩
theorem fo139 : FnOk cx 139 fe139.body fe139.N fe139.rs ∧ BodyOk cx 139 pF fe139.q :=
  have h : FnOk cx 139 (LB Tryz.f139) Tryz.f139.ntmps Tryz.f139.results.toList := fnOk_of Tryz.func139 (by kernel_rfl)
  ⟨h, bodyOk_of Tryz.func139 (by kernel_rfl)⟩
noncomputable def fe140 : FE := ⟨LB Tryz.f140, Tryz.f140.ntmps, Tryz.f140.results.toList, fun _ => none, true⟩
theorem fo140 : FnOk cx 140 fe140.body fe140.N fe140.rs ∧ BodyOk cx 140 pF fe140.q :=
  have h : FnOk cx 140 (LB Tryz.f140) Tryz.f140.ntmps Tryz.f140.results.toList := fnOk_of Tryz.func140 (by kernel_rfl)
  ⟨h, bodyOk_of Tryz.func140 (by kernel_rfl)⟩
noncomputable def fe141 : FE := ⟨LB Tryz.f141, Tryz.f141.ntmps, Tryz.f141.results.toList, fun _ => none, true⟩
theorem fo141 : FnOk cx 141 fe141.body fe141.N fe141.rs ∧ BodyOk cx 141 pF fe141.q :=
  have h : FnOk cx 141 (LB Tryz.f141) Tryz.f141.ntmps Tryz.f141.results.toList := fnOk_of Tryz.func141 (by kernel_rfl)
  ⟨h, bodyOk_of Tryz.func141 (by kernel_rfl)⟩
noncomputable def fe142 : FE := ⟨LB Tryz.f142, Tryz.f142.ntmps, Tryz.f142.results.toList, fun _ => none, true⟩
theorem fo142 : FnOk cx 142 fe142.body fe142.N fe142.rs ∧ BodyOk cx 142 pF fe142.q :=
  have h : FnOk cx 142 (LB Tryz.f142) Tryz.f142.ntmps Tryz.f142.results.toList := fnOk_of Tryz.func142 (by kernel_rfl)
  ⟨h, bodyOk_of Tryz.func142 (by kernel_rfl)⟩
noncomputable def fe143 : FE := ⟨LB Tryz.f143, Tryz.f143.ntmps, Tryz.f143.results.toList, fun _ => none, true⟩
theorem fo143 : FnOk cx 143 fe143.body fe143.N fe143.rs ∧ BodyOk cx 143 pF fe143.q :=
  have h : FnOk cx 143 (LB Tryz.f143) Tryz.f143.ntmps Tryz.f143.results.toList := fnOk_of Tryz.func143 (by kernel_rfl)
  ⟨h, bodyOk_of Tryz.func143 (by kernel_rfl)⟩
noncomputable def fe144 : FE := ⟨LB Tryz.f144, Tryz.f144.ntmps, Tryz.f144.results.toList, fun _ => none, true⟩
theorem fo144 : FnOk cx 144 fe144.body fe144.N fe144.rs ∧ BodyOk cx 144 pF fe144.q :=
  have h : FnOk cx 144 (LB Tryz.f144) Tryz.f144.ntmps Tryz.f144.results.toList := fnOk_of Tryz.func144 (by kernel_rfl)
  ⟨h, bodyOk_of Tryz.func144 (by kernel_rfl)⟩
noncomputable def fe145 : FE := ⟨LB Tryz.f145, Tryz.f145.ntmps, Tryz.f145.results.toList, fun _ => none, false⟩
theorem fo145 : FnOk cx 145 fe145.body fe145.N fe145.rs ∧ BodyOk cx 145 pF fe145.q :=
  have h : FnOk cx 145 (LB Tryz.f145) Tryz.f145.ntmps Tryz.f145.results.toList := fnOk_of Tryz.func145 (by kernel_rfl)
  ⟨h, bodyOk_of Tryz.func145 (by kernel_rfl)⟩
noncomputable def fe146 : FE := ⟨LB Tryz.f146, Tryz.f146.ntmps, Tryz.f146.results.toList, fun _ => none, true⟩
theorem fo146 : FnOk cx 146 fe146.body fe146.N fe146.rs ∧ BodyOk cx 146 pF fe146.q :=
  have h : FnOk cx 146 (LB Tryz.f146) Tryz.f146.ntmps Tryz.f146.results.toList := fnOk_of Tryz.func146 (by kernel_rfl)
  ⟨h, bodyOk_of Tryz.func146 (by kernel_rfl)⟩
noncomputable def fe147 : FE := ⟨LB Tryz.f147, Tryz.f147.ntmps, Tryz.f147.results.toList, fun _ => none, true⟩
theorem fo147 : FnOk cx 147 fe147.body fe147.N fe147.rs ∧ BodyOk cx 147 pF fe147.q :=
  have h : FnOk cx 147 (LB Tryz.f147) Tryz.f147.ntmps Tryz.f147.results.toList := fnOk_of Tryz.func147 (by kernel_rfl)
  ⟨h, bodyOk_of Tryz.func147 (by kernel_rfl)⟩
noncomputable def fe148 : FE := ⟨LB Tryz.f148, Tryz.f148.ntmps, Tryz.f148.results.toList, fun _ => none, true⟩
theorem fo148 : FnOk cx 148 fe148.body fe148.N fe148.rs ∧ BodyOk cx 148 pF fe148.q :=
  have h : FnOk cx 148 (LB Tryz.f148) Tryz.f148.ntmps Tryz.f148.results.toList := fnOk_of Tryz.func148 (by kernel_rfl)
  ⟨h, bodyOk_of Tryz.func148 (by kernel_rfl)⟩
noncomputable def fe149 : FE := ⟨LB Tryz.f149, Tryz.f149.ntmps, Tryz.f149.results.toList, fun _ => none, true⟩
theorem fo149 : FnOk cx 149 fe149.body fe149.N fe149.rs ∧ BodyOk cx 149 pF fe149.q :=
  have h : FnOk cx 149 (LB Tryz.f149) Tryz.f149.ntmps Tryz.f149.results.toList := fnOk_of Tryz.func149 (by kernel_rfl)
  ⟨h, bodyOk_of Tryz.func149 (by kernel_rfl)⟩
noncomputable def fe150 : FE := ⟨LB Tryz.f150, Tryz.f150.ntmps, Tryz.f150.results.toList, fun _ => none, true⟩
theorem fo150 : FnOk cx 150 fe150.body fe150.N fe150.rs ∧ BodyOk cx 150 pF fe150.q :=
  have h : FnOk cx 150 (LB Tryz.f150) Tryz.f150.ntmps Tryz.f150.results.toList := fnOk_of Tryz.func150 (by kernel_rfl)
  ⟨h, bodyOk_of Tryz.func150 (by kernel_rfl)⟩
noncomputable def fe151 : FE := ⟨LB Tryz.f151, Tryz.f151.ntmps, Tryz.f151.results.toList, fun _ => none, true⟩
theorem fo151 : FnOk cx 151 fe151.body fe151.N fe151.rs ∧ BodyOk cx 151 pF fe151.q :=
  have h : FnOk cx 151 (LB Tryz.f151) Tryz.f151.ntmps Tryz.f151.results.toList := fnOk_of Tryz.func151 (by kernel_rfl)
  ⟨h, bodyOk_of Tryz.func151 (by kernel_rfl)⟩
noncomputable def fe153 : FE := ⟨LB Tryz.f153, Tryz.f153.ntmps, Tryz.f153.results.toList, fun _ => none, true⟩
theorem fo153 : FnOk cx 153 fe153.body fe153.N fe153.rs ∧ BodyOk cx 153 pF fe153.q :=
  have h : FnOk cx 153 (LB Tryz.f153) Tryz.f153.ntmps Tryz.f153.results.toList := fnOk_of Tryz.func153 (by kernel_rfl)
  ⟨h, bodyOk_of Tryz.func153 (by kernel_rfl)⟩
noncomputable def fe154 : FE := ⟨LB Tryz.f154, Tryz.f154.ntmps, Tryz.f154.results.toList, fun _ => none, true⟩
theorem fo154 : FnOk cx 154 fe154.body fe154.N fe154.rs ∧ BodyOk cx 154 pF fe154.q :=
  have h : FnOk cx 154 (LB Tryz.f154) Tryz.f154.ntmps Tryz.f154.results.toList := fnOk_of Tryz.func154 (by kernel_rfl)
  ⟨h, bodyOk_of Tryz.func154 (by kernel_rfl)⟩
noncomputable def fe155 : FE := ⟨LB Tryz.f155, Tryz.f155.ntmps, Tryz.f155.results.toList, fun _ => none, true⟩
theorem fo155 : FnOk cx 155 fe155.body fe155.N fe155.rs ∧ BodyOk cx 155 pF fe155.q :=
  have h : FnOk cx 155 (LB Tryz.f155) Tryz.f155.ntmps Tryz.f155.results.toList := fnOk_of Tryz.func155 (by kernel_rfl)
  ⟨h, bodyOk_of Tryz.func155 (by kernel_rfl)⟩
noncomputable def fe156 : FE := ⟨LB Tryz.f156, Tryz.f156.ntmps, Tryz.f156.results.toList, fun _ => none, true⟩
theorem fo156 : FnOk cx 156 fe156.body fe156.N fe156.rs ∧ BodyOk cx 156 pF fe156.q :=
  have h : FnOk cx 156 (LB Tryz.f156) Tryz.f156.ntmps Tryz.f156.results.toList := fnOk_of Tryz.func156 (by kernel_rfl)
  ⟨h, bodyOk_of Tryz.func156 (by kernel_rfl)⟩
noncomputable def fe157 : FE := ⟨LB Tryz.f157, Tryz.f157.ntmps, Tryz.f157.results.toList, fun _ => none, true⟩
theorem fo157 : FnOk cx 157 fe157.body fe157.N fe157.rs ∧ BodyOk cx 157 pF fe157.q :=
  have h : FnOk cx 157 (LB Tryz.f157) Tryz.f157.ntmps Tryz.f157.results.toList := fnOk_of Tryz.func157 (by kernel_rfl)
  ⟨h, bodyOk_of Tryz.func157 (by kernel_rfl)⟩
noncomputable def fe158 : FE := ⟨LB Tryz.f158, Tryz.f158.ntmps, Tryz.f158.results.toList, fun _ => none, true⟩
theorem fo158 : FnOk cx 158 fe158.body fe158.N fe158.rs ∧ BodyOk cx 158 pF fe158.q :=
  have h : FnOk cx 158 (LB Tryz.f158) Tryz.f158.ntmps Tryz.f158.results.toList := fnOk_of Tryz.func158 (by kernel_rfl)
  ⟨h, bodyOk_of Tryz.func158 (by kernel_rfl)⟩
noncomputable def fe159 : FE := ⟨LB Tryz.f159, Tryz.f159.ntmps, Tryz.f159.results.toList, fun _ => none, true⟩
theorem fo159 : FnOk cx 159 fe159.body fe159.N fe159.rs ∧ BodyOk cx 159 pF fe159.q :=
  have h : FnOk cx 159 (LB Tryz.f159) Tryz.f159.ntmps Tryz.f159.results.toList := fnOk_of Tryz.func159 (by kernel_rfl)
  ⟨h, bodyOk_of Tryz.func159 (by kernel_rfl)⟩
noncomputable def fe160 : FE := ⟨LB Tryz.f160, Tryz.f160.ntmps, Tryz.f160.results.toList, fun i => bif Nat.beq i 1 then some [(some 6, some 5)] else none, true⟩
theorem fo160 : FnOk cx 160 fe160.body fe160.N fe160.rs ∧ BodyOk cx 160 pF fe160.q :=
  have h : FnOk cx 160 (LB Tryz.f160) Tryz.f160.ntmps Tryz.f160.results.toList := fnOk_of Tryz.func160 (by kernel_rfl)
  ⟨h, bodyOk_of Tryz.func160 (by kernel_rfl)⟩
noncomputable def fe161 : FE := ⟨LB Tryz.f161, Tryz.f161.ntmps, Tryz.f161.results.toList, fun _ => none, true⟩
theorem fo161 : FnOk cx 161 fe161.body fe161.N fe161.rs ∧ BodyOk cx 161 pF fe161.q :=
  have h : FnOk cx 161 (LB Tryz.f161) Tryz.f161.ntmps Tryz.f161.results.toList := fnOk_of Tryz.func161 (by kernel_rfl)
  ⟨h, bodyOk_of Tryz.func161 (by kernel_rfl)⟩
noncomputable def fe162 : FE := ⟨LB Tryz.f162, Tryz.f162.ntmps, Tryz.f162.results.toList, fun _ => none, true⟩
theorem fo162 : FnOk cx 162 fe162.body fe162.N fe162.rs ∧ BodyOk cx 162 pF fe162.q :=
  have h : FnOk cx 162 (LB Tryz.f162) Tryz.f162.ntmps Tryz.f162.results.toList := fnOk_of Tryz.func162 (by kernel_rfl)
  ⟨h, bodyOk_of Tryz.func162 (by kernel_rfl)⟩
noncomputable def fe163 : FE := ⟨LB Tryz.f163, Tryz.f163.ntmps, Tryz.f163.results.toList, fun _ => none, true⟩
theorem fo163 : FnOk cx 163 fe163.body fe163.N fe163.rs ∧ BodyOk cx 163 pF fe163.q :=
  have h : FnOk cx 163 (LB Tryz.f163) Tryz.f163.ntmps Tryz.f163.results.toList := fnOk_of Tryz.func163 (by kernel_rfl)
  ⟨h, bodyOk_of Tryz.func163 (by kernel_rfl)⟩
noncomputable def fe165 : FE := ⟨LB Tryz.f165, Tryz.f165.ntmps, Tryz.f165.results.toList, fun _ => none, true⟩
theorem fo165 : FnOk cx 165 fe165.body fe165.N fe165.rs ∧ BodyOk cx 165 pF fe165.q :=
  have h : FnOk cx 165 (LB Tryz.f165) Tryz.f165.ntmps Tryz.f165.results.toList := fnOk_of Tryz.func165 (by kernel_rfl)
  ⟨h, bodyOk_of Tryz.func165 (by kernel_rfl)⟩
noncomputable def tab (f : FuncId) : Option FE := (bif Nat.blt f 91 then (bif Nat.blt f 53 then (bif Nat.blt f 24 then (bif Nat.blt f 17 then (bif Nat.blt f 9 then (bif Nat.blt f 7 then (bif Nat.blt f 5 then none else bif Nat.beq f 5 then some fe5 else none) else bif Nat.beq f 7 then some fe7 else (bif Nat.blt f 8 then none else bif Nat.beq f 8 then some fe8 else none)) else bif Nat.beq f 9 then some fe9 else (bif Nat.blt f 14 then (bif Nat.blt f 10 then none else bif Nat.beq f 10 then some fe10 else none) else bif Nat.beq f 14 then some fe14 else (bif Nat.blt f 16 then none else bif Nat.beq f 16 then some fe16 else none))) else bif Nat.beq f 17 then some fe17 else (bif Nat.blt f 21 then (bif Nat.blt f 19 then (bif Nat.blt f 18 then none else bif Nat.beq f 18 then some fe18 else none) else bif Nat.beq f 19 then some fe19 else (bif Nat.blt f 20 then none else bif Nat.beq f 20 then some fe20 else none)) else bif Nat.beq f 21 then some fe21 else (bif Nat.blt f 23 then (bif Nat.blt f 22 then none else bif Nat.beq f 22 then some fe22 else none) else bif Nat.beq f 23 then some fe23 else none))) else bif Nat.beq f 24 then some fe24 else (bif Nat.blt f 34 then (bif Nat.blt f 28 then (bif Nat.blt f 26 then (bif Nat.blt f 25 then none else bif Nat.beq f 25 then some fe25 else none) else bif Nat.beq f 26 then some fe26 else (bif Nat.blt f 27 then none else bif Nat.beq f 27 then some fe27 else none)) else bif Nat.beq f 28 then some fe28 else (bif Nat.blt f 33 then (bif Nat.blt f 32 then none else bif Nat.beq f 32 then some fe32 else none) else bif Nat.beq f 33 then some fe33 else none)) else bif Nat.beq f 34 then some fe34 else (bif Nat.blt f 38 then (bif Nat.blt f 36 then (bif Nat.blt f 35 then none else bif Nat.beq f 35 then some fe35 else none) else bif Nat.beq f 36 then some fe36 else (bif Nat.blt f 37 then none else bif Nat.beq f 37 then some fe37 else none)) else bif Nat.beq f 38 then some fe38 else (bif Nat.blt f 52 then (bif Nat.blt f 51 then none else bif Nat.beq f 51 then some fe51 else none) else bif Nat.beq f 52 then some fe52 else none)))) else bif Nat.beq f 53 then some fe53 else (bif Nat.blt f 70 then (bif Nat.blt f 61 then (bif Nat.blt f 57 then (bif Nat.blt f 55 then (bif Nat.blt f 54 then none else bif Nat.beq f 54 then some fe54 else none) else bif Nat.beq f 55 then some fe55 else (bif Nat.blt f 56 then none else bif Nat.beq f 56 then some fe56 else none)) else bif Nat.beq f 57 then some fe57 else (bif Nat.blt f 59 then (bif Nat.blt f 58 then none else bif Nat.beq f 58 then some fe58 else none) else bif Nat.beq f 59 then some fe59 else (bif Nat.blt f 60 then none else bif Nat.beq f 60 then some fe60 else none))) else bif Nat.beq f 61 then some fe61 else (bif Nat.blt f 65 then (bif Nat.blt f 63 then (bif Nat.blt f 62 then none else bif Nat.beq f 62 then some fe62 else none) else bif Nat.beq f 63 then some fe63 else (bif Nat.blt f 64 then none else bif Nat.beq f 64 then some fe64 else none)) else bif Nat.beq f 65 then some fe65 else (bif Nat.blt f 69 then (bif Nat.blt f 66 then none else bif Nat.beq f 66 then some fe66 else none) else bif Nat.beq f 69 then some fe69 else none))) else bif Nat.beq f 70 then some fe70 else (bif Nat.blt f 83 then (bif Nat.blt f 80 then (bif Nat.blt f 72 then (bif Nat.blt f 71 then none else bif Nat.beq f 71 then some fe71 else none) else bif Nat.beq f 72 then some fe72 else (bif Nat.blt f 79 then none else bif Nat.beq f 79 then some fe79 else none)) else bif Nat.beq f 80 then some fe80 else (bif Nat.blt f 82 then (bif Nat.blt f 81 then none else bif Nat.beq f 81 then some fe81 else none) else bif Nat.beq f 82 then some fe82 else none)) else bif Nat.beq f 83 then some fe83 else (bif Nat.blt f 88 then (bif Nat.blt f 86 then (bif Nat.blt f 85 then none else bif Nat.beq f 85 then some fe85 else none) else bif Nat.beq f 86 then some fe86 else (bif Nat.blt f 87 then none else bif Nat.beq f 87 then some fe87 else none)) else bif Nat.beq f 88 then some fe88 else (bif Nat.blt f 90 then (bif Nat.blt f 89 then none else bif Nat.beq f 89 then some fe89 else none) else bif Nat.beq f 90 then some fe90 else none))))) else bif Nat.beq f 91 then some fe91 else (bif Nat.blt f 131 then (bif Nat.blt f 117 then (bif Nat.blt f 105 then (bif Nat.blt f 101 then (bif Nat.blt f 99 then (bif Nat.blt f 92 then none else bif Nat.beq f 92 then some fe92 else none) else bif Nat.beq f 99 then some fe99 else (bif Nat.blt f 100 then none else bif Nat.beq f 100 then some fe100 else none)) else bif Nat.beq f 101 then some fe101 else (bif Nat.blt f 103 then (bif Nat.blt f 102 then none else bif Nat.beq f 102 then some fe102 else none) else bif Nat.beq f 103 then some fe103 else (bif Nat.blt f 104 then none else bif Nat.beq f 104 then some fe104 else none))) else bif Nat.beq f 105 then some fe105 else (bif Nat.blt f 109 then (bif Nat.blt f 107 then (bif Nat.blt f 106 then none else bif Nat.beq f 106 then some fe106 else none) else bif Nat.beq f 107 then some fe107 else (bif Nat.blt f 108 then none else bif Nat.beq f 108 then some fe108 else none)) else bif Nat.beq f 109 then some fe109 else (bif Nat.blt f 116 then (bif Nat.blt f 110 then none else bif Nat.beq f 110 then some fe110 else none) else bif Nat.beq f 116 then some fe116 else none))) else bif Nat.beq f 117 then some fe117 else (bif Nat.blt f 124 then (bif Nat.blt f 121 then (bif Nat.blt f 119 then (bif Nat.blt f 118 then none else bif Nat.beq f 118 then some fe118 else none) else bif Nat.beq f 119 then some fe119 else (bif Nat.blt f 120 then none else bif Nat.beq f 120 then some fe120 else none)) else bif Nat.beq f 121 then some fe121 else (bif Nat.blt f 123 then (bif Nat.blt f 122 then none else bif Nat.beq f 122 then some fe122 else none) else bif Nat.beq f 123 then some fe123 else none)) else bif Nat.beq f 124 then some fe124 else (bif Nat.blt f 128 then (bif Nat.blt f 126 then (bif Nat.blt f 125 then none else bif Nat.beq f 125 then some fe125 else none) else bif Nat.beq f 126 then some fe126 else (bif Nat.blt f 127 then none else bif Nat.beq f 127 then some fe127 else none)) else bif Nat.beq f 128 then some fe128 else (bif Nat.blt f 130 then (bif Nat.blt f 129 then none else bif Nat.beq f 129 then some fe129 else none) else bif Nat.beq f 130 then some fe130 else none)))) else bif Nat.beq f 131 then some fe131 else (bif Nat.blt f 150 then (bif Nat.blt f 143 then (bif Nat.blt f 139 then (bif Nat.blt f 133 then (bif Nat.blt f 132 then none else bif Nat.beq f 132 then some fe132 else none) else bif Nat.beq f 133 then some fe133 else (bif Nat.blt f 134 then none else bif Nat.beq f 134 then some fe134 else none)) else bif Nat.beq f 139 then some fe139 else (bif Nat.blt f 141 then (bif Nat.blt f 140 then none else bif Nat.beq f 140 then some fe140 else none) else bif Nat.beq f 141 then some fe141 else (bif Nat.blt f 142 then none else bif Nat.beq f 142 then some fe142 else none))) else bif Nat.beq f 143 then some fe143 else (bif Nat.blt f 147 then (bif Nat.blt f 145 then (bif Nat.blt f 144 then none else bif Nat.beq f 144 then some fe144 else none) else bif Nat.beq f 145 then some fe145 else (bif Nat.blt f 146 then none else bif Nat.beq f 146 then some fe146 else none)) else bif Nat.beq f 147 then some fe147 else (bif Nat.blt f 149 then (bif Nat.blt f 148 then none else bif Nat.beq f 148 then some fe148 else none) else bif Nat.beq f 149 then some fe149 else none))) else bif Nat.beq f 150 then some fe150 else (bif Nat.blt f 158 then (bif Nat.blt f 155 then (bif Nat.blt f 153 then (bif Nat.blt f 151 then none else bif Nat.beq f 151 then some fe151 else none) else bif Nat.beq f 153 then some fe153 else (bif Nat.blt f 154 then none else bif Nat.beq f 154 then some fe154 else none)) else bif Nat.beq f 155 then some fe155 else (bif Nat.blt f 157 then (bif Nat.blt f 156 then none else bif Nat.beq f 156 then some fe156 else none) else bif Nat.beq f 157 then some fe157 else none)) else bif Nat.beq f 158 then some fe158 else (bif Nat.blt f 162 then (bif Nat.blt f 160 then (bif Nat.blt f 159 then none else bif Nat.beq f 159 then some fe159 else none) else bif Nat.beq f 160 then some fe160 else (bif Nat.blt f 161 then none else bif Nat.beq f 161 then some fe161 else none)) else bif Nat.beq f 162 then some fe162 else (bif Nat.blt f 165 then (bif Nat.blt f 163 then none else bif Nat.beq f 163 then some fe163 else none) else bif Nat.beq f 165 then some fe165 else none))))))
theorem cond_some {α : Type} {b : Bool} {x y : Option α} {e : α} (h : (bif b then x else y) = some e) : (b = true ∧ x = some e) ∨ (b = false ∧ y = some e) := by cases b <;> simp_all
theorem tab_fn (f : FuncId) (e : FE) (h : tab f = some e) : FnOk cx f e.body e.N e.rs ∧ BodyOk cx f pF e.q := by
  unfold tab at h
  rcases cond_some h with ⟨c, h⟩ | ⟨c, h⟩
  · rcases cond_some h with ⟨c, h⟩ | ⟨c, h⟩
    · rcases cond_some h with ⟨c, h⟩ | ⟨c, h⟩
      · rcases cond_some h with ⟨c, h⟩ | ⟨c, h⟩
        · rcases cond_some h with ⟨c, h⟩ | ⟨c, h⟩
          · rcases cond_some h with ⟨c, h⟩ | ⟨c, h⟩
            · rcases cond_some h with ⟨c, h⟩ | ⟨c, h⟩
              · cases h
              · rcases cond_some h with ⟨d, h⟩ | ⟨d, h⟩
                · obtain rfl := nbeq d
                  injection h with h
                  subst h
                  exact fo5
                · cases h
            · rcases cond_some h with ⟨d, h⟩ | ⟨d, h⟩
              · obtain rfl := nbeq d
                injection h with h
                subst h
                exact fo7
              · rcases cond_some h with ⟨c, h⟩ | ⟨c, h⟩
                · cases h
                · rcases cond_some h with ⟨d, h⟩ | ⟨d, h⟩
                  · obtain rfl := nbeq d
                    injection h with h
                    subst h
                    exact fo8
                  · cases h
          · rcases cond_some h with ⟨d, h⟩ | ⟨d, h⟩
            · obtain rfl := nbeq d
              injection h with h
              subst h
              exact fo9
            · rcases cond_some h with ⟨c, h⟩ | ⟨c, h⟩
              · rcases cond_some h with ⟨c, h⟩ | ⟨c, h⟩
                · cases h
                · rcases cond_some h with ⟨d, h⟩ | ⟨d, h⟩
                  · obtain rfl := nbeq d
                    injection h with h
                    subst h
                    exact fo10
                  · cases h
              · rcases cond_some h with ⟨d, h⟩ | ⟨d, h⟩
                · obtain rfl := nbeq d
                  injection h with h
                  subst h
                  exact fo14
                · rcases cond_some h with ⟨c, h⟩ | ⟨c, h⟩
                  · cases h
                  · rcases cond_some h with ⟨d, h⟩ | ⟨d, h⟩
                    · obtain rfl := nbeq d
                      injection h with h
                      subst h
                      exact fo16
                    · cases h
        · rcases cond_some h with ⟨d, h⟩ | ⟨d, h⟩
          · obtain rfl := nbeq d
            injection h with h
            subst h
            exact fo17
          · rcases cond_some h with ⟨c, h⟩ | ⟨c, h⟩
            · rcases cond_some h with ⟨c, h⟩ | ⟨c, h⟩
              · rcases cond_some h with ⟨c, h⟩ | ⟨c, h⟩
                · cases h
                · rcases cond_some h with ⟨d, h⟩ | ⟨d, h⟩
                  · obtain rfl := nbeq d
                    injection h with h
                    subst h
                    exact fo18
                  · cases h
              · rcases cond_some h with ⟨d, h⟩ | ⟨d, h⟩
                · obtain rfl := nbeq d
                  injection h with h
                  subst h
                  exact fo19
                · rcases cond_some h with ⟨c, h⟩ | ⟨c, h⟩
                  · cases h
                  · rcases cond_some h with ⟨d, h⟩ | ⟨d, h⟩
                    · obtain rfl := nbeq d
                      injection h with h
                      subst h
                      exact fo20
                    · cases h
            · rcases cond_some h with ⟨d, h⟩ | ⟨d, h⟩
              · obtain rfl := nbeq d
                injection h with h
                subst h
                exact fo21
              · rcases cond_some h with ⟨c, h⟩ | ⟨c, h⟩
                · rcases cond_some h with ⟨c, h⟩ | ⟨c, h⟩
                  · cases h
                  · rcases cond_some h with ⟨d, h⟩ | ⟨d, h⟩
                    · obtain rfl := nbeq d
                      injection h with h
                      subst h
                      exact fo22
                    · cases h
                · rcases cond_some h with ⟨d, h⟩ | ⟨d, h⟩
                  · obtain rfl := nbeq d
                    injection h with h
                    subst h
                    exact fo23
                  · cases h
      · rcases cond_some h with ⟨d, h⟩ | ⟨d, h⟩
        · obtain rfl := nbeq d
          injection h with h
          subst h
          exact fo24
        · rcases cond_some h with ⟨c, h⟩ | ⟨c, h⟩
          · rcases cond_some h with ⟨c, h⟩ | ⟨c, h⟩
            · rcases cond_some h with ⟨c, h⟩ | ⟨c, h⟩
              · rcases cond_some h with ⟨c, h⟩ | ⟨c, h⟩
                · cases h
                · rcases cond_some h with ⟨d, h⟩ | ⟨d, h⟩
                  · obtain rfl := nbeq d
                    injection h with h
                    subst h
                    exact fo25
                  · cases h
              · rcases cond_some h with ⟨d, h⟩ | ⟨d, h⟩
                · obtain rfl := nbeq d
                  injection h with h
                  subst h
                  exact fo26
                · rcases cond_some h with ⟨c, h⟩ | ⟨c, h⟩
                  · cases h
                  · rcases cond_some h with ⟨d, h⟩ | ⟨d, h⟩
                    · obtain rfl := nbeq d
                      injection h with h
                      subst h
                      exact fo27
                    · cases h
            · rcases cond_some h with ⟨d, h⟩ | ⟨d, h⟩
              · obtain rfl := nbeq d
                injection h with h
                subst h
                exact fo28
              · rcases cond_some h with ⟨c, h⟩ | ⟨c, h⟩
                · rcases cond_some h with ⟨c, h⟩ | ⟨c, h⟩
                  · cases h
                  · rcases cond_some h with ⟨d, h⟩ | ⟨d, h⟩
                    · obtain rfl := nbeq d
                      injection h with h
                      subst h
                      exact fo32
                    · cases h
                · rcases cond_some h with ⟨d, h⟩ | ⟨d, h⟩
                  · obtain rfl := nbeq d
                    injection h with h
                    subst h
                    exact fo33
                  · cases h
          · rcases cond_some h with ⟨d, h⟩ | ⟨d, h⟩
            · obtain rfl := nbeq d
              injection h with h
              subst h
              exact fo34
            · rcases cond_some h with ⟨c, h⟩ | ⟨c, h⟩
              · rcases cond_some h with ⟨c, h⟩ | ⟨c, h⟩
                · rcases cond_some h with ⟨c, h⟩ | ⟨c, h⟩
                  · cases h
                  · rcases cond_some h with ⟨d, h⟩ | ⟨d, h⟩
                    · obtain rfl := nbeq d
                      injection h with h
                      subst h
                      exact fo35
                    · cases h
                · rcases cond_some h with ⟨d, h⟩ | ⟨d, h⟩
                  · obtain rfl := nbeq d
                    injection h with h
                    subst h
                    exact fo36
                  · rcases cond_some h with ⟨c, h⟩ | ⟨c, h⟩
                    · cases h
                    · rcases cond_some h with ⟨d, h⟩ | ⟨d, h⟩
                      · obtain rfl := nbeq d
                        injection h with h
                        subst h
                        exact fo37
                      · cases h
              · rcases cond_some h with ⟨d, h⟩ | ⟨d, h⟩
                · obtain rfl := nbeq d
                  injection h with h
                  subst h
                  exact fo38
                · rcases cond_some h with ⟨c, h⟩ | ⟨c, h⟩
                  · rcases cond_some h with ⟨c, h⟩ | ⟨c, h⟩
                    · cases h
                    · rcases cond_some h with ⟨d, h⟩ | ⟨d, h⟩
                      · obtain rfl := nbeq d
                        injection h with h
                        subst h
                        exact fo51
                      · cases h
                  · rcases cond_some h with ⟨d, h⟩ | ⟨d, h⟩
                    · obtain rfl := nbeq d
                      injection h with h
                      subst h
                      exact fo52
                    · cases h
    · rcases cond_some h with ⟨d, h⟩ | ⟨d, h⟩
      · obtain rfl := nbeq d
        injection h with h
        subst h
        exact fo53
      · rcases cond_some h with ⟨c, h⟩ | ⟨c, h⟩
        · rcases cond_some h with ⟨c, h⟩ | ⟨c, h⟩
          · rcases cond_some h with ⟨c, h⟩ | ⟨c, h⟩
            · rcases cond_some h with ⟨c, h⟩ | ⟨c, h⟩
              · rcases cond_some h with ⟨c, h⟩ | ⟨c, h⟩
                · cases h
                · rcases cond_some h with ⟨d, h⟩ | ⟨d, h⟩
                  · obtain rfl := nbeq d
                    injection h with h
                    subst h
                    exact fo54
                  · cases h
              · rcases cond_some h with ⟨d, h⟩ | ⟨d, h⟩
                · obtain rfl := nbeq d
                  injection h with h
                  subst h
                  exact fo55
                · rcases cond_some h with ⟨c, h⟩ | ⟨c, h⟩
                  · cases h
                  · rcases cond_some h with ⟨d, h⟩ | ⟨d, h⟩
                    · obtain rfl := nbeq d
                      injection h with h
                      subst h
                      exact fo56
                    · cases h
            · rcases cond_some h with ⟨d, h⟩ | ⟨d, h⟩
              · obtain rfl := nbeq d
                injection h with h
                subst h
                exact fo57
              · rcases cond_some h with ⟨c, h⟩ | ⟨c, h⟩
                · rcases cond_some h with ⟨c, h⟩ | ⟨c, h⟩
                  · cases h
                  · rcases cond_some h with ⟨d, h⟩ | ⟨d, h⟩
                    · obtain rfl := nbeq d
                      injection h with h
                      subst h
                      exact fo58
                    · cases h
                · rcases cond_some h with ⟨d, h⟩ | ⟨d, h⟩
                  · obtain rfl := nbeq d
                    injection h with h
                    subst h
                    exact fo59
                  · rcases cond_some h with ⟨c, h⟩ | ⟨c, h⟩
                    · cases h
                    · rcases cond_some h with ⟨d, h⟩ | ⟨d, h⟩
                      · obtain rfl := nbeq d
                        injection h with h
                        subst h
                        exact fo60
                      · cases h
          · rcases cond_some h with ⟨d, h⟩ | ⟨d, h⟩
            · obtain rfl := nbeq d
              injection h with h
              subst h
              exact fo61
            · rcases cond_some h with ⟨c, h⟩ | ⟨c, h⟩
              · rcases cond_some h with ⟨c, h⟩ | ⟨c, h⟩
                · rcases cond_some h with ⟨c, h⟩ | ⟨c, h⟩
                  · cases h
                  · rcases cond_some h with ⟨d, h⟩ | ⟨d, h⟩
                    · obtain rfl := nbeq d
                      injection h with h
                      subst h
                      exact fo62
                    · cases h
                · rcases cond_some h with ⟨d, h⟩ | ⟨d, h⟩
                  · obtain rfl := nbeq d
                    injection h with h
                    subst h
                    exact fo63
                  · rcases cond_some h with ⟨c, h⟩ | ⟨c, h⟩
                    · cases h
                    · rcases cond_some h with ⟨d, h⟩ | ⟨d, h⟩
                      · obtain rfl := nbeq d
                        injection h with h
                        subst h
                        exact fo64
                      · cases h
              · rcases cond_some h with ⟨d, h⟩ | ⟨d, h⟩
                · obtain rfl := nbeq d
                  injection h with h
                  subst h
                  exact fo65
                · rcases cond_some h with ⟨c, h⟩ | ⟨c, h⟩
                  · rcases cond_some h with ⟨c, h⟩ | ⟨c, h⟩
                    · cases h
                    · rcases cond_some h with ⟨d, h⟩ | ⟨d, h⟩
                      · obtain rfl := nbeq d
                        injection h with h
                        subst h
                        exact fo66
                      · cases h
                  · rcases cond_some h with ⟨d, h⟩ | ⟨d, h⟩
                    · obtain rfl := nbeq d
                      injection h with h
                      subst h
                      exact fo69
                    · cases h
        · rcases cond_some h with ⟨d, h⟩ | ⟨d, h⟩
          · obtain rfl := nbeq d
            injection h with h
            subst h
            exact fo70
          · rcases cond_some h with ⟨c, h⟩ | ⟨c, h⟩
            · rcases cond_some h with ⟨c, h⟩ | ⟨c, h⟩
              · rcases cond_some h with ⟨c, h⟩ | ⟨c, h⟩
                · rcases cond_some h with ⟨c, h⟩ | ⟨c, h⟩
                  · cases h
                  · rcases cond_some h with ⟨d, h⟩ | ⟨d, h⟩
                    · obtain rfl := nbeq d
                      injection h with h
                      subst h
                      exact fo71
                    · cases h
                · rcases cond_some h with ⟨d, h⟩ | ⟨d, h⟩
                  · obtain rfl := nbeq d
                    injection h with h
                    subst h
                    exact fo72
                  · rcases cond_some h with ⟨c, h⟩ | ⟨c, h⟩
                    · cases h
                    · rcases cond_some h with ⟨d, h⟩ | ⟨d, h⟩
                      · obtain rfl := nbeq d
                        injection h with h
                        subst h
                        exact fo79
                      · cases h
              · rcases cond_some h with ⟨d, h⟩ | ⟨d, h⟩
                · obtain rfl := nbeq d
                  injection h with h
                  subst h
                  exact fo80
                · rcases cond_some h with ⟨c, h⟩ | ⟨c, h⟩
                  · rcases cond_some h with ⟨c, h⟩ | ⟨c, h⟩
                    · cases h
                    · rcases cond_some h with ⟨d, h⟩ | ⟨d, h⟩
                      · obtain rfl := nbeq d
                        injection h with h
                        subst h
                        exact fo81
                      · cases h
                  · rcases cond_some h with ⟨d, h⟩ | ⟨d, h⟩
                    · obtain rfl := nbeq d
                      injection h with h
                      subst h
                      exact fo82
                    · cases h
            · rcases cond_some h with ⟨d, h⟩ | ⟨d, h⟩
              · obtain rfl := nbeq d
                injection h with h
                subst h
                exact fo83
              · rcases cond_some h with ⟨c, h⟩ | ⟨c, h⟩
                · rcases cond_some h with ⟨c, h⟩ | ⟨c, h⟩
                  · rcases cond_some h with ⟨c, h⟩ | ⟨c, h⟩
                    · cases h
                    · rcases cond_some h with ⟨d, h⟩ | ⟨d, h⟩
                      · obtain rfl := nbeq d
                        injection h with h
                        subst h
                        exact fo85
                      · cases h
                  · rcases cond_some h with ⟨d, h⟩ | ⟨d, h⟩
                    · obtain rfl := nbeq d
                      injection h with h
                      subst h
                      exact fo86
                    · rcases cond_some h with ⟨c, h⟩ | ⟨c, h⟩
                      · cases h
                      · rcases cond_some h with ⟨d, h⟩ | ⟨d, h⟩
                        · obtain rfl := nbeq d
                          injection h with h
                          subst h
                          exact fo87
                        · cases h
                · rcases cond_some h with ⟨d, h⟩ | ⟨d, h⟩
                  · obtain rfl := nbeq d
                    injection h with h
                    subst h
                    exact fo88
                  · rcases cond_some h with ⟨c, h⟩ | ⟨c, h⟩
                    · rcases cond_some h with ⟨c, h⟩ | ⟨c, h⟩
                      · cases h
                      · rcases cond_some h with ⟨d, h⟩ | ⟨d, h⟩
                        · obtain rfl := nbeq d
                          injection h with h
                          subst h
                          exact fo89
                        · cases h
                    · rcases cond_some h with ⟨d, h⟩ | ⟨d, h⟩
                      · obtain rfl := nbeq d
                        injection h with h
                        subst h
                        exact fo90
                      · cases h
  · rcases cond_some h with ⟨d, h⟩ | ⟨d, h⟩
    · obtain rfl := nbeq d
      injection h with h
      subst h
      exact fo91
    · rcases cond_some h with ⟨c, h⟩ | ⟨c, h⟩
      · rcases cond_some h with ⟨c, h⟩ | ⟨c, h⟩
        · rcases cond_some h with ⟨c, h⟩ | ⟨c, h⟩
          · rcases cond_some h with ⟨c, h⟩ | ⟨c, h⟩
            · rcases cond_some h with ⟨c, h⟩ | ⟨c, h⟩
              · rcases cond_some h with ⟨c, h⟩ | ⟨c, h⟩
                · cases h
                · rcases cond_some h with ⟨d, h⟩ | ⟨d, h⟩
                  · obtain rfl := nbeq d
                    injection h with h
                    subst h
                    exact fo92
                  · cases h
              · rcases cond_some h with ⟨d, h⟩ | ⟨d, h⟩
                · obtain rfl := nbeq d
                  injection h with h
                  subst h
                  exact fo99
                · rcases cond_some h with ⟨c, h⟩ | ⟨c, h⟩
                  · cases h
                  · rcases cond_some h with ⟨d, h⟩ | ⟨d, h⟩
                    · obtain rfl := nbeq d
                      injection h with h
                      subst h
                      exact fo100
                    · cases h
            · rcases cond_some h with ⟨d, h⟩ | ⟨d, h⟩
              · obtain rfl := nbeq d
                injection h with h
                subst h
                exact fo101
              · rcases cond_some h with ⟨c, h⟩ | ⟨c, h⟩
                · rcases cond_some h with ⟨c, h⟩ | ⟨c, h⟩
                  · cases h
                  · rcases cond_some h with ⟨d, h⟩ | ⟨d, h⟩
                    · obtain rfl := nbeq d
                      injection h with h
                      subst h
                      exact fo102
                    · cases h
                · rcases cond_some h with ⟨d, h⟩ | ⟨d, h⟩
                  · obtain rfl := nbeq d
                    injection h with h
                    subst h
                    exact fo103
                  · rcases cond_some h with ⟨c, h⟩ | ⟨c, h⟩
                    · cases h
                    · rcases cond_some h with ⟨d, h⟩ | ⟨d, h⟩
                      · obtain rfl := nbeq d
                        injection h with h
                        subst h
                        exact fo104
                      · cases h
          · rcases cond_some h with ⟨d, h⟩ | ⟨d, h⟩
            · obtain rfl := nbeq d
              injection h with h
              subst h
              exact fo105
            · rcases cond_some h with ⟨c, h⟩ | ⟨c, h⟩
              · rcases cond_some h with ⟨c, h⟩ | ⟨c, h⟩
                · rcases cond_some h with ⟨c, h⟩ | ⟨c, h⟩
                  · cases h
                  · rcases cond_some h with ⟨d, h⟩ | ⟨d, h⟩
                    · obtain rfl := nbeq d
                      injection h with h
                      subst h
                      exact fo106
                    · cases h
                · rcases cond_some h with ⟨d, h⟩ | ⟨d, h⟩
                  · obtain rfl := nbeq d
                    injection h with h
                    subst h
                    exact fo107
                  · rcases cond_some h with ⟨c, h⟩ | ⟨c, h⟩
                    · cases h
                    · rcases cond_some h with ⟨d, h⟩ | ⟨d, h⟩
                      · obtain rfl := nbeq d
                        injection h with h
                        subst h
                        exact fo108
                      · cases h
              · rcases cond_some h with ⟨d, h⟩ | ⟨d, h⟩
                · obtain rfl := nbeq d
                  injection h with h
                  subst h
                  exact fo109
                · rcases cond_some h with ⟨c, h⟩ | ⟨c, h⟩
                  · rcases cond_some h with ⟨c, h⟩ | ⟨c, h⟩
                    · cases h
                    · rcases cond_some h with ⟨d, h⟩ | ⟨d, h⟩
                      · obtain rfl := nbeq d
                        injection h with h
                        subst h
                        exact fo110
                      · cases h
                  · rcases cond_some h with ⟨d, h⟩ | ⟨d, h⟩
                    · obtain rfl := nbeq d
                      injection h with h
                      subst h
                      exact fo116
                    · cases h
        · rcases cond_some h with ⟨d, h⟩ | ⟨d, h⟩
          · obtain rfl := nbeq d
            injection h with h
            subst h
            exact fo117
          · rcases cond_some h with ⟨c, h⟩ | ⟨c, h⟩
            · rcases cond_some h with ⟨c, h⟩ | ⟨c, h⟩
              · rcases cond_some h with ⟨c, h⟩ | ⟨c, h⟩
                · rcases cond_some h with ⟨c, h⟩ | ⟨c, h⟩
                  · cases h
                  · rcases cond_some h with ⟨d, h⟩ | ⟨d, h⟩
                    · obtain rfl := nbeq d
                      injection h with h
                      subst h
                      exact fo118
                    · cases h
                · rcases cond_some h with ⟨d, h⟩ | ⟨d, h⟩
                  · obtain rfl := nbeq d
                    injection h with h
                    subst h
                    exact fo119
                  · rcases cond_some h with ⟨c, h⟩ | ⟨c, h⟩
                    · cases h
                    · rcases cond_some h with ⟨d, h⟩ | ⟨d, h⟩
                      · obtain rfl := nbeq d
                        injection h with h
                        subst h
                        exact fo120
                      · cases h
              · rcases cond_some h with ⟨d, h⟩ | ⟨d, h⟩
                · obtain rfl := nbeq d
                  injection h with h
                  subst h
                  exact fo121
                · rcases cond_some h with ⟨c, h⟩ | ⟨c, h⟩
                  · rcases cond_some h with ⟨c, h⟩ | ⟨c, h⟩
                    · cases h
                    · rcases cond_some h with ⟨d, h⟩ | ⟨d, h⟩
                      · obtain rfl := nbeq d
                        injection h with h
                        subst h
                        exact fo122
                      · cases h
                  · rcases cond_some h with ⟨d, h⟩ | ⟨d, h⟩
                    · obtain rfl := nbeq d
                      injection h with h
                      subst h
                      exact fo123
                    · cases h
            · rcases cond_some h with ⟨d, h⟩ | ⟨d, h⟩
              · obtain rfl := nbeq d
                injection h with h
                subst h
                exact fo124
              · rcases cond_some h with ⟨c, h⟩ | ⟨c, h⟩
                · rcases cond_some h with ⟨c, h⟩ | ⟨c, h⟩
                  · rcases cond_some h with ⟨c, h⟩ | ⟨c, h⟩
                    · cases h
                    · rcases cond_some h with ⟨d, h⟩ | ⟨d, h⟩
                      · obtain rfl := nbeq d
                        injection h with h
                        subst h
                        exact fo125
                      · cases h
                  · rcases cond_some h with ⟨d, h⟩ | ⟨d, h⟩
                    · obtain rfl := nbeq d
                      injection h with h
                      subst h
                      exact fo126
                    · rcases cond_some h with ⟨c, h⟩ | ⟨c, h⟩
                      · cases h
                      · rcases cond_some h with ⟨d, h⟩ | ⟨d, h⟩
                        · obtain rfl := nbeq d
                          injection h with h
                          subst h
                          exact fo127
                        · cases h
                · rcases cond_some h with ⟨d, h⟩ | ⟨d, h⟩
                  · obtain rfl := nbeq d
                    injection h with h
                    subst h
                    exact fo128
                  · rcases cond_some h with ⟨c, h⟩ | ⟨c, h⟩
                    · rcases cond_some h with ⟨c, h⟩ | ⟨c, h⟩
                      · cases h
                      · rcases cond_some h with ⟨d, h⟩ | ⟨d, h⟩
                        · obtain rfl := nbeq d
                          injection h with h
                          subst h
                          exact fo129
                        · cases h
                    · rcases cond_some h with ⟨d, h⟩ | ⟨d, h⟩
                      · obtain rfl := nbeq d
                        injection h with h
                        subst h
                        exact fo130
                      · cases h
      · rcases cond_some h with ⟨d, h⟩ | ⟨d, h⟩
        · obtain rfl := nbeq d
          injection h with h
          subst h
          exact fo131
        · rcases cond_some h with ⟨c, h⟩ | ⟨c, h⟩
          · rcases cond_some h with ⟨c, h⟩ | ⟨c, h⟩
            · rcases cond_some h with ⟨c, h⟩ | ⟨c, h⟩
              · rcases cond_some h with ⟨c, h⟩ | ⟨c, h⟩
                · rcases cond_some h with ⟨c, h⟩ | ⟨c, h⟩
                  · cases h
                  · rcases cond_some h with ⟨d, h⟩ | ⟨d, h⟩
                    · obtain rfl := nbeq d
                      injection h with h
                      subst h
                      exact fo132
                    · cases h
                · rcases cond_some h with ⟨d, h⟩ | ⟨d, h⟩
                  · obtain rfl := nbeq d
                    injection h with h
                    subst h
                    exact fo133
                  · rcases cond_some h with ⟨c, h⟩ | ⟨c, h⟩
                    · cases h
                    · rcases cond_some h with ⟨d, h⟩ | ⟨d, h⟩
                      · obtain rfl := nbeq d
                        injection h with h
                        subst h
                        exact fo134
                      · cases h
              · rcases cond_some h with ⟨d, h⟩ | ⟨d, h⟩
                · obtain rfl := nbeq d
                  injection h with h
                  subst h
                  exact fo139
                · rcases cond_some h with ⟨c, h⟩ | ⟨c, h⟩
                  · rcases cond_some h with ⟨c, h⟩ | ⟨c, h⟩
                    · cases h
                    · rcases cond_some h with ⟨d, h⟩ | ⟨d, h⟩
                      · obtain rfl := nbeq d
                        injection h with h
                        subst h
                        exact fo140
                      · cases h
                  · rcases cond_some h with ⟨d, h⟩ | ⟨d, h⟩
                    · obtain rfl := nbeq d
                      injection h with h
                      subst h
                      exact fo141
                    · rcases cond_some h with ⟨c, h⟩ | ⟨c, h⟩
                      · cases h
                      · rcases cond_some h with ⟨d, h⟩ | ⟨d, h⟩
                        · obtain rfl := nbeq d
                          injection h with h
                          subst h
                          exact fo142
                        · cases h
            · rcases cond_some h with ⟨d, h⟩ | ⟨d, h⟩
              · obtain rfl := nbeq d
                injection h with h
                subst h
                exact fo143
              · rcases cond_some h with ⟨c, h⟩ | ⟨c, h⟩
                · rcases cond_some h with ⟨c, h⟩ | ⟨c, h⟩
                  · rcases cond_some h with ⟨c, h⟩ | ⟨c, h⟩
                    · cases h
                    · rcases cond_some h with ⟨d, h⟩ | ⟨d, h⟩
                      · obtain rfl := nbeq d
                        injection h with h
                        subst h
                        exact fo144
                      · cases h
                  · rcases cond_some h with ⟨d, h⟩ | ⟨d, h⟩
                    · obtain rfl := nbeq d
                      injection h with h
                      subst h
                      exact fo145
                    · rcases cond_some h with ⟨c, h⟩ | ⟨c, h⟩
                      · cases h
                      · rcases cond_some h with ⟨d, h⟩ | ⟨d, h⟩
                        · obtain rfl := nbeq d
                          injection h with h
                          subst h
                          exact fo146
                        · cases h
                · rcases cond_some h with ⟨d, h⟩ | ⟨d, h⟩
                  · obtain rfl := nbeq d
                    injection h with h
                    subst h
                    exact fo147
                  · rcases cond_some h with ⟨c, h⟩ | ⟨c, h⟩
                    · rcases cond_some h with ⟨c, h⟩ | ⟨c, h⟩
                      · cases h
                      · rcases cond_some h with ⟨d, h⟩ | ⟨d, h⟩
                        · obtain rfl := nbeq d
                          injection h with h
                          subst h
                          exact fo148
                        · cases h
                    · rcases cond_some h with ⟨d, h⟩ | ⟨d, h⟩
                      · obtain rfl := nbeq d
                        injection h with h
                        subst h
                        exact fo149
                      · cases h
          · rcases cond_some h with ⟨d, h⟩ | ⟨d, h⟩
            · obtain rfl := nbeq d
              injection h with h
              subst h
              exact fo150
            · rcases cond_some h with ⟨c, h⟩ | ⟨c, h⟩
              · rcases cond_some h with ⟨c, h⟩ | ⟨c, h⟩
                · rcases cond_some h with ⟨c, h⟩ | ⟨c, h⟩
                  · rcases cond_some h with ⟨c, h⟩ | ⟨c, h⟩
                    · cases h
                    · rcases cond_some h with ⟨d, h⟩ | ⟨d, h⟩
                      · obtain rfl := nbeq d
                        injection h with h
                        subst h
                        exact fo151
                      · cases h
                  · rcases cond_some h with ⟨d, h⟩ | ⟨d, h⟩
                    · obtain rfl := nbeq d
                      injection h with h
                      subst h
                      exact fo153
                    · rcases cond_some h with ⟨c, h⟩ | ⟨c, h⟩
                      · cases h
                      · rcases cond_some h with ⟨d, h⟩ | ⟨d, h⟩
                        · obtain rfl := nbeq d
                          injection h with h
                          subst h
                          exact fo154
                        · cases h
                · rcases cond_some h with ⟨d, h⟩ | ⟨d, h⟩
                  · obtain rfl := nbeq d
                    injection h with h
                    subst h
                    exact fo155
                  · rcases cond_some h with ⟨c, h⟩ | ⟨c, h⟩
                    · rcases cond_some h with ⟨c, h⟩ | ⟨c, h⟩
                      · cases h
                      · rcases cond_some h with ⟨d, h⟩ | ⟨d, h⟩
                        · obtain rfl := nbeq d
                          injection h with h
                          subst h
                          exact fo156
                        · cases h
                    · rcases cond_some h with ⟨d, h⟩ | ⟨d, h⟩
                      · obtain rfl := nbeq d
                        injection h with h
                        subst h
                        exact fo157
                      · cases h
              · rcases cond_some h with ⟨d, h⟩ | ⟨d, h⟩
                · obtain rfl := nbeq d
                  injection h with h
                  subst h
                  exact fo158
                · rcases cond_some h with ⟨c, h⟩ | ⟨c, h⟩
                  · rcases cond_some h with ⟨c, h⟩ | ⟨c, h⟩
                    · rcases cond_some h with ⟨c, h⟩ | ⟨c, h⟩
                      · cases h
                      · rcases cond_some h with ⟨d, h⟩ | ⟨d, h⟩
                        · obtain rfl := nbeq d
                          injection h with h
                          subst h
                          exact fo159
                        · cases h
                    · rcases cond_some h with ⟨d, h⟩ | ⟨d, h⟩
                      · obtain rfl := nbeq d
                        injection h with h
                        subst h
                        exact fo160
                      · rcases cond_some h with ⟨c, h⟩ | ⟨c, h⟩
                        · cases h
                        · rcases cond_some h with ⟨d, h⟩ | ⟨d, h⟩
                          · obtain rfl := nbeq d
                            injection h with h
                            subst h
                            exact fo161
                          · cases h
                  · rcases cond_some h with ⟨d, h⟩ | ⟨d, h⟩
                    · obtain rfl := nbeq d
                      injection h with h
                      subst h
                      exact fo162
                    · rcases cond_some h with ⟨c, h⟩ | ⟨c, h⟩
                      · rcases cond_some h with ⟨c, h⟩ | ⟨c, h⟩
                        · cases h
                        · rcases cond_some h with ⟨d, h⟩ | ⟨d, h⟩
                          · obtain rfl := nbeq d
                            injection h with h
                            subst h
                            exact fo163
                          · cases h
                      · rcases cond_some h with ⟨d, h⟩ | ⟨d, h⟩
                        · obtain rfl := nbeq d
                          injection h with h
                          subst h
                          exact fo165
                        · cases h
def noExt (_ : FuncId) (_ : List AVal) : Option AVal := none
theorem tabOk : TabOk cx tab noExt := ⟨tab_fn, fun _ _ _ h => (by cases h), cxG, cxOk⟩
end Go.Am

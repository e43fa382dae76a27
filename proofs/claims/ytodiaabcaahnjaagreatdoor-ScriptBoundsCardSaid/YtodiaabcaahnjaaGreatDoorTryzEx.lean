/- The seat's types and functions, as tables. Printed by a program. -/
import Derived.Test.YtodiaabcaahnjaaGreatDoorProg
import Derived.Test.YtodiaabcaahnjaaGreatDoorAmShelf
import Derived.Lib.ItoaNum
import Derived.KernelRfl
set_option linter.unusedVariables false
set_option linter.unusedSimpArgs false
namespace Go.Am
open Go Go.Proofs
set_option maxRecDepth 100000
def ti1:TI:=⟨(.func #[] #[] false),1,8,[.nilfn]⟩
def ti2:TI:=⟨(.int .i64),1,8,[(.int .i64 0)]⟩
def ti3:TI:=⟨(.int .i64),1,8,[(.int .i64 0)]⟩
def ti4:TI:=⟨.bool,1,1,[(.bool false)]⟩
def ti5:TI:=⟨(.int .u8),1,1,[(.int .u8 0)]⟩
def ti6:TI:=⟨(.int .u8),1,1,[(.int .u8 0)]⟩
def ti7:TI:=⟨(.struct #[⟨ "x", 2,0,false, "", "runtime", 0⟩,⟨ "y", 3,1,false, "", "runtime", 8⟩,⟨ "signed", 4,2,false, "", "runtime", 16⟩,⟨ "code", 6,3,false, "", "runtime", 17⟩]),4,24,[(.int .i64 0),(.int .i64 0),(.bool false),(.int .u8 0)]⟩
def ti8:TI:=⟨(.struct #[⟨ "x", 2,0,false, "", "runtime", 0⟩,⟨ "y", 3,1,false, "", "runtime", 8⟩,⟨ "signed", 4,2,false, "", "runtime", 16⟩,⟨ "code", 6,3,false, "", "runtime", 17⟩]),4,24,[(.int .i64 0),(.int .i64 0),(.bool false),(.int .u8 0)]⟩
def ti9:TI:=⟨.string,1,16,[(.str [])]⟩
def ti10:TI:=⟨.string,1,16,[(.str [])]⟩
def ti11:TI:=⟨.string,1,16,[(.str [])]⟩
def ti12:TI:=⟨(.int .u64),1,8,[(.int .u64 0)]⟩
def ti13:TI:=⟨(.struct #[⟨ "msg", 9,0,false, "", "runtime", 0⟩,⟨ "addr", 12,1,false, "", "runtime", 16⟩]),2,24,[(.str []),(.int .u64 0)]⟩
def ti14:TI:=⟨(.struct #[⟨ "msg", 9,0,false, "", "runtime", 0⟩,⟨ "addr", 12,1,false, "", "runtime", 16⟩]),2,24,[(.str []),(.int .u64 0)]⟩
def ti15:TI:=⟨(.pointer 208),1,8,[.nilp]⟩
def ti16:TI:=⟨(.pointer 211),1,8,[.nilp]⟩
def ti17:TI:=⟨(.pointer 218),1,8,[.nilp]⟩
def ti18:TI:=⟨(.struct #[⟨ "typ", 17,0,false, "", "internal/runtime/maps", 0⟩]),1,8,[.nilp]⟩
def ti19:TI:=⟨(.struct #[⟨ "typ", 17,0,false, "", "internal/runtime/maps", 0⟩]),1,8,[.nilp]⟩
def ti20:TI:=⟨(.interface #[]),1,16,[.nilifc]⟩
def ti21:TI:=⟨(.int .i32),1,4,[(.int .i32 0)]⟩
def ti22:TI:=⟨(.func #[] #[4] false),1,8,[.nilfn]⟩
def ti23:TI:=⟨(.int .i64),1,8,[(.int .i64 0)]⟩
def ti24:TI:=⟨(.int .i64),1,8,[(.int .i64 0)]⟩
def ti25:TI:=⟨(.int .u64),1,8,[(.int .u64 0)]⟩
def ti26:TI:=⟨(.array 6 25),6,48,[(.int .u64 0),(.int .u64 0),(.int .u64 0),(.int .u64 0),(.int .u64 0),(.int .u64 0)]⟩
def ti27:TI:=⟨(.struct #[⟨ "Op", 24,0,false, "", "", 0⟩,⟨ "Args", 26,1,false, "", "", 8⟩]),7,56,[(.int .i64 0),(.int .u64 0),(.int .u64 0),(.int .u64 0),(.int .u64 0),(.int .u64 0),(.int .u64 0)]⟩
def ti28:TI:=⟨(.struct #[⟨ "Op", 24,0,false, "", "", 0⟩,⟨ "Args", 26,1,false, "", "", 8⟩]),7,56,[(.int .i64 0),(.int .u64 0),(.int .u64 0),(.int .u64 0),(.int .u64 0),(.int .u64 0),(.int .u64 0)]⟩
def ti29:TI:=⟨(.slice 5),1,24,[(.sl 1 true [] .any)]⟩
def ti30:TI:=⟨(.struct #[⟨ "Kind", 23,0,false, "", "", 0⟩,⟨ "Call", 28,1,false, "", "", 8⟩,⟨ "Addr", 25,8,false, "", "", 64⟩,⟨ "Word", 25,9,false, "", "", 72⟩,⟨ "Bytes", 29,10,false, "", "", 80⟩]),11,104,[(.int .i64 0),(.int .i64 0),(.int .u64 0),(.int .u64 0),(.int .u64 0),(.int .u64 0),(.int .u64 0),(.int .u64 0),(.int .u64 0),(.int .u64 0),(.sl 1 true [] .any)]⟩
def ti31:TI:=⟨(.struct #[⟨ "Kind", 23,0,false, "", "", 0⟩,⟨ "Call", 28,1,false, "", "", 8⟩,⟨ "Addr", 25,8,false, "", "", 64⟩,⟨ "Word", 25,9,false, "", "", 72⟩,⟨ "Bytes", 29,10,false, "", "", 80⟩]),11,104,[(.int .i64 0),(.int .i64 0),(.int .u64 0),(.int .u64 0),(.int .u64 0),(.int .u64 0),(.int .u64 0),(.int .u64 0),(.int .u64 0),(.int .u64 0),(.sl 1 true [] .any)]⟩
def ti32:TI:=⟨(.int .i64),1,8,[(.int .i64 0)]⟩
def ti34:TI:=⟨(.func #[9] #[31,32] false),1,8,[.nilfn]⟩
def ti36:TI:=⟨(.func #[9] #[31,4] false),1,8,[.nilfn]⟩
def ti37:TI:=⟨(.func #[31,31] #[4] false),1,8,[.nilfn]⟩
def ti38:TI:=⟨(.func #[32] #[3] false),1,8,[.nilfn]⟩
def ti39:TI:=⟨(.func #[9] #[4] false),1,8,[.nilfn]⟩
def ti40:TI:=⟨(.array 32 5),32,32,bl (List.replicate 32 0)⟩
def ti41:TI:=⟨(.array 32 5),32,32,bl (List.replicate 32 0)⟩
def ti42:TI:=⟨(.slice 41),1,24,[(.sl 1 true [] .any)]⟩
def ti43:TI:=⟨(.slice 25),1,24,[(.sl 1 true [] .any)]⟩
def ti44:TI:=⟨(.struct #[⟨ "Granules", 3,0,false, "", "", 0⟩,⟨ "Ideal", 4,1,false, "", "", 8⟩,⟨ "Master", 41,2,false, "", "", 9⟩,⟨ "Draws", 42,34,false, "", "", 48⟩,⟨ "Entropy", 43,35,false, "", "", 72⟩]),36,96,[(.int .i64 0),(.bool false)]++bl (List.replicate 32 0)++[(.sl 1 true [] .any),(.sl 1 true [] .any)]⟩
def ti45:TI:=⟨(.struct #[⟨ "Granules", 3,0,false, "", "", 0⟩,⟨ "Ideal", 4,1,false, "", "", 8⟩,⟨ "Master", 41,2,false, "", "", 9⟩,⟨ "Draws", 42,34,false, "", "", 48⟩,⟨ "Entropy", 43,35,false, "", "", 72⟩]),36,96,[(.int .i64 0),(.bool false)]++bl (List.replicate 32 0)++[(.sl 1 true [] .any),(.sl 1 true [] .any)]⟩
def ti46:TI:=⟨(.slice 31),1,24,[(.sl 1 true [] .any)]⟩
def ti47:TI:=⟨(.struct #[⟨ "Setup", 45,0,false, "", "", 0⟩,⟨ "Steps", 46,36,false, "", "", 96⟩]),37,120,[(.int .i64 0),(.bool false)]++bl (List.replicate 32 0)++[(.sl 1 true [] .any),(.sl 1 true [] .any),(.sl 1 true [] .any)]⟩
def ti48:TI:=⟨(.struct #[⟨ "Setup", 45,0,false, "", "", 0⟩,⟨ "Steps", 46,36,false, "", "", 96⟩]),37,120,[(.int .i64 0),(.bool false)]++bl (List.replicate 32 0)++[(.sl 1 true [] .any),(.sl 1 true [] .any),(.sl 1 true [] .any)]⟩
def ti50:TI:=⟨(.func #[9] #[48,3,32] false),1,8,[.nilfn]⟩
def ti52:TI:=⟨(.func #[9] #[48,3,3] false),1,8,[.nilfn]⟩
def ti53:TI:=⟨(.func #[48,48] #[4] false),1,8,[.nilfn]⟩
def ti55:TI:=⟨(.func #[48] #[9,32] false),1,8,[.nilfn]⟩
def ti56:TI:=⟨(.func #[9,3] #[4] false),1,8,[.nilfn]⟩
def ti57:TI:=⟨(.func #[31] #[4] false),1,8,[.nilfn]⟩
def ti58:TI:=⟨(.func #[45] #[4] false),1,8,[.nilfn]⟩
def ti59:TI:=⟨(.func #[48] #[4] false),1,8,[.nilfn]⟩
def ti60:TI:=⟨(.func #[48] #[9] false),1,8,[.nilfn]⟩
def ti61:TI:=⟨(.func #[39] #[] false),1,8,[.nilfn]⟩
def ti62:TI:=⟨(.func #[39] #[] false),1,8,[.nilfn]⟩
def ti63:TI:=⟨(.func #[45] #[62] false),1,8,[.nilfn]⟩
def ti65:TI:=⟨(.func #[45,9] #[45,32] false),1,8,[.nilfn]⟩
def ti66:TI:=⟨(.func #[45] #[48] false),1,8,[.nilfn]⟩
def ti67:TI:=⟨(.func #[48,9] #[4] false),1,8,[.nilfn]⟩
def ti68:TI:=⟨(.func #[31] #[9,32] false),1,8,[.nilfn]⟩
def ti69:TI:=⟨(.func #[23,73] #[9] false),1,8,[.nilfn]⟩
def ti70:TI:=⟨(.int .i64),1,8,[(.int .i64 0)]⟩
def ti71:TI:=⟨(.array 4 25),4,32,[(.int .u64 0),(.int .u64 0),(.int .u64 0),(.int .u64 0)]⟩
def ti72:TI:=⟨(.struct #[⟨ "Code", 70,0,false, "", "", 0⟩,⟨ "Out", 71,1,false, "", "", 8⟩,⟨ "Word", 25,5,false, "", "", 40⟩,⟨ "Ok", 4,6,false, "", "", 48⟩,⟨ "Instance", 25,7,false, "", "", 56⟩]),8,64,[(.int .i64 0),(.int .u64 0),(.int .u64 0),(.int .u64 0),(.int .u64 0),(.int .u64 0),(.bool false),(.int .u64 0)]⟩
def ti73:TI:=⟨(.struct #[⟨ "Code", 70,0,false, "", "", 0⟩,⟨ "Out", 71,1,false, "", "", 8⟩,⟨ "Word", 25,5,false, "", "", 40⟩,⟨ "Ok", 4,6,false, "", "", 48⟩,⟨ "Instance", 25,7,false, "", "", 56⟩]),8,64,[(.int .i64 0),(.int .u64 0),(.int .u64 0),(.int .u64 0),(.int .u64 0),(.int .u64 0),(.bool false),(.int .u64 0)]⟩
def ti75:TI:=⟨(.func #[9] #[28,32] false),1,8,[.nilfn]⟩
def ti77:TI:=⟨(.func #[9,9] #[9,9,4] false),1,8,[.nilfn]⟩
def ti78:TI:=⟨(.func #[9] #[25] false),1,8,[.nilfn]⟩
def ti80:TI:=⟨(.func #[9] #[29,32] false),1,8,[.nilfn]⟩
def ti81:TI:=⟨(.func #[31] #[9] false),1,8,[.nilfn]⟩
def ti83:TI:=⟨(.func #[9] #[28,4] false),1,8,[.nilfn]⟩
def ti84:TI:=⟨(.slice 9),1,24,[(.sl 1 true [] .any)]⟩
def ti85:TI:=⟨(.func #[9] #[84] false),1,8,[.nilfn]⟩
def ti87:TI:=⟨(.func #[9] #[29,4] false),1,8,[.nilfn]⟩
def ti88:TI:=⟨(.func #[29,29] #[4] false),1,8,[.nilfn]⟩
def ti89:TI:=⟨(.pointer 93),1,8,[.nilp]⟩
def ti90:TI:=⟨(.map 9 144),1,8,[.nilmap]⟩
def ti91:TI:=⟨(.func #[] #[90] false),1,8,[.nilfn]⟩
def ti92:TI:=⟨(.struct #[⟨ "s", 48,0,false, "", "anchorite/script", 0⟩,⟨ "n", 3,37,false, "", "anchorite/script", 120⟩,⟨ "rank", 3,38,false, "", "anchorite/script", 128⟩,⟨ "all", 90,39,false, "", "anchorite/script", 136⟩]),40,144,[(.int .i64 0),(.bool false)]++bl (List.replicate 32 0)++[(.sl 1 true [] .any),(.sl 1 true [] .any),(.sl 1 true [] .any),(.int .i64 0),(.int .i64 0),.nilmap]⟩
def ti93:TI:=⟨(.struct #[⟨ "s", 48,0,false, "", "anchorite/script", 0⟩,⟨ "n", 3,37,false, "", "anchorite/script", 120⟩,⟨ "rank", 3,38,false, "", "anchorite/script", 128⟩,⟨ "all", 90,39,false, "", "anchorite/script", 136⟩]),40,144,[(.int .i64 0),(.bool false)]++bl (List.replicate 32 0)++[(.sl 1 true [] .any),(.sl 1 true [] .any),(.sl 1 true [] .any),(.int .i64 0),(.int .i64 0),.nilmap]⟩
def ti95:TI:=⟨(.func #[9] #[84,9] false),1,8,[.nilfn]⟩
def ti96:TI:=⟨(.func #[9] #[3] false),1,8,[.nilfn]⟩
def ti98:TI:=⟨(.func #[45,9] #[45,3] false),1,8,[.nilfn]⟩
def ti99:TI:=⟨(.func #[45,45] #[4] false),1,8,[.nilfn]⟩
def ti100:TI:=⟨(.func #[46,57] #[4] false),1,8,[.nilfn]⟩
def ti101:TI:=⟨(.pointer 103),1,8,[.nilp]⟩
def ti102:TI:=⟨(.struct #[⟨ "addr", 101,0,false, "", "strings", 0⟩,⟨ "buf", 29,1,false, "", "strings", 8⟩]),2,32,[.nilp,(.sl 1 true [] .any)]⟩
def ti103:TI:=⟨(.struct #[⟨ "addr", 101,0,false, "", "strings", 0⟩,⟨ "buf", 29,1,false, "", "strings", 8⟩]),2,32,[.nilp,(.sl 1 true [] .any)]⟩
def ti104:TI:=⟨(.interface #[("Error", 109)]),1,16,[.nilifc]⟩
def ti105:TI:=⟨(.interface #[("Error", 109)]),1,16,[.nilifc]⟩
def ti107:TI:=⟨(.func #[9] #[3,105] false),1,8,[.nilfn]⟩
def ti108:TI:=⟨(.func #[] #[3] false),1,8,[.nilfn]⟩
def ti109:TI:=⟨(.func #[] #[9] false),1,8,[.nilfn]⟩
def ti110:TI:=⟨(.func #[31] #[31] false),1,8,[.nilfn]⟩
def ti111:TI:=⟨(.func #[28] #[4] false),1,8,[.nilfn]⟩
def ti112:TI:=⟨(.func #[42,42] #[4] false),1,8,[.nilfn]⟩
def ti113:TI:=⟨(.func #[43,43] #[4] false),1,8,[.nilfn]⟩
def ti114:TI:=⟨(.func #[46,46,37] #[4] false),1,8,[.nilfn]⟩
def ti115:TI:=⟨(.func #[45] #[84] false),1,8,[.nilfn]⟩
def ti116:TI:=⟨(.func #[9,43] #[9] true),1,8,[.nilfn]⟩
def ti117:TI:=⟨(.func #[4] #[9] false),1,8,[.nilfn]⟩
def ti118:TI:=⟨(.func #[9,41] #[9] false),1,8,[.nilfn]⟩
def ti120:TI:=⟨(.func #[45,9,90] #[45,3,4] false),1,8,[.nilfn]⟩
def ti121:TI:=⟨(.func #[42] #[42] false),1,8,[.nilfn]⟩
def ti122:TI:=⟨(.func #[43] #[43] false),1,8,[.nilfn]⟩
def ti123:TI:=⟨(.func #[3] #[9] false),1,8,[.nilfn]⟩
def ti124:TI:=⟨(.func #[9,125] #[28,4] false),1,8,[.nilfn]⟩
def ti125:TI:=⟨(.map 24 155),1,8,[.nilmap]⟩
def ti126:TI:=⟨(.func #[] #[125] false),1,8,[.nilfn]⟩
def ti128:TI:=⟨(.func #[9,3,3] #[25,105] false),1,8,[.nilfn]⟩
def ti129:TI:=⟨(.func #[9,5] #[3] false),1,8,[.nilfn]⟩
def ti130:TI:=⟨(.int .u64),1,8,[(.int .u64 0)]⟩
def ti131:TI:=⟨(.func #[28] #[9,32] false),1,8,[.nilfn]⟩
def ti132:TI:=⟨(.func #[9,9] #[9] false),1,8,[.nilfn]⟩
def ti133:TI:=⟨(.func #[29] #[9] false),1,8,[.nilfn]⟩
def ti134:TI:=⟨(.func #[9,5] #[84] false),1,8,[.nilfn]⟩
def ti135:TI:=⟨(.func #[9] #[24] false),1,8,[.nilfn]⟩
def ti136:TI:=⟨(.func #[24] #[4] false),1,8,[.nilfn]⟩
def ti137:TI:=⟨(.func #[24] #[3] false),1,8,[.nilfn]⟩
def ti138:TI:=⟨(.func #[28] #[9] false),1,8,[.nilfn]⟩
def ti139:TI:=⟨(.func #[5] #[5] false),1,8,[.nilfn]⟩
def ti140:TI:=⟨(.func #[9] #[41,4] false),1,8,[.nilfn]⟩
def ti141:TI:=⟨(.func #[45,9] #[45,4] false),1,8,[.nilfn]⟩
def ti142:TI:=⟨(.func #[4] #[141] false),1,8,[.nilfn]⟩
def ti143:TI:=⟨(.struct #[⟨ "rank", 3,0,false, "", "anchorite/script", 0⟩,⟨ "do", 141,1,false, "", "anchorite/script", 8⟩]),2,16,[(.int .i64 0),.nilfn]⟩
def ti144:TI:=⟨(.struct #[⟨ "rank", 3,0,false, "", "anchorite/script", 0⟩,⟨ "do", 141,1,false, "", "anchorite/script", 8⟩]),2,16,[(.int .i64 0),.nilfn]⟩
def ti146:TI:=⟨(.func #[46,57] #[3] false),1,8,[.nilfn]⟩
def ti147:TI:=⟨(.pointer 5),1,8,[.nilp]⟩
def ti148:TI:=⟨(.func #[28,125] #[4] false),1,8,[.nilfn]⟩
def ti149:TI:=⟨(.func #[25,3] #[9] false),1,8,[.nilfn]⟩
def ti152:TI:=⟨(.func #[9,45] #[9] false),1,8,[.nilfn]⟩
def ti153:TI:=⟨(.func #[9,9] #[84] false),1,8,[.nilfn]⟩
def ti154:TI:=⟨(.struct #[⟨ "name", 9,0,false, "", "anchorite/call", 0⟩,⟨ "arity", 3,1,false, "", "anchorite/call", 16⟩]),2,24,[(.str []),(.int .i64 0)]⟩
def ti155:TI:=⟨(.struct #[⟨ "name", 9,0,false, "", "anchorite/call", 0⟩,⟨ "arity", 3,1,false, "", "anchorite/call", 16⟩]),2,24,[(.str []),(.int .i64 0)]⟩
def ti156:TI:=⟨(.func #[28,125] #[9] false),1,8,[.nilfn]⟩
def ti157:TI:=⟨(.func #[9,9] #[3] false),1,8,[.nilfn]⟩
def ti158:TI:=⟨(.func #[9,9,3,3,105] #[105] false),1,8,[.nilfn]⟩
def ti159:TI:=⟨(.func #[5] #[105] false),1,8,[.nilfn]⟩
def ti160:TI:=⟨(.func #[] #[84] false),1,8,[.nilfn]⟩
def ti161:TI:=⟨(.slice 3),1,24,[(.sl 1 true [] .any)]⟩
def ti162:TI:=⟨(.func #[] #[161] false),1,8,[.nilfn]⟩
def ti163:TI:=⟨(.func #[24] #[9] false),1,8,[.nilfn]⟩
def ti164:TI:=⟨.unsafePointer,1,8,[.nilp]⟩
def ti165:TI:=⟨(.func #[164] #[164] false),1,8,[.nilfn]⟩
def ti167:TI:=⟨(.func #[43,168] #[4] false),1,8,[.nilfn]⟩
def ti168:TI:=⟨(.func #[25] #[4] false),1,8,[.nilfn]⟩
def ti169:TI:=⟨(.func #[2,3] #[9] false),1,8,[.nilfn]⟩
def ti170:TI:=⟨(.func #[9,9,3,3] #[84] false),1,8,[.nilfn]⟩
def ti171:TI:=⟨(.func #[3] #[3] false),1,8,[.nilfn]⟩
def ti172:TI:=⟨(.int .i64),1,8,[(.int .i64 0)]⟩
def ti173:TI:=⟨(.pointer 189),1,8,[.nilp]⟩
def ti174:TI:=⟨(.func #[9,9] #[173] false),1,8,[.nilfn]⟩
def ti175:TI:=⟨(.func #[9,9,3] #[173] false),1,8,[.nilfn]⟩
def ti176:TI:=⟨(.func #[9,9] #[4] false),1,8,[.nilfn]⟩
def ti177:TI:=⟨(.func #[43,168] #[3] false),1,8,[.nilfn]⟩
def ti178:TI:=⟨(.array 24 5),24,24,bl (List.replicate 24 0)⟩
def ti179:TI:=⟨(.func #[25] #[3] false),1,8,[.nilfn]⟩
def ti180:TI:=⟨(.func #[29,25] #[] false),1,8,[.nilfn]⟩
def ti182:TI:=⟨(.func #[29,25,3,4,4] #[29,9] false),1,8,[.nilfn]⟩
def ti183:TI:=⟨(.func #[9,3] #[84] false),1,8,[.nilfn]⟩
def ti184:TI:=⟨(.int .u32),1,4,[(.int .u32 0)]⟩
def ti186:TI:=⟨(.func #[9] #[184,184] false),1,8,[.nilfn]⟩
def ti187:TI:=⟨(.func #[9] #[9] false),1,8,[.nilfn]⟩
def ti188:TI:=⟨(.struct #[⟨ "Func", 9,0,false, "", "", 0⟩,⟨ "Num", 9,1,false, "", "", 16⟩,⟨ "Err", 105,2,false, "", "", 32⟩]),3,48,[(.str []),(.str []),.nilifc]⟩
def ti189:TI:=⟨(.struct #[⟨ "Func", 9,0,false, "", "", 0⟩,⟨ "Num", 9,1,false, "", "", 16⟩,⟨ "Err", 105,2,false, "", "", 32⟩]),3,48,[(.str []),(.str []),.nilifc]⟩
def ti190:TI:=⟨(.func #[9] #[105] false),1,8,[.nilfn]⟩
def ti191:TI:=⟨(.func #[4] #[3] false),1,8,[.nilfn]⟩
def ti192:TI:=⟨(.array 20 25),20,160,List.replicate 20 (.int .u64 0)⟩
def ti193:TI:=⟨(.array 65 5),65,65,bl (List.replicate 65 0)⟩
def ti194:TI:=⟨(.func #[3] #[4] false),1,8,[.nilfn]⟩
def ti195:TI:=⟨(.func #[130] #[3] false),1,8,[.nilfn]⟩
def ti197:TI:=⟨(.func #[9] #[21,3] false),1,8,[.nilfn]⟩
def ti198:TI:=⟨(.pointer 200),1,8,[.nilp]⟩
def ti199:TI:=⟨(.struct #[⟨ "s", 9,0,false, "", "errors", 0⟩]),1,16,[(.str [])]⟩
def ti200:TI:=⟨(.struct #[⟨ "s", 9,0,false, "", "errors", 0⟩]),1,16,[(.str [])]⟩
def ti201:TI:=⟨(.func #[184] #[3] false),1,8,[.nilfn]⟩
def ti202:TI:=⟨(.array 64 5),64,64,bl (List.replicate 64 0)⟩
def ti203:TI:=⟨(.array 256 5),256,256,bl (List.replicate 256 0)⟩
def ti204:TI:=⟨(.struct #[⟨ "lo", 5,0,false, "", "unicode/utf8", 0⟩,⟨ "hi", 5,1,false, "", "unicode/utf8", 1⟩]),2,2,[(.int .u8 0),(.int .u8 0)]⟩
def ti205:TI:=⟨(.struct #[⟨ "lo", 5,0,false, "", "unicode/utf8", 0⟩,⟨ "hi", 5,1,false, "", "unicode/utf8", 1⟩]),2,2,[(.int .u8 0),(.int .u8 0)]⟩
def ti206:TI:=⟨(.array 16 205),32,32,bl (List.replicate 32 0)⟩
def ti207:TI:=⟨(.struct #[⟨ "_interface", 17,0,false, "", "runtime", 0⟩,⟨ "concrete", 17,1,false, "", "runtime", 8⟩,⟨ "asserted", 17,2,false, "", "runtime", 16⟩,⟨ "missingMethod", 9,3,false, "", "runtime", 24⟩]),4,40,[.nilp,.nilp,.nilp,(.str [])]⟩
def ti208:TI:=⟨(.struct #[⟨ "_interface", 17,0,false, "", "runtime", 0⟩,⟨ "concrete", 17,1,false, "", "runtime", 8⟩,⟨ "asserted", 17,2,false, "", "runtime", 16⟩,⟨ "missingMethod", 9,3,false, "", "runtime", 24⟩]),4,40,[.nilp,.nilp,.nilp,(.str [])]⟩
def ti209:TI:=⟨(.array 0 16),0,0,[]⟩
def ti210:TI:=⟨(.struct #[⟨ "_", 209,0,false, "", "runtime", 0⟩]),0,0,[]⟩
def ti211:TI:=⟨(.struct #[⟨ "_", 209,0,false, "", "runtime", 0⟩]),0,0,[]⟩
def ti212:TI:=⟨(.int .u8),1,1,[(.int .u8 0)]⟩
def ti213:TI:=⟨(.int .u8),1,1,[(.int .u8 0)]⟩
def ti214:TI:=⟨(.func #[164,164] #[4] false),1,8,[.nilfn]⟩
def ti215:TI:=⟨(.int .i32),1,4,[(.int .i32 0)]⟩
def ti216:TI:=⟨(.int .i32),1,4,[(.int .i32 0)]⟩
def ti217:TI:=⟨(.struct #[⟨ "Size_", 12,0,false, "", "", 0⟩,⟨ "PtrBytes", 12,1,false, "", "", 8⟩,⟨ "Hash", 184,2,false, "", "", 16⟩,⟨ "TFlag", 212,3,false, "", "", 20⟩,⟨ "Align_", 5,4,false, "", "", 21⟩,⟨ "FieldAlign_", 5,5,false, "", "", 22⟩,⟨ "Kind_", 213,6,false, "", "", 23⟩,⟨ "Equal", 214,7,false, "", "", 24⟩,⟨ "GCData", 147,8,false, "", "", 32⟩,⟨ "Str", 215,9,false, "", "", 40⟩,⟨ "PtrToThis", 216,10,false, "", "", 44⟩]),11,48,[(.int .u64 0),(.int .u64 0),(.int .u32 0),(.int .u8 0),(.int .u8 0),(.int .u8 0),(.int .u8 0),.nilfn,.nilp,(.int .i32 0),(.int .i32 0)]⟩
def ti218:TI:=⟨(.struct #[⟨ "Size_", 12,0,false, "", "", 0⟩,⟨ "PtrBytes", 12,1,false, "", "", 8⟩,⟨ "Hash", 184,2,false, "", "", 16⟩,⟨ "TFlag", 212,3,false, "", "", 20⟩,⟨ "Align_", 5,4,false, "", "", 21⟩,⟨ "FieldAlign_", 5,5,false, "", "", 22⟩,⟨ "Kind_", 213,6,false, "", "", 23⟩,⟨ "Equal", 214,7,false, "", "", 24⟩,⟨ "GCData", 147,8,false, "", "", 32⟩,⟨ "Str", 215,9,false, "", "", 40⟩,⟨ "PtrToThis", 216,10,false, "", "", 44⟩]),11,48,[(.int .u64 0),(.int .u64 0),(.int .u32 0),(.int .u8 0),(.int .u8 0),(.int .u8 0),(.int .u8 0),.nilfn,.nilp,(.int .i32 0),(.int .i32 0)]⟩
def tY:TT:=(.n (.n (.n (.n (.n (.n (.n (.n .z 1 ti1 .z) 2 ti2 (.n .z 3 ti3 .z)) 4 ti4 (.n (.n .z 5 ti5 .z) 6 ti6 .z)) 7 ti7 (.n (.n (.n .z 8 ti8 .z) 9 ti9 .z) 10 ti10 (.n (.n .z 11 ti11 .z) 12 ti12 .z))) 13 ti13 (.n (.n (.n (.n .z 14 ti14 .z) 15 ti15 .z) 16 ti16 (.n (.n .z 17 ti17 .z) 18 ti18 .z)) 19 ti19 (.n (.n (.n .z 20 ti20 .z) 21 ti21 .z) 22 ti22 (.n (.n .z 23 ti23 .z) 24 ti24 .z)))) 25 ti25 (.n (.n (.n (.n (.n .z 26 ti26 .z) 27 ti27 .z) 28 ti28 (.n (.n .z 29 ti29 .z) 30 ti30 .z)) 31 ti31 (.n (.n (.n .z 32 ti32 .z) 34 ti34 .z) 36 ti36 (.n (.n .z 37 ti37 .z) 38 ti38 .z))) 39 ti39 (.n (.n (.n (.n .z 40 ti40 .z) 41 ti41 .z) 42 ti42 (.n (.n .z 43 ti43 .z) 44 ti44 .z)) 45 ti45 (.n (.n (.n .z 46 ti46 .z) 47 ti47 .z) 48 ti48 (.n (.n .z 50 ti50 .z) 52 ti52 .z))))) 53 ti53 (.n (.n (.n (.n (.n (.n .z 55 ti55 .z) 56 ti56 (.n .z 57 ti57 .z)) 58 ti58 (.n (.n .z 59 ti59 .z) 60 ti60 .z)) 61 ti61 (.n (.n (.n .z 62 ti62 .z) 63 ti63 .z) 65 ti65 (.n (.n .z 66 ti66 .z) 67 ti67 .z))) 68 ti68 (.n (.n (.n (.n .z 69 ti69 .z) 70 ti70 .z) 71 ti71 (.n (.n .z 72 ti72 .z) 73 ti73 .z)) 75 ti75 (.n (.n (.n .z 77 ti77 .z) 78 ti78 .z) 80 ti80 (.n (.n .z 81 ti81 .z) 83 ti83 .z)))) 84 ti84 (.n (.n (.n (.n (.n .z 85 ti85 .z) 87 ti87 .z) 88 ti88 (.n (.n .z 89 ti89 .z) 90 ti90 .z)) 91 ti91 (.n (.n (.n .z 92 ti92 .z) 93 ti93 .z) 95 ti95 (.n (.n .z 96 ti96 .z) 98 ti98 .z))) 99 ti99 (.n (.n (.n (.n .z 100 ti100 .z) 101 ti101 .z) 102 ti102 (.n (.n .z 103 ti103 .z) 104 ti104 .z)) 105 ti105 (.n (.n (.n .z 107 ti107 .z) 108 ti108 .z) 109 ti109 (.n (.n .z 110 ti110 .z) 111 ti111 .z)))))) 112 ti112 (.n (.n (.n (.n (.n (.n (.n .z 113 ti113 .z) 114 ti114 (.n .z 115 ti115 .z)) 116 ti116 (.n (.n .z 117 ti117 .z) 118 ti118 .z)) 120 ti120 (.n (.n (.n .z 121 ti121 .z) 122 ti122 .z) 123 ti123 (.n (.n .z 124 ti124 .z) 125 ti125 .z))) 126 ti126 (.n (.n (.n (.n .z 128 ti128 .z) 129 ti129 .z) 130 ti130 (.n (.n .z 131 ti131 .z) 132 ti132 .z)) 133 ti133 (.n (.n (.n .z 134 ti134 .z) 135 ti135 .z) 136 ti136 (.n (.n .z 137 ti137 .z) 138 ti138 .z)))) 139 ti139 (.n (.n (.n (.n (.n .z 140 ti140 .z) 141 ti141 .z) 142 ti142 (.n (.n .z 143 ti143 .z) 144 ti144 .z)) 146 ti146 (.n (.n (.n .z 147 ti147 .z) 148 ti148 .z) 149 ti149 (.n (.n .z 152 ti152 .z) 153 ti153 .z))) 154 ti154 (.n (.n (.n (.n .z 155 ti155 .z) 156 ti156 .z) 157 ti157 (.n (.n .z 158 ti158 .z) 159 ti159 .z)) 160 ti160 (.n (.n (.n .z 161 ti161 .z) 162 ti162 .z) 163 ti163 (.n (.n .z 164 ti164 .z) 165 ti165 .z))))) 167 ti167 (.n (.n (.n (.n (.n (.n .z 168 ti168 .z) 169 ti169 (.n .z 170 ti170 .z)) 171 ti171 (.n (.n .z 172 ti172 .z) 173 ti173 .z)) 174 ti174 (.n (.n (.n .z 175 ti175 .z) 176 ti176 .z) 177 ti177 (.n (.n .z 178 ti178 .z) 179 ti179 .z))) 180 ti180 (.n (.n (.n (.n .z 182 ti182 .z) 183 ti183 .z) 184 ti184 (.n (.n .z 186 ti186 .z) 187 ti187 .z)) 188 ti188 (.n (.n (.n .z 189 ti189 .z) 190 ti190 .z) 191 ti191 (.n (.n .z 192 ti192 .z) 193 ti193 .z)))) 194 ti194 (.n (.n (.n (.n (.n .z 195 ti195 .z) 197 ti197 .z) 198 ti198 (.n (.n .z 199 ti199 .z) 200 ti200 .z)) 201 ti201 (.n (.n (.n .z 202 ti202 .z) 203 ti203 .z) 204 ti204 (.n (.n .z 205 ti205 .z) 206 ti206 .z))) 207 ti207 (.n (.n (.n (.n .z 208 ti208 .z) 209 ti209 .z) 210 ti210 (.n (.n .z 211 ti211 .z) 212 ti212 .z)) 213 ti213 (.n (.n (.n .z 214 ti214 .z) 215 ti215 .z) 216 ti216 (.n (.n .z 217 ti217 .z) 218 ti218 .z)))))))
def tT (t:TypeId):Option TI:=tY.get t
noncomputable def gT (g:Nat):Option AVal:=bif Nat.beq g 0 then some (.cptr [.any]) else bif Nat.beq g 1 then some (.any) else bif Nat.beq g 2 then some (.any) else bif Nat.beq g 3 then some (.cptr (Lib.pow10Tab.map fun z=>.int .u64 z)) else none
theorem cond_some {α:Type} {b:Bool} {x y:Option α} {e:α} (h:(bif b then x else y)=some e):(b=true∧x=some e)∨(b=false∧y=some e):=by cases b<;>simp_all
noncomputable def cx:Cx:=⟨Tryz.prog,tT,gT,fun _=>false,fun _=>none⟩
theorem tT_small:(List.range 219).map tT=(List.range 219).map (tyB Tryz.prog 219):=by kernel_rfl
theorem tT_big (t:Nat) (h:219≤t):tT t=none:=TT.big (by kernel_rfl) h
theorem tT_eq (t:TypeId) (i:TI) (h:tT t=some i):tyB Tryz.prog 219 t=some i:=by
 rcases Nat.lt_or_ge t 219 with hl|hl
 ·have:=congrArg (fun l=>l[t]?) tT_small
  simp only [List.getElem?_map,List.getElem?_range hl,Option.map_some,Option.some.injEq] at this
  rw [← this];exact h
 ·exact absurd h (by have e:=tT_big t hl;rw [e];exact fun h=>by cases h)
theorem cxT:TOk cx.P cx.T:=by
 have h:TOk Tryz.prog (tyB Tryz.prog 219):=tyB_ok (by kernel_rfl)
 have e:tyB Tryz.prog 219=tT:=by
  funext t
  rcases Nat.lt_or_ge t 219 with hl|hl
  ·have:=congrArg (fun l=>l[t]?) tT_small
   simp only [List.getElem?_map,List.getElem?_range hl,Option.map_some,Option.some.injEq] at this
   exact this.symm
  ·rw [tT_big t hl]
   unfold tyB basicOk
   rw [decide_eq_false (Nat.not_lt.2 hl:¬ (t:Nat)<219)]
   rfl
 rw [e] at h
 exact h
theorem cxOk:cx.Ok:=⟨cxT,fun t i h=>cells_of t i (tT_eq t i h),by kernel_rfl⟩
theorem cxG:GClosed cx:=fun g v h=>by
 have h:gT g=some v:=h
 unfold gT at h
 rcases cond_some h with ⟨_,h⟩|⟨_,h⟩
 ·injection h with h
  subst h
  first|exact .any|exact .cptr _ (fun c hc=>by obtain ⟨z,_,rfl⟩:=List.mem_map.1 hc;exact .int _ _)|exact .cptr _ (fun c hc=>by obtain rfl:=List.mem_singleton.1 hc;exact .any)
 rcases cond_some h with ⟨_,h⟩|⟨_,h⟩
 ·injection h with h
  subst h
  first|exact .any|exact .cptr _ (fun c hc=>by obtain ⟨z,_,rfl⟩:=List.mem_map.1 hc;exact .int _ _)|exact .cptr _ (fun c hc=>by obtain rfl:=List.mem_singleton.1 hc;exact .any)
 rcases cond_some h with ⟨_,h⟩|⟨_,h⟩
 ·injection h with h
  subst h
  first|exact .any|exact .cptr _ (fun c hc=>by obtain ⟨z,_,rfl⟩:=List.mem_map.1 hc;exact .int _ _)|exact .cptr _ (fun c hc=>by obtain rfl:=List.mem_singleton.1 hc;exact .any)
 rcases cond_some h with ⟨_,h⟩|⟨_,h⟩
 ·injection h with h
  subst h
  first|exact .any|exact .cptr _ (fun c hc=>by obtain ⟨z,_,rfl⟩:=List.mem_map.1 hc;exact .int _ _)|exact .cptr _ (fun c hc=>by obtain rfl:=List.mem_singleton.1 hc;exact .any)
 cases h
def mkFE (fn:Func) (q:Nat→Option UL) (pl:Bool):FE:=⟨LB fn,fn.ntmps,fn.results.toList,q,pl⟩
def FEOk (f:FuncId) (e:FE):Prop:=FnOk cx f e.body e.N e.rs∧BodyOk cx f pF e.q
theorem feOk {f:FuncId} {fn:Func} {q:Nat→Option UL} {pl:Bool} (h:cx.P.funcs[f]? = some fn) (h1:(fn.body.isSome && !(fn.name == "runtime.NumGoroutine"))=true) (h2:bodyB (cx.wp pF q) fn=true):FEOk f (mkFE fn q pl) :=
 ⟨fnOk_of h h1,bodyOk_of h h2⟩
inductive Tr
 |z
 |n (l:Tr) (k:Nat) (v:FE) (r:Tr)
def Tr.get:Tr→Nat→Option FE
 |.z,_=>none
 |.n l k v r,f=>bif Nat.blt f k then l.get f else bif Nat.beq f k then some v else r.get f
def Tr.All:Tr→Prop
 |.z=>True
 |.n l k v r=>l.All∧FEOk k v∧r.All
theorem Tr.ok:∀ {t:Tr} {f:Nat} {e:FE},t.All→t.get f=some e→FEOk f e
 |.z,_,_,_,h=>by cases h
 |.n l k v r,f,e,a,h=>by
  rcases cond_some (h:(bif Nat.blt f k then l.get f else bif Nat.beq f k then some v else r.get f)=some e) with ⟨_,h1⟩|⟨_,h1⟩
  ·exact Tr.ok a.1 h1
  ·rcases cond_some h1 with ⟨d,h2⟩|⟨_,h2⟩
   ·have hk:=nbeq d
    have hv:=Option.some.inj h2
    rw [hk,← hv]
    exact a.2.1
   ·exact Tr.ok a.2.2 h2
def q0 (_:Nat):Option UL:=none
noncomputable def fe5:FE:=mkFE Tryz.f5 (q0) true
theorem fo5:FEOk 5 fe5:=feOk Tryz.func5 (by kernel_rfl) (by kernel_rfl)
noncomputable def fe8:FE:=mkFE Tryz.f8 (q0) true
theorem fo8:FEOk 8 fe8:=feOk Tryz.func8 (by kernel_rfl) (by kernel_rfl)
noncomputable def fe9:FE:=mkFE Tryz.f9 (q0) false
theorem fo9:FEOk 9 fe9:=feOk Tryz.func9 (by kernel_rfl) (by kernel_rfl)
noncomputable def fe11:FE:=mkFE Tryz.f11 (q0) true
theorem fo11:FEOk 11 fe11:=feOk Tryz.func11 (by kernel_rfl) (by kernel_rfl)
noncomputable def fe12:FE:=mkFE Tryz.f12 (q0) true
theorem fo12:FEOk 12 fe12:=feOk Tryz.func12 (by kernel_rfl) (by kernel_rfl)
noncomputable def fe13:FE:=mkFE Tryz.f13 (q0) false
theorem fo13:FEOk 13 fe13:=feOk Tryz.func13 (by kernel_rfl) (by kernel_rfl)
noncomputable def fe15:FE:=mkFE Tryz.f15 (q0) true
theorem fo15:FEOk 15 fe15:=feOk Tryz.func15 (by kernel_rfl) (by kernel_rfl)
noncomputable def fe16:FE:=mkFE Tryz.f16 (q0) true
theorem fo16:FEOk 16 fe16:=feOk Tryz.func16 (by kernel_rfl) (by kernel_rfl)
noncomputable def fe17:FE:=mkFE Tryz.f17 (q0) true
theorem fo17:FEOk 17 fe17:=feOk Tryz.func17 (by kernel_rfl) (by kernel_rfl)
noncomputable def fe18:FE:=mkFE Tryz.f18 (fun i=>bif Nat.beq i 2 then some [(some 14,some 16)] else none) true
theorem fo18:FEOk 18 fe18:=feOk Tryz.func18 (by kernel_rfl) (by kernel_rfl)
noncomputable def fe19:FE:=mkFE Tryz.f19 (q0) true
theorem fo19:FEOk 19 fe19:=feOk Tryz.func19 (by kernel_rfl) (by kernel_rfl)
noncomputable def fe25:FE:=mkFE Tryz.f25 (q0) false
theorem fo25:FEOk 25 fe25:=feOk Tryz.func25 (by kernel_rfl) (by kernel_rfl)
noncomputable def fe28:FE:=mkFE Tryz.f28 (q0) true
theorem fo28:FEOk 28 fe28:=feOk Tryz.func28 (by kernel_rfl) (by kernel_rfl)
noncomputable def fe29:FE:=mkFE Tryz.f29 (q0) true
theorem fo29:FEOk 29 fe29:=feOk Tryz.func29 (by kernel_rfl) (by kernel_rfl)
noncomputable def fe30:FE:=mkFE Tryz.f30 (q0) true
theorem fo30:FEOk 30 fe30:=feOk Tryz.func30 (by kernel_rfl) (by kernel_rfl)
noncomputable def fe31:FE:=mkFE Tryz.f31 (q0) true
theorem fo31:FEOk 31 fe31:=feOk Tryz.func31 (by kernel_rfl) (by kernel_rfl)
noncomputable def fe32:FE:=mkFE Tryz.f32 (q0) true
theorem fo32:FEOk 32 fe32:=feOk Tryz.func32 (by kernel_rfl) (by kernel_rfl)
noncomputable def fe33:FE:=mkFE Tryz.f33 (q0) false
theorem fo33:FEOk 33 fe33:=feOk Tryz.func33 (by kernel_rfl) (by kernel_rfl)
noncomputable def fe34:FE:=mkFE Tryz.f34 (q0) true
theorem fo34:FEOk 34 fe34:=feOk Tryz.func34 (by kernel_rfl) (by kernel_rfl)
noncomputable def fe40:FE:=mkFE Tryz.f40 (q0) true
theorem fo40:FEOk 40 fe40:=feOk Tryz.func40 (by kernel_rfl) (by kernel_rfl)
noncomputable def fe41:FE:=mkFE Tryz.f41 (q0) false
theorem fo41:FEOk 41 fe41:=feOk Tryz.func41 (by kernel_rfl) (by kernel_rfl)
noncomputable def fe42:FE:=mkFE Tryz.f42 (fun i=>bif Nat.beq i 1 then some [(some 15,some 5),(some 20,some 5)] else none) true
theorem fo42:FEOk 42 fe42:=feOk Tryz.func42 (by kernel_rfl) (by kernel_rfl)
noncomputable def fe46:FE:=mkFE Tryz.f46 (q0) true
theorem fo46:FEOk 46 fe46:=feOk Tryz.func46 (by kernel_rfl) (by kernel_rfl)
noncomputable def fe47:FE:=mkFE Tryz.f47 (q0) true
theorem fo47:FEOk 47 fe47:=feOk Tryz.func47 (by kernel_rfl) (by kernel_rfl)
noncomputable def fe48:FE:=mkFE Tryz.f48 (q0) true
theorem fo48:FEOk 48 fe48:=feOk Tryz.func48 (by kernel_rfl) (by kernel_rfl)
noncomputable def fe49:FE:=mkFE Tryz.f49 (q0) false
theorem fo49:FEOk 49 fe49:=feOk Tryz.func49 (by kernel_rfl) (by kernel_rfl)
noncomputable def fe50:FE:=mkFE Tryz.f50 (q0) true
theorem fo50:FEOk 50 fe50:=feOk Tryz.func50 (by kernel_rfl) (by kernel_rfl)
noncomputable def fe51:FE:=mkFE Tryz.f51 (fun i=>bif Nat.beq i 1 then some [(some 11,some 7)] else none) true
theorem fo51:FEOk 51 fe51:=feOk Tryz.func51 (by kernel_rfl) (by kernel_rfl)
noncomputable def fe52:FE:=mkFE Tryz.f52 (q0) true
theorem fo52:FEOk 52 fe52:=feOk Tryz.func52 (by kernel_rfl) (by kernel_rfl)
noncomputable def fe53:FE:=mkFE Tryz.f53 (fun i=>bif Nat.beq i 8 then some [(some 24,none)] else none) false
theorem fo53:FEOk 53 fe53:=feOk Tryz.func53 (by kernel_rfl) (by kernel_rfl)
noncomputable def fe54:FE:=mkFE Tryz.f54 (fun i=>bif Nat.beq i 1 then some [(some 3,some 4)] else none) true
theorem fo54:FEOk 54 fe54:=feOk Tryz.func54 (by kernel_rfl) (by kernel_rfl)
noncomputable def fe60:FE:=mkFE Tryz.f60 (fun i=>bif Nat.beq i 1 then some [(some 19,some 17),(some 22,some 17),(some 22,some 20)] else none) true
theorem fo60:FEOk 60 fe60:=feOk Tryz.func60 (by kernel_rfl) (by kernel_rfl)
noncomputable def fe61:FE:=mkFE Tryz.f61 (q0) true
theorem fo61:FEOk 61 fe61:=feOk Tryz.func61 (by kernel_rfl) (by kernel_rfl)
noncomputable def fe62:FE:=mkFE Tryz.f62 (q0) true
theorem fo62:FEOk 62 fe62:=feOk Tryz.func62 (by kernel_rfl) (by kernel_rfl)
noncomputable def fe63:FE:=mkFE Tryz.f63 (q0) true
theorem fo63:FEOk 63 fe63:=feOk Tryz.func63 (by kernel_rfl) (by kernel_rfl)
noncomputable def fe64:FE:=mkFE Tryz.f64 (fun i=>bif Nat.beq i 8 then some [(some 50,none)] else none) false
theorem fo64:FEOk 64 fe64:=feOk Tryz.func64 (by kernel_rfl) (by kernel_rfl)
noncomputable def fe65:FE:=mkFE Tryz.f65 (q0) true
theorem fo65:FEOk 65 fe65:=feOk Tryz.func65 (by kernel_rfl) (by kernel_rfl)
noncomputable def fe66:FE:=mkFE Tryz.f66 (q0) true
theorem fo66:FEOk 66 fe66:=feOk Tryz.func66 (by kernel_rfl) (by kernel_rfl)
noncomputable def fe67:FE:=mkFE Tryz.f67 (q0) true
theorem fo67:FEOk 67 fe67:=feOk Tryz.func67 (by kernel_rfl) (by kernel_rfl)
noncomputable def fe68:FE:=mkFE Tryz.f68 (fun i=>bif Nat.beq i 15 then some [(some 60,some 63)] else none) true
theorem fo68:FEOk 68 fe68:=feOk Tryz.func68 (by kernel_rfl) (by kernel_rfl)
noncomputable def fe69:FE:=mkFE Tryz.f69 (q0) false
theorem fo69:FEOk 69 fe69:=feOk Tryz.func69 (by kernel_rfl) (by kernel_rfl)
noncomputable def fe70:FE:=mkFE Tryz.f70 (q0) true
theorem fo70:FEOk 70 fe70:=feOk Tryz.func70 (by kernel_rfl) (by kernel_rfl)
noncomputable def fe71:FE:=mkFE Tryz.f71 (q0) false
theorem fo71:FEOk 71 fe71:=feOk Tryz.func71 (by kernel_rfl) (by kernel_rfl)
noncomputable def fe72:FE:=mkFE Tryz.f72 (q0) true
theorem fo72:FEOk 72 fe72:=feOk Tryz.func72 (by kernel_rfl) (by kernel_rfl)
noncomputable def fe73:FE:=mkFE Tryz.f73 (q0) true
theorem fo73:FEOk 73 fe73:=feOk Tryz.func73 (by kernel_rfl) (by kernel_rfl)
noncomputable def fe74:FE:=mkFE Tryz.f74 (q0) true
theorem fo74:FEOk 74 fe74:=feOk Tryz.func74 (by kernel_rfl) (by kernel_rfl)
noncomputable def fe75:FE:=mkFE Tryz.f75 (q0) true
theorem fo75:FEOk 75 fe75:=feOk Tryz.func75 (by kernel_rfl) (by kernel_rfl)
noncomputable def fe84:FE:=mkFE Tryz.f84 (q0) true
theorem fo84:FEOk 84 fe84:=feOk Tryz.func84 (by kernel_rfl) (by kernel_rfl)
noncomputable def fe85:FE:=mkFE Tryz.f85 (q0) false
theorem fo85:FEOk 85 fe85:=feOk Tryz.func85 (by kernel_rfl) (by kernel_rfl)
noncomputable def fe86:FE:=mkFE Tryz.f86 (q0) false
theorem fo86:FEOk 86 fe86:=feOk Tryz.func86 (by kernel_rfl) (by kernel_rfl)
noncomputable def fe87:FE:=mkFE Tryz.f87 (q0) false
theorem fo87:FEOk 87 fe87:=feOk Tryz.func87 (by kernel_rfl) (by kernel_rfl)
noncomputable def fe88:FE:=mkFE Tryz.f88 (q0) false
theorem fo88:FEOk 88 fe88:=feOk Tryz.func88 (by kernel_rfl) (by kernel_rfl)
noncomputable def fe89:FE:=mkFE Tryz.f89 (fun i=>bif Nat.beq i 2 then some [(some 18,some 17)] else none) false
theorem fo89:FEOk 89 fe89:=feOk Tryz.func89 (by kernel_rfl) (by kernel_rfl)
noncomputable def fe90:FE:=mkFE Tryz.f90 (q0) false
theorem fo90:FEOk 90 fe90:=feOk Tryz.func90 (by kernel_rfl) (by kernel_rfl)
noncomputable def fe92:FE:=mkFE Tryz.f92 (q0) true
theorem fo92:FEOk 92 fe92:=feOk Tryz.func92 (by kernel_rfl) (by kernel_rfl)
noncomputable def fe93:FE:=mkFE Tryz.f93 (q0) true
theorem fo93:FEOk 93 fe93:=feOk Tryz.func93 (by kernel_rfl) (by kernel_rfl)
noncomputable def fe94:FE:=mkFE Tryz.f94 (q0) true
theorem fo94:FEOk 94 fe94:=feOk Tryz.func94 (by kernel_rfl) (by kernel_rfl)
noncomputable def fe95:FE:=mkFE Tryz.f95 (q0) true
theorem fo95:FEOk 95 fe95:=feOk Tryz.func95 (by kernel_rfl) (by kernel_rfl)
noncomputable def fe97:FE:=mkFE Tryz.f97 (q0) true
theorem fo97:FEOk 97 fe97:=feOk Tryz.func97 (by kernel_rfl) (by kernel_rfl)
noncomputable def fe98:FE:=mkFE Tryz.f98 (q0) true
theorem fo98:FEOk 98 fe98:=feOk Tryz.func98 (by kernel_rfl) (by kernel_rfl)
noncomputable def fe99:FE:=mkFE Tryz.f99 (q0) true
theorem fo99:FEOk 99 fe99:=feOk Tryz.func99 (by kernel_rfl) (by kernel_rfl)
noncomputable def fe100:FE:=mkFE Tryz.f100 (q0) false
theorem fo100:FEOk 100 fe100:=feOk Tryz.func100 (by kernel_rfl) (by kernel_rfl)
noncomputable def fe101:FE:=mkFE Tryz.f101 (q0) true
theorem fo101:FEOk 101 fe101:=feOk Tryz.func101 (by kernel_rfl) (by kernel_rfl)
noncomputable def fe102:FE:=mkFE Tryz.f102 (q0) true
theorem fo102:FEOk 102 fe102:=feOk Tryz.func102 (by kernel_rfl) (by kernel_rfl)
noncomputable def fe103:FE:=mkFE Tryz.f103 (q0) false
theorem fo103:FEOk 103 fe103:=feOk Tryz.func103 (by kernel_rfl) (by kernel_rfl)
noncomputable def fe104:FE:=mkFE Tryz.f104 (q0) false
theorem fo104:FEOk 104 fe104:=feOk Tryz.func104 (by kernel_rfl) (by kernel_rfl)
noncomputable def fe105:FE:=mkFE Tryz.f105 (q0) true
theorem fo105:FEOk 105 fe105:=feOk Tryz.func105 (by kernel_rfl) (by kernel_rfl)
noncomputable def fe106:FE:=mkFE Tryz.f106 (q0) true
theorem fo106:FEOk 106 fe106:=feOk Tryz.func106 (by kernel_rfl) (by kernel_rfl)
noncomputable def fe107:FE:=mkFE Tryz.f107 (q0) false
theorem fo107:FEOk 107 fe107:=feOk Tryz.func107 (by kernel_rfl) (by kernel_rfl)
noncomputable def fe112:FE:=mkFE Tryz.f112 (q0) true
theorem fo112:FEOk 112 fe112:=feOk Tryz.func112 (by kernel_rfl) (by kernel_rfl)
noncomputable def fe113:FE:=mkFE Tryz.f113 (q0) true
theorem fo113:FEOk 113 fe113:=feOk Tryz.func113 (by kernel_rfl) (by kernel_rfl)
noncomputable def fe114:FE:=mkFE Tryz.f114 (q0) true
theorem fo114:FEOk 114 fe114:=feOk Tryz.func114 (by kernel_rfl) (by kernel_rfl)
noncomputable def fe115:FE:=mkFE Tryz.f115 (q0) true
theorem fo115:FEOk 115 fe115:=feOk Tryz.func115 (by kernel_rfl) (by kernel_rfl)
noncomputable def fe116:FE:=mkFE Tryz.f116 (q0) true
theorem fo116:FEOk 116 fe116:=feOk Tryz.func116 (by kernel_rfl) (by kernel_rfl)
noncomputable def fe117:FE:=mkFE Tryz.f117 (q0) false
theorem fo117:FEOk 117 fe117:=feOk Tryz.func117 (by kernel_rfl) (by kernel_rfl)
noncomputable def fe119:FE:=mkFE Tryz.f119 (q0) true
theorem fo119:FEOk 119 fe119:=feOk Tryz.func119 (by kernel_rfl) (by kernel_rfl)
noncomputable def fe120:FE:=mkFE Tryz.f120 (q0) true
theorem fo120:FEOk 120 fe120:=feOk Tryz.func120 (by kernel_rfl) (by kernel_rfl)
noncomputable def fe121:FE:=mkFE Tryz.f121 (q0) true
theorem fo121:FEOk 121 fe121:=feOk Tryz.func121 (by kernel_rfl) (by kernel_rfl)
noncomputable def fe122:FE:=mkFE Tryz.f122 (q0) true
theorem fo122:FEOk 122 fe122:=feOk Tryz.func122 (by kernel_rfl) (by kernel_rfl)
noncomputable def fe123:FE:=mkFE Tryz.f123 (fun i=>bif Nat.beq i 1 then some [(some 8,some 7)] else none) false
theorem fo123:FEOk 123 fe123:=feOk Tryz.func123 (by kernel_rfl) (by kernel_rfl)
noncomputable def fe124:FE:=mkFE Tryz.f124 (fun i=>bif Nat.beq i 1 then some [(some 8,some 7)] else none) false
theorem fo124:FEOk 124 fe124:=feOk Tryz.func124 (by kernel_rfl) (by kernel_rfl)
noncomputable def fe125:FE:=mkFE Tryz.f125 (q0) false
theorem fo125:FEOk 125 fe125:=feOk Tryz.func125 (by kernel_rfl) (by kernel_rfl)
noncomputable def fe126:FE:=mkFE Tryz.f126 (q0) false
theorem fo126:FEOk 126 fe126:=feOk Tryz.func126 (by kernel_rfl) (by kernel_rfl)
noncomputable def fe128:FE:=mkFE Tryz.f128 (q0) true
theorem fo128:FEOk 128 fe128:=feOk Tryz.func128 (by kernel_rfl) (by kernel_rfl)
noncomputable def fe129:FE:=mkFE Tryz.f129 (q0) true
theorem fo129:FEOk 129 fe129:=feOk Tryz.func129 (by kernel_rfl) (by kernel_rfl)
noncomputable def fe130:FE:=mkFE Tryz.f130 (q0) true
theorem fo130:FEOk 130 fe130:=feOk Tryz.func130 (by kernel_rfl) (by kernel_rfl)
noncomputable def fe131:FE:=mkFE Tryz.f131 (q0) true
theorem fo131:FEOk 131 fe131:=feOk Tryz.func131 (by kernel_rfl) (by kernel_rfl)
noncomputable def fe132:FE:=mkFE Tryz.f132 (q0) true
theorem fo132:FEOk 132 fe132:=feOk Tryz.func132 (by kernel_rfl) (by kernel_rfl)
noncomputable def fe133:FE:=mkFE Tryz.f133 (q0) false
theorem fo133:FEOk 133 fe133:=feOk Tryz.func133 (by kernel_rfl) (by kernel_rfl)
noncomputable def fe134:FE:=mkFE Tryz.f134 (q0) false
theorem fo134:FEOk 134 fe134:=feOk Tryz.func134 (by kernel_rfl) (by kernel_rfl)
noncomputable def fe135:FE:=mkFE Tryz.f135 (q0) true
theorem fo135:FEOk 135 fe135:=feOk Tryz.func135 (by kernel_rfl) (by kernel_rfl)
noncomputable def fe136:FE:=mkFE Tryz.f136 (q0) true
theorem fo136:FEOk 136 fe136:=feOk Tryz.func136 (by kernel_rfl) (by kernel_rfl)
noncomputable def fe137:FE:=mkFE Tryz.f137 (q0) true
theorem fo137:FEOk 137 fe137:=feOk Tryz.func137 (by kernel_rfl) (by kernel_rfl)
noncomputable def fe138:FE:=mkFE Tryz.f138 (q0) true
theorem fo138:FEOk 138 fe138:=feOk Tryz.func138 (by kernel_rfl) (by kernel_rfl)
noncomputable def fe139:FE:=mkFE Tryz.f139 (q0) false
theorem fo139:FEOk 139 fe139:=feOk Tryz.func139 (by kernel_rfl) (by kernel_rfl)
noncomputable def fe140:FE:=mkFE Tryz.f140 (q0) true
theorem fo140:FEOk 140 fe140:=feOk Tryz.func140 (by kernel_rfl) (by kernel_rfl)
noncomputable def fe141:FE:=mkFE Tryz.f141 (q0) true
theorem fo141:FEOk 141 fe141:=feOk Tryz.func141 (by kernel_rfl) (by kernel_rfl)
noncomputable def fe142:FE:=mkFE Tryz.f142 (q0) true
theorem fo142:FEOk 142 fe142:=feOk Tryz.func142 (by kernel_rfl) (by kernel_rfl)
noncomputable def fe143:FE:=mkFE Tryz.f143 (q0) true
theorem fo143:FEOk 143 fe143:=feOk Tryz.func143 (by kernel_rfl) (by kernel_rfl)
noncomputable def fe144:FE:=mkFE Tryz.f144 (q0) true
theorem fo144:FEOk 144 fe144:=feOk Tryz.func144 (by kernel_rfl) (by kernel_rfl)
noncomputable def fe145:FE:=mkFE Tryz.f145 (q0) true
theorem fo145:FEOk 145 fe145:=feOk Tryz.func145 (by kernel_rfl) (by kernel_rfl)
noncomputable def fe146:FE:=mkFE Tryz.f146 (q0) true
theorem fo146:FEOk 146 fe146:=feOk Tryz.func146 (by kernel_rfl) (by kernel_rfl)
noncomputable def fe148:FE:=mkFE Tryz.f148 (q0) true
theorem fo148:FEOk 148 fe148:=feOk Tryz.func148 (by kernel_rfl) (by kernel_rfl)
noncomputable def fe149:FE:=mkFE Tryz.f149 (q0) true
theorem fo149:FEOk 149 fe149:=feOk Tryz.func149 (by kernel_rfl) (by kernel_rfl)
noncomputable def fe150:FE:=mkFE Tryz.f150 (q0) true
theorem fo150:FEOk 150 fe150:=feOk Tryz.func150 (by kernel_rfl) (by kernel_rfl)
noncomputable def tabT:Tr:=(.n (.n (.n (.n (.n (.n (.n .z 5 fe5 .z) 8 fe8 (.n .z 9 fe9 .z)) 11 fe11 (.n (.n .z 12 fe12 .z) 13 fe13 .z)) 15 fe15 (.n (.n (.n .z 16 fe16 .z) 17 fe17 (.n .z 18 fe18 .z)) 19 fe19 (.n (.n .z 25 fe25 .z) 28 fe28 .z))) 29 fe29 (.n (.n (.n (.n .z 30 fe30 .z) 31 fe31 (.n .z 32 fe32 .z)) 33 fe33 (.n (.n .z 34 fe34 .z) 40 fe40 .z)) 41 fe41 (.n (.n (.n .z 42 fe42 .z) 46 fe46 .z) 47 fe47 (.n (.n .z 48 fe48 .z) 49 fe49 .z)))) 50 fe50 (.n (.n (.n (.n (.n .z 51 fe51 .z) 52 fe52 (.n .z 53 fe53 .z)) 54 fe54 (.n (.n .z 60 fe60 .z) 61 fe61 .z)) 62 fe62 (.n (.n (.n .z 63 fe63 .z) 64 fe64 .z) 65 fe65 (.n (.n .z 66 fe66 .z) 67 fe67 .z))) 68 fe68 (.n (.n (.n (.n .z 69 fe69 .z) 70 fe70 (.n .z 71 fe71 .z)) 72 fe72 (.n (.n .z 73 fe73 .z) 74 fe74 .z)) 75 fe75 (.n (.n (.n .z 84 fe84 .z) 85 fe85 .z) 86 fe86 (.n (.n .z 87 fe87 .z) 88 fe88 .z))))) 89 fe89 (.n (.n (.n (.n (.n (.n .z 90 fe90 .z) 92 fe92 (.n .z 93 fe93 .z)) 94 fe94 (.n (.n .z 95 fe95 .z) 97 fe97 .z)) 98 fe98 (.n (.n (.n .z 99 fe99 .z) 100 fe100 (.n .z 101 fe101 .z)) 102 fe102 (.n (.n .z 103 fe103 .z) 104 fe104 .z))) 105 fe105 (.n (.n (.n (.n .z 106 fe106 .z) 107 fe107 (.n .z 112 fe112 .z)) 113 fe113 (.n (.n .z 114 fe114 .z) 115 fe115 .z)) 116 fe116 (.n (.n (.n .z 117 fe117 .z) 119 fe119 .z) 120 fe120 (.n (.n .z 121 fe121 .z) 122 fe122 .z)))) 123 fe123 (.n (.n (.n (.n (.n .z 124 fe124 .z) 125 fe125 (.n .z 126 fe126 .z)) 128 fe128 (.n (.n .z 129 fe129 .z) 130 fe130 .z)) 131 fe131 (.n (.n (.n .z 132 fe132 .z) 133 fe133 .z) 134 fe134 (.n (.n .z 135 fe135 .z) 136 fe136 .z))) 137 fe137 (.n (.n (.n (.n .z 138 fe138 .z) 139 fe139 (.n .z 140 fe140 .z)) 141 fe141 (.n (.n .z 142 fe142 .z) 143 fe143 .z)) 144 fe144 (.n (.n (.n .z 145 fe145 .z) 146 fe146 .z) 148 fe148 (.n (.n .z 149 fe149 .z) 150 fe150 .z))))))
noncomputable def tab (f:FuncId):Option FE:=tabT.get f
theorem tabA:tabT.All:=⟨⟨⟨⟨⟨⟨⟨⟨⟩,fo5,⟨⟩⟩,fo8,⟨⟨⟩,fo9,⟨⟩⟩⟩,fo11,⟨⟨⟨⟩,fo12,⟨⟩⟩,fo13,⟨⟩⟩⟩,fo15,⟨⟨⟨⟨⟩,fo16,⟨⟩⟩,fo17,⟨⟨⟩,fo18,⟨⟩⟩⟩,fo19,⟨⟨⟨⟩,fo25,⟨⟩⟩,fo28,⟨⟩⟩⟩⟩,fo29,⟨⟨⟨⟨⟨⟩,fo30,⟨⟩⟩,fo31,⟨⟨⟩,fo32,⟨⟩⟩⟩,fo33,⟨⟨⟨⟩,fo34,⟨⟩⟩,fo40,⟨⟩⟩⟩,fo41,⟨⟨⟨⟨⟩,fo42,⟨⟩⟩,fo46,⟨⟩⟩,fo47,⟨⟨⟨⟩,fo48,⟨⟩⟩,fo49,⟨⟩⟩⟩⟩⟩,fo50,⟨⟨⟨⟨⟨⟨⟩,fo51,⟨⟩⟩,fo52,⟨⟨⟩,fo53,⟨⟩⟩⟩,fo54,⟨⟨⟨⟩,fo60,⟨⟩⟩,fo61,⟨⟩⟩⟩,fo62,⟨⟨⟨⟨⟩,fo63,⟨⟩⟩,fo64,⟨⟩⟩,fo65,⟨⟨⟨⟩,fo66,⟨⟩⟩,fo67,⟨⟩⟩⟩⟩,fo68,⟨⟨⟨⟨⟨⟩,fo69,⟨⟩⟩,fo70,⟨⟨⟩,fo71,⟨⟩⟩⟩,fo72,⟨⟨⟨⟩,fo73,⟨⟩⟩,fo74,⟨⟩⟩⟩,fo75,⟨⟨⟨⟨⟩,fo84,⟨⟩⟩,fo85,⟨⟩⟩,fo86,⟨⟨⟨⟩,fo87,⟨⟩⟩,fo88,⟨⟩⟩⟩⟩⟩⟩,fo89,⟨⟨⟨⟨⟨⟨⟨⟩,fo90,⟨⟩⟩,fo92,⟨⟨⟩,fo93,⟨⟩⟩⟩,fo94,⟨⟨⟨⟩,fo95,⟨⟩⟩,fo97,⟨⟩⟩⟩,fo98,⟨⟨⟨⟨⟩,fo99,⟨⟩⟩,fo100,⟨⟨⟩,fo101,⟨⟩⟩⟩,fo102,⟨⟨⟨⟩,fo103,⟨⟩⟩,fo104,⟨⟩⟩⟩⟩,fo105,⟨⟨⟨⟨⟨⟩,fo106,⟨⟩⟩,fo107,⟨⟨⟩,fo112,⟨⟩⟩⟩,fo113,⟨⟨⟨⟩,fo114,⟨⟩⟩,fo115,⟨⟩⟩⟩,fo116,⟨⟨⟨⟨⟩,fo117,⟨⟩⟩,fo119,⟨⟩⟩,fo120,⟨⟨⟨⟩,fo121,⟨⟩⟩,fo122,⟨⟩⟩⟩⟩⟩,fo123,⟨⟨⟨⟨⟨⟨⟩,fo124,⟨⟩⟩,fo125,⟨⟨⟩,fo126,⟨⟩⟩⟩,fo128,⟨⟨⟨⟩,fo129,⟨⟩⟩,fo130,⟨⟩⟩⟩,fo131,⟨⟨⟨⟨⟩,fo132,⟨⟩⟩,fo133,⟨⟩⟩,fo134,⟨⟨⟨⟩,fo135,⟨⟩⟩,fo136,⟨⟩⟩⟩⟩,fo137,⟨⟨⟨⟨⟨⟩,fo138,⟨⟩⟩,fo139,⟨⟨⟩,fo140,⟨⟩⟩⟩,fo141,⟨⟨⟨⟩,fo142,⟨⟩⟩,fo143,⟨⟩⟩⟩,fo144,⟨⟨⟨⟨⟩,fo145,⟨⟩⟩,fo146,⟨⟩⟩,fo148,⟨⟨⟨⟩,fo149,⟨⟩⟩,fo150,⟨⟩⟩⟩⟩⟩⟩⟩
theorem tab_fn (f:FuncId) (e:FE) (h:tab f=some e):FnOk cx f e.body e.N e.rs∧BodyOk cx f pF e.q:=Tr.ok tabA h
noncomputable def extF:FuncId→List AVal→Option AVal:=extT 127 147
theorem tabOk:TabOk cx tab extF:=⟨tab_fn,extT_ok ⟨_,Tryz.func127,by kernel_rfl,by kernel_rfl,by kernel_rfl,by kernel_rfl⟩ ⟨_,Tryz.func147,by kernel_rfl,by kernel_rfl,by kernel_rfl,by kernel_rfl⟩,cxG,cxOk⟩
end Go.Am

/- The seat's types and functions, as tables. Printed by a program. -/
import Derived.Test.YteemcehaekffeaaGreatProg
import Derived.Test.YteemcehaekffeaaGreatAmShelf
import Derived.Lib.ItoaNum
import Derived.KernelRfl
set_option linter.unusedVariables false
set_option linter.unusedSimpArgs false
namespace Go.Am
open Go Go.Proofs
set_option maxRecDepth 100000
abbrev kd7:TypeDesc:=.struct #[⟨ "x", 2,0,false, "", "runtime", 0⟩,⟨ "y", 3,1,false, "", "runtime", 8⟩,⟨ "signed", 4,2,false, "", "runtime", 16⟩,⟨ "code", 6,3,false, "", "runtime", 17⟩]
abbrev kd13:TypeDesc:=.struct #[⟨ "msg", 9,0,false, "", "runtime", 0⟩,⟨ "addr", 12,1,false, "", "runtime", 16⟩]
abbrev kd18:TypeDesc:=.struct #[⟨ "typ", 17,0,false, "", "internal/runtime/maps", 0⟩]
abbrev kd27:TypeDesc:=.struct #[⟨ "o", 24,0,false, "", "anchorite/anchoritelaw11", 0⟩,⟨ "x", 25,1,false, "", "anchorite/anchoritelaw11", 8⟩,⟨ "w", 26,2,false, "", "anchorite/anchoritelaw11", 16⟩]
abbrev kd36:TypeDesc:=.struct #[⟨ "Instance", 31,0,false, "", "", 0⟩,⟨ "State", 32,1,false, "", "", 8⟩,⟨ "Root", 3,2,false, "", "", 16⟩,⟨ "Nodes", 31,3,false, "", "", 24⟩,⟨ "Measure", 34,4,false, "", "", 32⟩,⟨ "Log", 35,36,false, "", "", 64⟩,⟨ "Key", 34,37,false, "", "", 88⟩,⟨ "Counter", 31,69,false, "", "", 120⟩,⟨ "Tree", 34,70,false, "", "", 128⟩,⟨ "Recs", 3,102,false, "", "", 160⟩]
abbrev kd41:TypeDesc:=.struct #[⟨ "Value", 34,0,false, "", "", 0⟩,⟨ "Nodes", 31,32,false, "", "", 32⟩]
abbrev kd46:TypeDesc:=.struct #[⟨ "PC", 31,0,false, "", "", 0⟩,⟨ "Regs", 45,1,false, "", "", 8⟩,⟨ "Runnable", 4,9,false, "", "", 72⟩]
abbrev kd48:TypeDesc:=.struct #[⟨ "Kind", 3,0,false, "", "", 0⟩,⟨ "RD", 3,1,false, "", "", 8⟩,⟨ "Root", 3,2,false, "", "", 16⟩,⟨ "Page", 3,3,false, "", "", 24⟩,⟨ "Params", 42,4,false, "", "", 32⟩,⟨ "Tree", 34,37,false, "", "", 72⟩,⟨ "Bytes", 44,69,false, "", "", 104⟩,⟨ "Rec", 47,197,false, "", "", 232⟩]
abbrev kd56:TypeDesc:=.struct #[⟨ "Kind", 55,0,false, "", "", 0⟩,⟨ "Value", 34,1,false, "", "", 8⟩,⟨ "Page", 3,33,false, "", "", 40⟩,⟨ "Data", 44,34,false, "", "", 48⟩,⟨ "Rec", 47,162,false, "", "", 176⟩]
abbrev kd78:TypeDesc:=.struct #[⟨ "Ideal", 4,0,false, "", "", 0⟩,⟨ "Master", 34,1,false, "", "", 1⟩,⟨ "Draws", 74,33,false, "", "", 40⟩,⟨ "Used", 3,34,false, "", "", 64⟩,⟨ "Log", 77,35,false, "", "", 72⟩]
abbrev kd81:TypeDesc:=.struct #[⟨ "O", 76,0,false, "", "", 0⟩,⟨ "All", 80,1,false, "", "", 8⟩,⟨ "Last", 31,2,false, "", "", 32⟩]
abbrev kd89:TypeDesc:=.struct #[⟨ "o", 24,0,false, "", "anchorite/realm", 0⟩,⟨ "all", 88,1,false, "", "anchorite/realm", 8⟩,⟨ "last", 31,2,false, "", "anchorite/realm", 16⟩]
abbrev kd98:TypeDesc:=.struct #[⟨ "RD", 3,0,false, "", "", 0⟩,⟨ "R", 37,1,false, "", "", 8⟩]
abbrev kd107:TypeDesc:=.struct #[⟨ "ideal", 4,0,false, "", "anchorite/oracle", 0⟩,⟨ "master", 34,1,false, "", "anchorite/oracle", 1⟩,⟨ "draws", 74,33,false, "", "anchorite/oracle", 40⟩,⟨ "used", 3,34,false, "", "anchorite/oracle", 64⟩,⟨ "known", 106,35,false, "", "anchorite/oracle", 72⟩,⟨ "log", 77,36,false, "", "anchorite/oracle", 80⟩]
abbrev kd111:TypeDesc:=.struct #[⟨ "Kind", 110,0,false, "", "", 0⟩,⟨ "Key", 34,1,false, "", "", 8⟩,⟨ "Domain", 93,33,false, "", "", 40⟩,⟨ "Data", 94,34,false, "", "", 48⟩]
abbrev kd113:TypeDesc:=.struct #[⟨ "Question", 112,0,false, "", "", 0⟩,⟨ "Answer", 34,35,false, "", "", 72⟩]
abbrev kd115:TypeDesc:=.struct #[⟨ "kind", 110,0,false, "", "anchorite/oracle", 0⟩,⟨ "key", 34,1,false, "", "anchorite/oracle", 8⟩,⟨ "domain", 93,33,false, "", "anchorite/oracle", 40⟩,⟨ "data", 9,34,false, "", "anchorite/oracle", 48⟩]
abbrev kd187:TypeDesc:=.struct #[⟨ "k", 184,0,false, "", "anchorite/sha", 0⟩,⟨ "h", 167,64,false, "", "anchorite/sha", 256⟩,⟨ "rest", 94,72,false, "", "anchorite/sha", 288⟩,⟨ "n", 3,73,false, "", "anchorite/sha", 312⟩,⟨ "is", 4,74,false, "", "anchorite/sha", 320⟩]
abbrev kd224:TypeDesc:=.struct #[⟨ "_interface", 17,0,false, "", "runtime", 0⟩,⟨ "concrete", 17,1,false, "", "runtime", 8⟩,⟨ "asserted", 17,2,false, "", "runtime", 16⟩,⟨ "missingMethod", 9,3,false, "", "runtime", 24⟩]
abbrev kd227:TypeDesc:=.struct #[⟨ "_", 226,0,false, "", "runtime", 0⟩]
abbrev kd236:TypeDesc:=.struct #[⟨ "Size_", 12,0,false, "", "", 0⟩,⟨ "PtrBytes", 12,1,false, "", "", 8⟩,⟨ "Hash", 166,2,false, "", "", 16⟩,⟨ "TFlag", 230,3,false, "", "", 20⟩,⟨ "Align_", 5,4,false, "", "", 21⟩,⟨ "FieldAlign_", 5,5,false, "", "", 22⟩,⟨ "Kind_", 231,6,false, "", "", 23⟩,⟨ "Equal", 232,7,false, "", "", 24⟩,⟨ "GCData", 233,8,false, "", "", 32⟩,⟨ "Str", 234,9,false, "", "", 40⟩,⟨ "PtrToThis", 235,10,false, "", "", 44⟩]
def ti1:TI:=⟨(.func #[] #[] false),1,8,[.nilfn]⟩
def ti2:TI:=⟨(.int .i64),1,8,[(.int .i64 0)]⟩
def ti3:TI:=⟨(.int .i64),1,8,[(.int .i64 0)]⟩
def ti4:TI:=⟨.bool,1,1,[(.bool false)]⟩
def ti5:TI:=⟨(.int .u8),1,1,[(.int .u8 0)]⟩
def ti6:TI:=⟨(.int .u8),1,1,[(.int .u8 0)]⟩
def ti7:TI:=⟨kd7,4,24,[(.int .i64 0),(.int .i64 0),(.bool false),(.int .u8 0)]⟩
def ti8:TI:=⟨kd7,4,24,[(.int .i64 0),(.int .i64 0),(.bool false),(.int .u8 0)]⟩
def ti9:TI:=⟨.string,1,16,[(.str [])]⟩
def ti10:TI:=⟨.string,1,16,[(.str [])]⟩
def ti11:TI:=⟨.string,1,16,[(.str [])]⟩
def ti12:TI:=⟨(.int .u64),1,8,[(.int .u64 0)]⟩
def ti13:TI:=⟨kd13,2,24,[(.str []),(.int .u64 0)]⟩
def ti14:TI:=⟨kd13,2,24,[(.str []),(.int .u64 0)]⟩
def ti15:TI:=⟨(.pointer 225),1,8,[.nilp]⟩
def ti16:TI:=⟨(.pointer 228),1,8,[.nilp]⟩
def ti17:TI:=⟨(.pointer 237),1,8,[.nilp]⟩
def ti18:TI:=⟨kd18,1,8,[.nilp]⟩
def ti19:TI:=⟨kd18,1,8,[.nilp]⟩
def ti20:TI:=⟨(.interface #[]),1,16,[.nilifc]⟩
def ti21:TI:=⟨(.int .i32),1,4,[(.int .i32 0)]⟩
def ti22:TI:=⟨(.slice 49),1,24,[(.sl 1 true [] .any)]⟩
def ti23:TI:=⟨(.func #[] #[4] false),1,8,[.nilfn]⟩
def ti24:TI:=⟨(.pointer 108),1,8,[.nilp]⟩
def ti25:TI:=⟨(.pointer 90),1,8,[.nilp]⟩
def ti26:TI:=⟨(.pointer 82),1,8,[.nilp]⟩
def ti27:TI:=⟨kd27,3,24,[.nilp,.nilp,.nilp]⟩
def ti28:TI:=⟨kd27,3,24,[.nilp,.nilp,.nilp]⟩
def ti29:TI:=⟨(.func #[74] #[28] false),1,8,[.nilfn]⟩
def ti30:TI:=⟨(.slice 31),1,24,[(.sl 1 true [] .any)]⟩
def ti31:TI:=⟨(.int .u64),1,8,[(.int .u64 0)]⟩
def ti32:TI:=⟨(.int .i64),1,8,[(.int .i64 0)]⟩
def ti33:TI:=⟨(.array 32 5),32,32,bl (List.replicate 32 0)⟩
def ti34:TI:=⟨(.array 32 5),32,32,bl (List.replicate 32 0)⟩
def ti35:TI:=⟨(.slice 57),1,24,[(.sl 1 true [] .any)]⟩
def ti36:TI:=⟨kd36,103,168,[(.int .u64 0),(.int .i64 0),(.int .i64 0),(.int .u64 0)]++bl (List.replicate 32 0)++[(.sl 1 true [] .any)]++bl (List.replicate 32 0)++[(.int .u64 0)]++bl (List.replicate 32 0)++[(.int .i64 0)]⟩
def ti37:TI:=⟨kd36,103,168,[(.int .u64 0),(.int .i64 0),(.int .i64 0),(.int .u64 0)]++bl (List.replicate 32 0)++[(.sl 1 true [] .any)]++bl (List.replicate 32 0)++[(.int .u64 0)]++bl (List.replicate 32 0)++[(.int .i64 0)]⟩
def ti38:TI:=⟨(.int .i64),1,8,[(.int .i64 0)]⟩
def ti40:TI:=⟨(.func #[3] #[37,38] false),1,8,[.nilfn]⟩
def ti41:TI:=⟨kd41,33,40,bl (List.replicate 32 0)++[(.int .u64 0)]⟩
def ti42:TI:=⟨kd41,33,40,bl (List.replicate 32 0)++[(.int .u64 0)]⟩
def ti43:TI:=⟨(.array 128 5),128,128,bl (List.replicate 128 0)⟩
def ti44:TI:=⟨(.array 128 5),128,128,bl (List.replicate 128 0)⟩
def ti45:TI:=⟨(.array 8 31),8,64,[(.int .u64 0),(.int .u64 0),(.int .u64 0),(.int .u64 0),(.int .u64 0),(.int .u64 0),(.int .u64 0),(.int .u64 0)]⟩
def ti46:TI:=⟨kd46,10,80,List.replicate 9 (.int .u64 0)++[(.bool false)]⟩
def ti47:TI:=⟨kd46,10,80,List.replicate 9 (.int .u64 0)++[(.bool false)]⟩
def ti48:TI:=⟨kd48,207,312,[(.int .i64 0),(.int .i64 0),(.int .i64 0),(.int .i64 0)]++bl (List.replicate 32 0)++[(.int .u64 0)]++bl (List.replicate 160 0)++List.replicate 9 (.int .u64 0)++[(.bool false)]⟩
def ti49:TI:=⟨kd48,207,312,[(.int .i64 0),(.int .i64 0),(.int .i64 0),(.int .i64 0)]++bl (List.replicate 32 0)++[(.int .u64 0)]++bl (List.replicate 160 0)++List.replicate 9 (.int .u64 0)++[(.bool false)]⟩
def ti50:TI:=⟨(.func #[3,3,42,34] #[37,38] false),1,8,[.nilfn]⟩
def ti52:TI:=⟨(.func #[3,3,42,34] #[37,3] false),1,8,[.nilfn]⟩
def ti53:TI:=⟨(.func #[49] #[4] false),1,8,[.nilfn]⟩
def ti54:TI:=⟨(.func #[34,57] #[34] false),1,8,[.nilfn]⟩
def ti55:TI:=⟨(.int .i64),1,8,[(.int .i64 0)]⟩
def ti56:TI:=⟨kd56,172,256,[(.int .i64 0)]++bl (List.replicate 32 0)++[(.int .i64 0)]++bl (List.replicate 128 0)++List.replicate 9 (.int .u64 0)++[(.bool false)]⟩
def ti57:TI:=⟨kd56,172,256,[(.int .i64 0)]++bl (List.replicate 32 0)++[(.int .i64 0)]++bl (List.replicate 128 0)++List.replicate 9 (.int .u64 0)++[(.bool false)]⟩
def ti58:TI:=⟨(.func #[22] #[4] false),1,8,[.nilfn]⟩
def ti59:TI:=⟨(.map 31 31),1,8,[.nilmap]⟩
def ti61:TI:=⟨(.func #[3] #[31,38] false),1,8,[.nilfn]⟩
def ti63:TI:=⟨(.func #[3] #[31,3] false),1,8,[.nilfn]⟩
def ti64:TI:=⟨(.func #[24] #[25] false),1,8,[.nilfn]⟩
def ti65:TI:=⟨(.func #[] #[24] false),1,8,[.nilfn]⟩
def ti66:TI:=⟨(.func #[117] #[] false),1,8,[.nilfn]⟩
def ti67:TI:=⟨(.func #[117] #[] false),1,8,[.nilfn]⟩
def ti68:TI:=⟨(.func #[] #[67] false),1,8,[.nilfn]⟩
def ti69:TI:=⟨(.func #[37,37] #[4] false),1,8,[.nilfn]⟩
def ti70:TI:=⟨(.func #[35,35] #[4] false),1,8,[.nilfn]⟩
def ti71:TI:=⟨(.func #[22,22] #[4] false),1,8,[.nilfn]⟩
def ti72:TI:=⟨(.func #[3] #[38] false),1,8,[.nilfn]⟩
def ti73:TI:=⟨(.func #[3,3,44] #[38] false),1,8,[.nilfn]⟩
def ti74:TI:=⟨(.slice 34),1,24,[(.sl 1 true [] .any)]⟩
def ti75:TI:=⟨(.func #[4,34,74] #[24] true),1,8,[.nilfn]⟩
def ti76:TI:=⟨(.pointer 79),1,8,[.nilp]⟩
def ti77:TI:=⟨(.slice 114),1,24,[(.sl 1 true [] .any)]⟩
def ti78:TI:=⟨kd78,36,96,[(.bool false)]++bl (List.replicate 32 0)++[(.sl 1 true [] .any),(.int .i64 0),(.sl 1 true [] .any)]⟩
def ti79:TI:=⟨kd78,36,96,[(.bool false)]++bl (List.replicate 32 0)++[(.sl 1 true [] .any),(.int .i64 0),(.sl 1 true [] .any)]⟩
def ti80:TI:=⟨(.slice 99),1,24,[(.sl 1 true [] .any)]⟩
def ti81:TI:=⟨kd81,3,40,[.nilp,(.sl 1 true [] .any),(.int .u64 0)]⟩
def ti82:TI:=⟨kd81,3,40,[.nilp,(.sl 1 true [] .any),(.int .u64 0)]⟩
def ti83:TI:=⟨(.func #[3,86] #[38] false),1,8,[.nilfn]⟩
def ti84:TI:=⟨(.pointer 37),1,8,[.nilp]⟩
def ti85:TI:=⟨(.func #[37] #[37] false),1,8,[.nilfn]⟩
def ti86:TI:=⟨(.func #[84] #[38] false),1,8,[.nilfn]⟩
def ti88:TI:=⟨(.map 3 37),1,8,[.nilmap]⟩
def ti89:TI:=⟨kd89,3,24,[.nilp,.nilmap,(.int .u64 0)]⟩
def ti90:TI:=⟨kd89,3,24,[.nilp,.nilmap,(.int .u64 0)]⟩
def ti92:TI:=⟨(.func #[93,130] #[34,38] true),1,8,[.nilfn]⟩
def ti93:TI:=⟨(.int .i64),1,8,[(.int .i64 0)]⟩
def ti94:TI:=⟨(.slice 5),1,24,[(.sl 1 true [] .any)]⟩
def ti95:TI:=⟨(.func #[31] #[94] false),1,8,[.nilfn]⟩
def ti96:TI:=⟨(.func #[3] #[3] false),1,8,[.nilfn]⟩
def ti97:TI:=⟨(.func #[93,94] #[34] false),1,8,[.nilfn]⟩
def ti98:TI:=⟨kd98,104,176,[(.int .i64 0),(.int .u64 0),(.int .i64 0),(.int .i64 0),(.int .u64 0)]++bl (List.replicate 32 0)++[(.sl 1 true [] .any)]++bl (List.replicate 32 0)++[(.int .u64 0)]++bl (List.replicate 32 0)++[(.int .i64 0)]⟩
def ti99:TI:=⟨kd98,104,176,[(.int .i64 0),(.int .u64 0),(.int .i64 0),(.int .i64 0),(.int .u64 0)]++bl (List.replicate 32 0)++[(.sl 1 true [] .any)]++bl (List.replicate 32 0)++[(.int .u64 0)]++bl (List.replicate 32 0)++[(.int .i64 0)]⟩
def ti100:TI:=⟨(.func #[3,3,44] #[3] false),1,8,[.nilfn]⟩
def ti101:TI:=⟨(.func #[3,47] #[38] false),1,8,[.nilfn]⟩
def ti102:TI:=⟨(.func #[3,47] #[3] false),1,8,[.nilfn]⟩
def ti103:TI:=⟨(.func #[3,34] #[38] false),1,8,[.nilfn]⟩
def ti104:TI:=⟨(.func #[3,34] #[3] false),1,8,[.nilfn]⟩
def ti105:TI:=⟨(.func #[47] #[44] false),1,8,[.nilfn]⟩
def ti106:TI:=⟨(.map 116 3),1,8,[.nilmap]⟩
def ti107:TI:=⟨kd107,37,104,[(.bool false)]++bl (List.replicate 32 0)++[(.sl 1 true [] .any),(.int .i64 0),.nilmap,(.sl 1 true [] .any)]⟩
def ti108:TI:=⟨kd107,37,104,[(.bool false)]++bl (List.replicate 32 0)++[(.sl 1 true [] .any),(.int .i64 0),.nilmap,(.sl 1 true [] .any)]⟩
def ti109:TI:=⟨(.func #[77] #[77] false),1,8,[.nilfn]⟩
def ti110:TI:=⟨(.int .i64),1,8,[(.int .i64 0)]⟩
def ti111:TI:=⟨kd111,35,72,[(.int .i64 0)]++bl (List.replicate 32 0)++[(.int .i64 0),(.sl 1 true [] .any)]⟩
def ti112:TI:=⟨kd111,35,72,[(.int .i64 0)]++bl (List.replicate 32 0)++[(.int .i64 0),(.sl 1 true [] .any)]⟩
def ti113:TI:=⟨kd113,67,104,[(.int .i64 0)]++bl (List.replicate 32 0)++[(.int .i64 0),(.sl 1 true [] .any)]++bl (List.replicate 32 0)⟩
def ti114:TI:=⟨kd113,67,104,[(.int .i64 0)]++bl (List.replicate 32 0)++[(.int .i64 0),(.sl 1 true [] .any)]++bl (List.replicate 32 0)⟩
def ti115:TI:=⟨kd115,35,64,[(.int .i64 0)]++bl (List.replicate 32 0)++[(.int .i64 0),(.str [])]⟩
def ti116:TI:=⟨kd115,35,64,[(.int .i64 0)]++bl (List.replicate 32 0)++[(.int .i64 0),(.str [])]⟩
def ti117:TI:=⟨(.func #[3,37] #[4] false),1,8,[.nilfn]⟩
def ti118:TI:=⟨(.slice 3),1,24,[(.sl 1 true [] .any)]⟩
def ti119:TI:=⟨(.func #[121] #[118] false),1,8,[.nilfn]⟩
def ti120:TI:=⟨(.func #[144] #[] false),1,8,[.nilfn]⟩
def ti121:TI:=⟨(.func #[144] #[] false),1,8,[.nilfn]⟩
def ti122:TI:=⟨(.func #[88] #[121] false),1,8,[.nilfn]⟩
def ti124:TI:=⟨(.func #[31] #[3,4] false),1,8,[.nilfn]⟩
def ti125:TI:=⟨(.func #[77,77] #[4] false),1,8,[.nilfn]⟩
def ti126:TI:=⟨(.func #[] #[77] false),1,8,[.nilfn]⟩
def ti127:TI:=⟨(.func #[84,57,34,38] #[38] false),1,8,[.nilfn]⟩
def ti128:TI:=⟨(.func #[74] #[74] false),1,8,[.nilfn]⟩
def ti129:TI:=⟨(.func #[35] #[35] false),1,8,[.nilfn]⟩
def ti130:TI:=⟨(.slice 94),1,24,[(.sl 1 true [] .any)]⟩
def ti131:TI:=⟨(.func #[112] #[34,38] false),1,8,[.nilfn]⟩
def ti132:TI:=⟨(.func #[130] #[94] false),1,8,[.nilfn]⟩
def ti134:TI:=⟨(.func #[31,3] #[94,38] false),1,8,[.nilfn]⟩
def ti135:TI:=⟨(.func #[112] #[34] false),1,8,[.nilfn]⟩
def ti136:TI:=⟨(.int .u64),1,8,[(.int .u64 0)]⟩
def ti137:TI:=⟨(.func #[3,57] #[3] false),1,8,[.nilfn]⟩
def ti139:TI:=⟨(.func #[47] #[44,38] false),1,8,[.nilfn]⟩
def ti140:TI:=⟨(.func #[47] #[4] false),1,8,[.nilfn]⟩
def ti141:TI:=⟨(.func #[130] #[44] true),1,8,[.nilfn]⟩
def ti142:TI:=⟨(.func #[9] #[94] false),1,8,[.nilfn]⟩
def ti143:TI:=⟨(.func #[118] #[] false),1,8,[.nilfn]⟩
def ti144:TI:=⟨(.func #[3] #[4] false),1,8,[.nilfn]⟩
def ti145:TI:=⟨(.func #[112,112] #[4] false),1,8,[.nilfn]⟩
def ti146:TI:=⟨(.func #[94] #[94] false),1,8,[.nilfn]⟩
def ti147:TI:=⟨(.func #[112] #[4] false),1,8,[.nilfn]⟩
def ti148:TI:=⟨(.func #[112,152] #[34] false),1,8,[.nilfn]⟩
def ti149:TI:=⟨(.func #[94] #[34] false),1,8,[.nilfn]⟩
def ti150:TI:=⟨(.func #[112] #[94] false),1,8,[.nilfn]⟩
def ti151:TI:=⟨(.func #[94,94] #[34] false),1,8,[.nilfn]⟩
def ti152:TI:=⟨(.func #[] #[34] false),1,8,[.nilfn]⟩
def ti153:TI:=⟨(.func #[130] #[94] true),1,8,[.nilfn]⟩
def ti154:TI:=⟨(.func #[112,34] #[34] false),1,8,[.nilfn]⟩
def ti155:TI:=⟨(.func #[31,3] #[94] false),1,8,[.nilfn]⟩
def ti156:TI:=⟨(.func #[118,121] #[118] false),1,8,[.nilfn]⟩
def ti157:TI:=⟨(.func #[118,3,3,3] #[] false),1,8,[.nilfn]⟩
def ti158:TI:=⟨(.func #[136] #[3] false),1,8,[.nilfn]⟩
def ti159:TI:=⟨(.pointer 188),1,8,[.nilp]⟩
def ti160:TI:=⟨(.func #[] #[159] false),1,8,[.nilfn]⟩
def ti161:TI:=⟨(.func #[94] #[38] false),1,8,[.nilfn]⟩
def ti162:TI:=⟨(.func #[] #[34,38] false),1,8,[.nilfn]⟩
def ti163:TI:=⟨(.array 64 5),64,64,bl (List.replicate 64 0)⟩
def ti164:TI:=⟨(.func #[5,94] #[34] false),1,8,[.nilfn]⟩
def ti165:TI:=⟨(.func #[94,3] #[94] false),1,8,[.nilfn]⟩
def ti166:TI:=⟨(.int .u32),1,4,[(.int .u32 0)]⟩
def ti167:TI:=⟨(.array 8 166),8,32,[(.int .u32 0),(.int .u32 0),(.int .u32 0),(.int .u32 0),(.int .u32 0),(.int .u32 0),(.int .u32 0),(.int .u32 0)]⟩
def ti168:TI:=⟨(.func #[3] #[166] false),1,8,[.nilfn]⟩
def ti169:TI:=⟨(.slice 166),1,24,[(.sl 1 true [] .any)]⟩
def ti170:TI:=⟨(.func #[] #[169] false),1,8,[.nilfn]⟩
def ti171:TI:=⟨(.func #[167,163,169] #[167] false),1,8,[.nilfn]⟩
def ti172:TI:=⟨(.func #[3] #[34] false),1,8,[.nilfn]⟩
def ti173:TI:=⟨(.func #[9,130] #[44] true),1,8,[.nilfn]⟩
def ti174:TI:=⟨(.func #[118,3,3] #[] false),1,8,[.nilfn]⟩
def ti175:TI:=⟨(.int .i64),1,8,[(.int .i64 0)]⟩
def ti177:TI:=⟨(.func #[118,3,3] #[3,175] false),1,8,[.nilfn]⟩
def ti178:TI:=⟨(.func #[118,3,3] #[4] false),1,8,[.nilfn]⟩
def ti179:TI:=⟨(.func #[3,3] #[4] false),1,8,[.nilfn]⟩
def ti180:TI:=⟨(.func #[118,3,3,3] #[3] false),1,8,[.nilfn]⟩
def ti181:TI:=⟨(.func #[118,3,3,3] #[3,4] false),1,8,[.nilfn]⟩
def ti182:TI:=⟨(.func #[166] #[3] false),1,8,[.nilfn]⟩
def ti183:TI:=⟨(.func #[31] #[3] false),1,8,[.nilfn]⟩
def ti184:TI:=⟨(.array 64 166),64,256,List.replicate 64 (.int .u32 0)⟩
def ti186:TI:=⟨(.func #[] #[184,167] false),1,8,[.nilfn]⟩
def ti187:TI:=⟨kd187,75,328,List.replicate 72 (.int .u32 0)++[(.sl 1 true [] .any),(.int .i64 0),(.bool false)]⟩
def ti188:TI:=⟨kd187,75,328,List.replicate 72 (.int .u32 0)++[(.sl 1 true [] .any),(.int .i64 0),(.bool false)]⟩
def ti189:TI:=⟨(.func #[167,94,184] #[167] false),1,8,[.nilfn]⟩
def ti190:TI:=⟨(.func #[3] #[94] false),1,8,[.nilfn]⟩
def ti191:TI:=⟨(.func #[31,3] #[166] false),1,8,[.nilfn]⟩
def ti192:TI:=⟨(.func #[3] #[31] false),1,8,[.nilfn]⟩
def ti193:TI:=⟨(.func #[166,136] #[166] false),1,8,[.nilfn]⟩
def ti194:TI:=⟨(.func #[94] #[] false),1,8,[.nilfn]⟩
def ti195:TI:=⟨(.int .u64),1,8,[(.int .u64 0)]⟩
def ti196:TI:=⟨(.func #[3] #[136] false),1,8,[.nilfn]⟩
def ti197:TI:=⟨(.func #[] #[31] false),1,8,[.nilfn]⟩
def ti198:TI:=⟨(.func #[118,3,199] #[3] false),1,8,[.nilfn]⟩
def ti199:TI:=⟨(.pointer 3),1,8,[.nilp]⟩
def ti200:TI:=⟨(.func #[118,3,3,3,199] #[3] false),1,8,[.nilfn]⟩
def ti201:TI:=⟨(.func #[] #[30] false),1,8,[.nilfn]⟩
def ti202:TI:=⟨(.func #[31] #[166] false),1,8,[.nilfn]⟩
def ti203:TI:=⟨(.func #[166,3] #[166] false),1,8,[.nilfn]⟩
def ti204:TI:=⟨(.func #[166,118] #[166] true),1,8,[.nilfn]⟩
def ti205:TI:=⟨(.func #[94] #[31,38] false),1,8,[.nilfn]⟩
def ti206:TI:=⟨(.func #[31,3,31] #[4] false),1,8,[.nilfn]⟩
def ti207:TI:=⟨(.pointer 195),1,8,[.nilp]⟩
def ti209:TI:=⟨(.func #[118,3,3,199] #[3,3] false),1,8,[.nilfn]⟩
def ti210:TI:=⟨(.func #[30,211] #[4] false),1,8,[.nilfn]⟩
def ti211:TI:=⟨(.func #[31] #[4] false),1,8,[.nilfn]⟩
def ti212:TI:=⟨(.func #[211] #[166] false),1,8,[.nilfn]⟩
def ti213:TI:=⟨(.array 2 31),2,16,[(.int .u64 0),(.int .u64 0)]⟩
def ti215:TI:=⟨(.func #[31] #[213,4] false),1,8,[.nilfn]⟩
def ti216:TI:=⟨(.func #[213,4,31] #[4] false),1,8,[.nilfn]⟩
def ti217:TI:=⟨(.func #[31] #[213] false),1,8,[.nilfn]⟩
def ti218:TI:=⟨(.func #[94] #[31] false),1,8,[.nilfn]⟩
def ti220:TI:=⟨(.func #[31,31] #[31,31] false),1,8,[.nilfn]⟩
def ti221:TI:=⟨(.func #[31,31,31] #[31,31] false),1,8,[.nilfn]⟩
def ti222:TI:=⟨(.func #[30,211] #[3] false),1,8,[.nilfn]⟩
def ti223:TI:=⟨(.func #[] #[9] false),1,8,[.nilfn]⟩
def ti224:TI:=⟨kd224,4,40,[.nilp,.nilp,.nilp,(.str [])]⟩
def ti225:TI:=⟨kd224,4,40,[.nilp,.nilp,.nilp,(.str [])]⟩
def ti226:TI:=⟨(.array 0 16),0,0,[]⟩
def ti227:TI:=⟨kd227,0,0,[]⟩
def ti228:TI:=⟨kd227,0,0,[]⟩
def ti229:TI:=⟨(.func #[] #[3] false),1,8,[.nilfn]⟩
def ti230:TI:=⟨(.int .u8),1,1,[(.int .u8 0)]⟩
def ti231:TI:=⟨(.int .u8),1,1,[(.int .u8 0)]⟩
def ti232:TI:=⟨(.func #[238,238] #[4] false),1,8,[.nilfn]⟩
def ti233:TI:=⟨(.pointer 5),1,8,[.nilp]⟩
def ti234:TI:=⟨(.int .i32),1,4,[(.int .i32 0)]⟩
def ti235:TI:=⟨(.int .i32),1,4,[(.int .i32 0)]⟩
def ti236:TI:=⟨kd236,11,48,[(.int .u64 0),(.int .u64 0),(.int .u32 0),(.int .u8 0),(.int .u8 0),(.int .u8 0),(.int .u8 0),.nilfn,.nilp,(.int .i32 0),(.int .i32 0)]⟩
def ti237:TI:=⟨kd236,11,48,[(.int .u64 0),(.int .u64 0),(.int .u32 0),(.int .u8 0),(.int .u8 0),(.int .u8 0),(.int .u8 0),.nilfn,.nilp,(.int .i32 0),(.int .i32 0)]⟩
def ti238:TI:=⟨.unsafePointer,1,8,[.nilp]⟩
def tY:TT:=(.n (.n (.n (.n (.n (.n (.n (.n .z 1 ti1 .z) 2 ti2 (.n .z 3 ti3 .z)) 4 ti4 (.n (.n .z 5 ti5 .z) 6 ti6 (.n .z 7 ti7 .z))) 8 ti8 (.n (.n (.n .z 9 ti9 .z) 10 ti10 (.n .z 11 ti11 .z)) 12 ti12 (.n (.n .z 13 ti13 .z) 14 ti14 .z))) 15 ti15 (.n (.n (.n (.n .z 16 ti16 .z) 17 ti17 (.n .z 18 ti18 .z)) 19 ti19 (.n (.n .z 20 ti20 .z) 21 ti21 .z)) 22 ti22 (.n (.n (.n .z 23 ti23 .z) 24 ti24 (.n .z 25 ti25 .z)) 26 ti26 (.n (.n .z 27 ti27 .z) 28 ti28 .z)))) 29 ti29 (.n (.n (.n (.n (.n .z 30 ti30 .z) 31 ti31 (.n .z 32 ti32 .z)) 33 ti33 (.n (.n .z 34 ti34 .z) 35 ti35 .z)) 36 ti36 (.n (.n (.n .z 37 ti37 .z) 38 ti38 (.n .z 40 ti40 .z)) 41 ti41 (.n (.n .z 42 ti42 .z) 43 ti43 .z))) 44 ti44 (.n (.n (.n (.n .z 45 ti45 .z) 46 ti46 (.n .z 47 ti47 .z)) 48 ti48 (.n (.n .z 49 ti49 .z) 50 ti50 .z)) 52 ti52 (.n (.n (.n .z 53 ti53 .z) 54 ti54 (.n .z 55 ti55 .z)) 56 ti56 (.n (.n .z 57 ti57 .z) 58 ti58 .z))))) 59 ti59 (.n (.n (.n (.n (.n (.n .z 61 ti61 .z) 63 ti63 (.n .z 64 ti64 .z)) 65 ti65 (.n (.n .z 66 ti66 .z) 67 ti67 .z)) 68 ti68 (.n (.n (.n .z 69 ti69 .z) 70 ti70 (.n .z 71 ti71 .z)) 72 ti72 (.n (.n .z 73 ti73 .z) 74 ti74 .z))) 75 ti75 (.n (.n (.n (.n .z 76 ti76 .z) 77 ti77 (.n .z 78 ti78 .z)) 79 ti79 (.n (.n .z 80 ti80 .z) 81 ti81 .z)) 82 ti82 (.n (.n (.n .z 83 ti83 .z) 84 ti84 (.n .z 85 ti85 .z)) 86 ti86 (.n (.n .z 88 ti88 .z) 89 ti89 .z)))) 90 ti90 (.n (.n (.n (.n (.n .z 92 ti92 .z) 93 ti93 (.n .z 94 ti94 .z)) 95 ti95 (.n (.n .z 96 ti96 .z) 97 ti97 .z)) 98 ti98 (.n (.n (.n .z 99 ti99 .z) 100 ti100 (.n .z 101 ti101 .z)) 102 ti102 (.n (.n .z 103 ti103 .z) 104 ti104 .z))) 105 ti105 (.n (.n (.n (.n .z 106 ti106 .z) 107 ti107 (.n .z 108 ti108 .z)) 109 ti109 (.n (.n .z 110 ti110 .z) 111 ti111 .z)) 112 ti112 (.n (.n (.n .z 113 ti113 .z) 114 ti114 (.n .z 115 ti115 .z)) 116 ti116 (.n (.n .z 117 ti117 .z) 118 ti118 .z)))))) 119 ti119 (.n (.n (.n (.n (.n (.n (.n .z 120 ti120 .z) 121 ti121 (.n .z 122 ti122 .z)) 124 ti124 (.n (.n .z 125 ti125 .z) 126 ti126 .z)) 127 ti127 (.n (.n (.n .z 128 ti128 .z) 129 ti129 (.n .z 130 ti130 .z)) 131 ti131 (.n (.n .z 132 ti132 .z) 134 ti134 .z))) 135 ti135 (.n (.n (.n (.n .z 136 ti136 .z) 137 ti137 (.n .z 139 ti139 .z)) 140 ti140 (.n (.n .z 141 ti141 .z) 142 ti142 .z)) 143 ti143 (.n (.n (.n .z 144 ti144 .z) 145 ti145 (.n .z 146 ti146 .z)) 147 ti147 (.n (.n .z 148 ti148 .z) 149 ti149 .z)))) 150 ti150 (.n (.n (.n (.n (.n .z 151 ti151 .z) 152 ti152 (.n .z 153 ti153 .z)) 154 ti154 (.n (.n .z 155 ti155 .z) 156 ti156 .z)) 157 ti157 (.n (.n (.n .z 158 ti158 .z) 159 ti159 (.n .z 160 ti160 .z)) 161 ti161 (.n (.n .z 162 ti162 .z) 163 ti163 .z))) 164 ti164 (.n (.n (.n (.n .z 165 ti165 .z) 166 ti166 (.n .z 167 ti167 .z)) 168 ti168 (.n (.n .z 169 ti169 .z) 170 ti170 .z)) 171 ti171 (.n (.n (.n .z 172 ti172 .z) 173 ti173 (.n .z 174 ti174 .z)) 175 ti175 (.n (.n .z 177 ti177 .z) 178 ti178 .z))))) 179 ti179 (.n (.n (.n (.n (.n (.n .z 180 ti180 .z) 181 ti181 (.n .z 182 ti182 .z)) 183 ti183 (.n (.n .z 184 ti184 .z) 186 ti186 .z)) 187 ti187 (.n (.n (.n .z 188 ti188 .z) 189 ti189 (.n .z 190 ti190 .z)) 191 ti191 (.n (.n .z 192 ti192 .z) 193 ti193 .z))) 194 ti194 (.n (.n (.n (.n .z 195 ti195 .z) 196 ti196 (.n .z 197 ti197 .z)) 198 ti198 (.n (.n .z 199 ti199 .z) 200 ti200 .z)) 201 ti201 (.n (.n (.n .z 202 ti202 .z) 203 ti203 (.n .z 204 ti204 .z)) 205 ti205 (.n (.n .z 206 ti206 .z) 207 ti207 .z)))) 209 ti209 (.n (.n (.n (.n (.n .z 210 ti210 .z) 211 ti211 (.n .z 212 ti212 .z)) 213 ti213 (.n (.n .z 215 ti215 .z) 216 ti216 .z)) 217 ti217 (.n (.n (.n .z 218 ti218 .z) 220 ti220 (.n .z 221 ti221 .z)) 222 ti222 (.n (.n .z 223 ti223 .z) 224 ti224 .z))) 225 ti225 (.n (.n (.n (.n .z 226 ti226 .z) 227 ti227 (.n .z 228 ti228 .z)) 229 ti229 (.n (.n .z 230 ti230 .z) 231 ti231 .z)) 232 ti232 (.n (.n (.n .z 233 ti233 .z) 234 ti234 (.n .z 235 ti235 .z)) 236 ti236 (.n (.n .z 237 ti237 .z) 238 ti238 .z)))))))
def tT (t:TypeId):Option TI:=tY.get t
noncomputable def gT (g:Nat):Option AVal:=none
theorem cond_some {α:Type} {b:Bool} {x y:Option α} {e:α} (h:(bif b then x else y)=some e):(b=true∧x=some e)∨(b=false∧y=some e):=by cases b<;>simp_all
noncomputable def cx:Cx:=⟨Tryz.prog,tT,gT,fun _=>false,fun _=>none⟩
theorem tT_small:(List.range 239).map tT=(List.range 239).map (tyB Tryz.prog 239):=by kernel_rfl
theorem tT_big (t:Nat) (h:239≤t):tT t=none:=TT.big (by kernel_rfl) h
theorem tT_eq (t:TypeId) (i:TI) (h:tT t=some i):tyB Tryz.prog 239 t=some i:=by
 rcases Nat.lt_or_ge t 239 with hl|hl
 ·have:=congrArg (fun l=>l[t]?) tT_small
  simp only [List.getElem?_map,List.getElem?_range hl,Option.map_some,Option.some.injEq] at this
  rw [← this];exact h
 ·exact absurd h (by have e:=tT_big t hl;rw [e];exact fun h=>by cases h)
theorem cxT:TOk cx.P cx.T:=by
 have h:TOk Tryz.prog (tyB Tryz.prog 239):=tyB_ok (by kernel_rfl)
 have e:tyB Tryz.prog 239=tT:=by
  funext t
  rcases Nat.lt_or_ge t 239 with hl|hl
  ·have:=congrArg (fun l=>l[t]?) tT_small
   simp only [List.getElem?_map,List.getElem?_range hl,Option.map_some,Option.some.injEq] at this
   exact this.symm
  ·rw [tT_big t hl]
   unfold tyB basicOk
   rw [decide_eq_false (Nat.not_lt.2 hl:¬ (t:Nat)<239)]
   rfl
 rw [e] at h
 exact h
theorem cxOk:cx.Ok:=⟨cxT,fun t i h=>cells_of t i (tT_eq t i h),by kernel_rfl⟩
theorem cxG:GClosed cx:=fun g v h=>by
 have h:gT g=some v:=h
 unfold gT at h
 cases h
def mkFE (fn:Func) (q:Nat→Option UL) (pl:Bool):FE:=⟨LB fn,fn.ntmps,fn.results.toList,q,pl⟩
def FEOk (f:FuncId) (e:FE):Prop:=FnOk cx f e.body e.N e.rs∧BodyOk cx f cx.pc e.q
theorem feOk {f:FuncId} {fn:Func} {q:Nat→Option UL} {pl:Bool} (h:cx.P.funcs[f]? = some fn) (h1:(fn.body.isSome && !(fn.name == "runtime.NumGoroutine"))=true) (h2:bodyB (cx.wp cx.pc q) fn=true):FEOk f (mkFE fn q pl) :=
 ⟨fnOk_of h h1,bodyOk_of h h2⟩
inductive Tr
 |z
 |n (l:Tr) (k:Nat) (v:FE) (r:Tr)
def Tr.get:Tr→Nat→Option FE
 |.z,_=>none
 |.n l k v r,f=>bif Nat.blt f k then l.get f else bif Nat.beq f k then some v else r.get f
def Tr.All:Tr→Prop
 |.z=>True
 |.n l k v r=>l.All∧FEOk k v∧r.All
theorem Tr.ok:∀ {t:Tr} {f:Nat} {e:FE},t.All→t.get f=some e→FEOk f e
 |.z,_,_,_,h=>by cases h
 |.n l k v r,f,e,a,h=>by
  rcases cond_some (h:(bif Nat.blt f k then l.get f else bif Nat.beq f k then some v else r.get f)=some e) with ⟨_,h1⟩|⟨_,h1⟩
  ·exact Tr.ok a.1 h1
  ·rcases cond_some h1 with ⟨d,h2⟩|⟨_,h2⟩
   ·have hk:=nbeq d
    have hv:=Option.some.inj h2
    rw [hk,← hv]
    exact a.2.1
   ·exact Tr.ok a.2.2 h2
def q0 (_:Nat):Option UL:=none
noncomputable def fe5:FE:=mkFE Tryz.f5 (fun i=>bif Nat.beq i 9 then some [(some 41,some 44),(some 41,some 7),(some 43,some 7)] else none) true
theorem fo5:FEOk 5 fe5:=feOk Tryz.func5 (by kernel_rfl) (by kernel_rfl)
noncomputable def fe6:FE:=mkFE Tryz.f6 (q0) true
theorem fo6:FEOk 6 fe6:=feOk Tryz.func6 (by kernel_rfl) (by kernel_rfl)
noncomputable def fe7:FE:=mkFE Tryz.f7 (q0) false
theorem fo7:FEOk 7 fe7:=feOk Tryz.func7 (by kernel_rfl) (by kernel_rfl)
noncomputable def fe8:FE:=mkFE Tryz.f8 (q0) false
theorem fo8:FEOk 8 fe8:=feOk Tryz.func8 (by kernel_rfl) (by kernel_rfl)
noncomputable def fe9:FE:=mkFE Tryz.f9 (fun i=>bif Nat.beq i 11 then some [(some 61,some 14)] else bif Nat.beq i 12 then some [(some 72,some 77),(some 72,some 16),(some 76,some 16)] else none) false
theorem fo9:FEOk 9 fe9:=feOk Tryz.func9 (by kernel_rfl) (by kernel_rfl)
noncomputable def fe10:FE:=mkFE Tryz.f10 (fun i=>bif Nat.beq i 8 then some [(some 44,some 14),(some 47,some 14),(some 48,some 14),(some 49,some 14),(some 51,some 14)] else bif Nat.beq i 9 then some [(some 56,some 61)] else none) false
theorem fo10:FEOk 10 fe10:=feOk Tryz.func10 (by kernel_rfl) (by kernel_rfl)
noncomputable def fe11:FE:=mkFE Tryz.f11 (fun i=>bif Nat.beq i 7 then some [(some 65,some 63),(some 67,some 63),(some 69,some 63),(some 71,some 63)] else bif Nat.beq i 9 then some [(some 84,some 82),(some 86,some 82),(some 88,some 82)] else bif Nat.beq i 11 then some [(some 99,some 97),(some 101,some 97)] else bif Nat.beq i 13 then some [(some 112,some 110),(some 114,some 110)] else bif Nat.beq i 15 then some [(some 125,some 123),(some 127,some 123)] else bif Nat.beq i 21 then some [(some 166,some 164),(some 168,some 164),(some 170,some 164)] else bif Nat.beq i 23 then some [(some 181,some 179),(some 183,some 179)] else none) true
theorem fo11:FEOk 11 fe11:=feOk Tryz.func11 (by kernel_rfl) (by kernel_rfl)
noncomputable def fe12:FE:=mkFE Tryz.f12 (fun i=>bif Nat.beq i 5 then some [(some 25,some 23)] else bif Nat.beq i 6 then some [(some 32,some 36)] else bif Nat.beq i 8 then some [(some 44,some 46),(some 44,some 48)] else none) true
theorem fo12:FEOk 12 fe12:=feOk Tryz.func12 (by kernel_rfl) (by kernel_rfl)
noncomputable def fe13:FE:=mkFE Tryz.f13 (q0) true
theorem fo13:FEOk 13 fe13:=feOk Tryz.func13 (by kernel_rfl) (by kernel_rfl)
noncomputable def fe14:FE:=mkFE Tryz.f14 (q0) true
theorem fo14:FEOk 14 fe14:=feOk Tryz.func14 (by kernel_rfl) (by kernel_rfl)
noncomputable def fe15:FE:=mkFE Tryz.f15 (fun i=>bif Nat.beq i 7 then some [(some 30,some 33)] else none) false
theorem fo15:FEOk 15 fe15:=feOk Tryz.func15 (by kernel_rfl) (by kernel_rfl)
noncomputable def fe16:FE:=mkFE Tryz.f16 (fun i=>bif Nat.beq i 4 then some [(some 27,some 32)] else none) false
theorem fo16:FEOk 16 fe16:=feOk Tryz.func16 (by kernel_rfl) (by kernel_rfl)
noncomputable def fe17:FE:=mkFE Tryz.f17 (fun i=>bif Nat.beq i 6 then some [(some 19,some 22)] else none) false
theorem fo17:FEOk 17 fe17:=feOk Tryz.func17 (by kernel_rfl) (by kernel_rfl)
noncomputable def fe18:FE:=mkFE Tryz.f18 (q0) true
theorem fo18:FEOk 18 fe18:=feOk Tryz.func18 (by kernel_rfl) (by kernel_rfl)
noncomputable def fe19:FE:=mkFE Tryz.f19 (q0) true
theorem fo19:FEOk 19 fe19:=feOk Tryz.func19 (by kernel_rfl) (by kernel_rfl)
noncomputable def fe20:FE:=mkFE Tryz.f20 (fun i=>bif Nat.beq i 15 then some [(some 75,some 73),(some 78,some 73),(some 81,some 73)] else none) true
theorem fo20:FEOk 20 fe20:=feOk Tryz.func20 (by kernel_rfl) (by kernel_rfl)
noncomputable def fe21:FE:=mkFE Tryz.f21 (q0) true
theorem fo21:FEOk 21 fe21:=feOk Tryz.func21 (by kernel_rfl) (by kernel_rfl)
noncomputable def fe22:FE:=mkFE Tryz.f22 (q0) true
theorem fo22:FEOk 22 fe22:=feOk Tryz.func22 (by kernel_rfl) (by kernel_rfl)
noncomputable def fe23:FE:=mkFE Tryz.f23 (q0) true
theorem fo23:FEOk 23 fe23:=feOk Tryz.func23 (by kernel_rfl) (by kernel_rfl)
noncomputable def fe24:FE:=mkFE Tryz.f24 (fun i=>bif Nat.beq i 1 then some [(some 8,some 10),(some 8,some 11)] else none) false
theorem fo24:FEOk 24 fe24:=feOk Tryz.func24 (by kernel_rfl) (by kernel_rfl)
noncomputable def fe25:FE:=mkFE Tryz.f25 (q0) false
theorem fo25:FEOk 25 fe25:=feOk Tryz.func25 (by kernel_rfl) (by kernel_rfl)
noncomputable def fe26:FE:=mkFE Tryz.f26 (q0) true
theorem fo26:FEOk 26 fe26:=feOk Tryz.func26 (by kernel_rfl) (by kernel_rfl)
noncomputable def fe27:FE:=mkFE Tryz.f27 (q0) true
theorem fo27:FEOk 27 fe27:=feOk Tryz.func27 (by kernel_rfl) (by kernel_rfl)
noncomputable def fe28:FE:=mkFE Tryz.f28 (q0) false
theorem fo28:FEOk 28 fe28:=feOk Tryz.func28 (by kernel_rfl) (by kernel_rfl)
noncomputable def fe29:FE:=mkFE Tryz.f29 (q0) true
theorem fo29:FEOk 29 fe29:=feOk Tryz.func29 (by kernel_rfl) (by kernel_rfl)
noncomputable def fe30:FE:=mkFE Tryz.f30 (q0) true
theorem fo30:FEOk 30 fe30:=feOk Tryz.func30 (by kernel_rfl) (by kernel_rfl)
noncomputable def fe31:FE:=mkFE Tryz.f31 (fun i=>bif Nat.beq i 3 then some [(some 16,some 19)] else none) true
theorem fo31:FEOk 31 fe31:=feOk Tryz.func31 (by kernel_rfl) (by kernel_rfl)
noncomputable def fe32:FE:=mkFE Tryz.f32 (q0) false
noncomputable def fe33:FE:=mkFE Tryz.f33 (q0) true
theorem fo33:FEOk 33 fe33:=feOk Tryz.func33 (by kernel_rfl) (by kernel_rfl)
noncomputable def fe34:FE:=mkFE Tryz.f34 (q0) true
theorem fo34:FEOk 34 fe34:=feOk Tryz.func34 (by kernel_rfl) (by kernel_rfl)
noncomputable def fe35:FE:=mkFE Tryz.f35 (q0) false
theorem fo35:FEOk 35 fe35:=feOk Tryz.func35 (by kernel_rfl) (by kernel_rfl)
noncomputable def fe36:FE:=mkFE Tryz.f36 (q0) true
theorem fo36:FEOk 36 fe36:=feOk Tryz.func36 (by kernel_rfl) (by kernel_rfl)
noncomputable def fe37:FE:=mkFE Tryz.f37 (q0) true
noncomputable def fe38:FE:=mkFE Tryz.f38 (fun i=>bif Nat.beq i 7 then some [(some 41,some 44)] else none) true
theorem fo38:FEOk 38 fe38:=feOk Tryz.func38 (by kernel_rfl) (by kernel_rfl)
noncomputable def fe39:FE:=mkFE Tryz.f39 (q0) true
theorem fo39:FEOk 39 fe39:=feOk Tryz.func39 (by kernel_rfl) (by kernel_rfl)
noncomputable def fe40:FE:=mkFE Tryz.f40 (q0) true
theorem fo40:FEOk 40 fe40:=feOk Tryz.func40 (by kernel_rfl) (by kernel_rfl)
noncomputable def fe41:FE:=mkFE Tryz.f41 (q0) true
theorem fo41:FEOk 41 fe41:=feOk Tryz.func41 (by kernel_rfl) (by kernel_rfl)
noncomputable def fe42:FE:=mkFE Tryz.f42 (q0) true
theorem fo42:FEOk 42 fe42:=feOk Tryz.func42 (by kernel_rfl) (by kernel_rfl)
noncomputable def fe43:FE:=mkFE Tryz.f43 (q0) true
theorem fo43:FEOk 43 fe43:=feOk Tryz.func43 (by kernel_rfl) (by kernel_rfl)
noncomputable def fe44:FE:=mkFE Tryz.f44 (q0) true
theorem fo44:FEOk 44 fe44:=feOk Tryz.func44 (by kernel_rfl) (by kernel_rfl)
noncomputable def fe45:FE:=mkFE Tryz.f45 (q0) true
theorem fo45:FEOk 45 fe45:=feOk Tryz.func45 (by kernel_rfl) (by kernel_rfl)
noncomputable def fe46:FE:=mkFE Tryz.f46 (fun i=>bif Nat.beq i 6 then some [(some 32,some 28)] else none) true
noncomputable def fe47:FE:=mkFE Tryz.f47 (q0) true
theorem fo47:FEOk 47 fe47:=feOk Tryz.func47 (by kernel_rfl) (by kernel_rfl)
noncomputable def fe48:FE:=mkFE Tryz.f48 (fun i=>bif Nat.beq i 9 then some [(some 24,some 22)] else none) true
noncomputable def fe49:FE:=mkFE Tryz.f49 (q0) true
theorem fo49:FEOk 49 fe49:=feOk Tryz.func49 (by kernel_rfl) (by kernel_rfl)
noncomputable def fe50:FE:=mkFE Tryz.f50 (q0) true
theorem fo50:FEOk 50 fe50:=feOk Tryz.func50 (by kernel_rfl) (by kernel_rfl)
noncomputable def fe51:FE:=mkFE Tryz.f51 (q0) true
theorem fo51:FEOk 51 fe51:=feOk Tryz.func51 (by kernel_rfl) (by kernel_rfl)
noncomputable def fe52:FE:=mkFE Tryz.f52 (q0) true
theorem fo52:FEOk 52 fe52:=feOk Tryz.func52 (by kernel_rfl) (by kernel_rfl)
noncomputable def fe53:FE:=mkFE Tryz.f53 (q0) false
noncomputable def fe54:FE:=mkFE Tryz.f54 (q0) false
theorem fo54:FEOk 54 fe54:=feOk Tryz.func54 (by kernel_rfl) (by kernel_rfl)
noncomputable def fe55:FE:=mkFE Tryz.f55 (q0) true
theorem fo55:FEOk 55 fe55:=feOk Tryz.func55 (by kernel_rfl) (by kernel_rfl)
noncomputable def fe56:FE:=mkFE Tryz.f56 (q0) true
theorem fo56:FEOk 56 fe56:=feOk Tryz.func56 (by kernel_rfl) (by kernel_rfl)
noncomputable def fe57:FE:=mkFE Tryz.f57 (q0) false
theorem fo57:FEOk 57 fe57:=feOk Tryz.func57 (by kernel_rfl) (by kernel_rfl)
noncomputable def fe58:FE:=mkFE Tryz.f58 (q0) true
theorem fo58:FEOk 58 fe58:=feOk Tryz.func58 (by kernel_rfl) (by kernel_rfl)
noncomputable def fe59:FE:=mkFE Tryz.f59 (fun i=>bif Nat.beq i 3 then some [(some 14,some 24),(some 17,some 24),(some 14,some 6),(some 17,some 6),(some 22,some 6)] else none) true
theorem fo59:FEOk 59 fe59:=feOk Tryz.func59 (by kernel_rfl) (by kernel_rfl)
noncomputable def fe60:FE:=mkFE Tryz.f60 (fun i=>bif Nat.beq i 3 then some [(some 15,some 20),(some 21,some 20),(some 15,some 23)] else none) true
theorem fo60:FEOk 60 fe60:=feOk Tryz.func60 (by kernel_rfl) (by kernel_rfl)
noncomputable def fe61:FE:=mkFE Tryz.f61 (q0) true
theorem fo61:FEOk 61 fe61:=feOk Tryz.func61 (by kernel_rfl) (by kernel_rfl)
noncomputable def fe62:FE:=mkFE Tryz.f62 (q0) true
theorem fo62:FEOk 62 fe62:=feOk Tryz.func62 (by kernel_rfl) (by kernel_rfl)
noncomputable def fe63:FE:=mkFE Tryz.f63 (q0) true
theorem fo63:FEOk 63 fe63:=feOk Tryz.func63 (by kernel_rfl) (by kernel_rfl)
noncomputable def fe64:FE:=mkFE Tryz.f64 (q0) true
theorem fo64:FEOk 64 fe64:=feOk Tryz.func64 (by kernel_rfl) (by kernel_rfl)
noncomputable def fe65:FE:=mkFE Tryz.f65 (q0) false
theorem fo65:FEOk 65 fe65:=feOk Tryz.func65 (by kernel_rfl) (by kernel_rfl)
noncomputable def fe66:FE:=mkFE Tryz.f66 (q0) false
theorem fo66:FEOk 66 fe66:=feOk Tryz.func66 (by kernel_rfl) (by kernel_rfl)
noncomputable def fe67:FE:=mkFE Tryz.f67 (q0) true
theorem fo67:FEOk 67 fe67:=feOk Tryz.func67 (by kernel_rfl) (by kernel_rfl)
noncomputable def fe68:FE:=mkFE Tryz.f68 (fun i=>bif Nat.beq i 8 then some [(some 42,some 41)] else none) true
theorem fo68:FEOk 68 fe68:=feOk Tryz.func68 (by kernel_rfl) (by kernel_rfl)
noncomputable def fe69:FE:=mkFE Tryz.f69 (fun i=>bif Nat.beq i 6 then some [(some 22,some 7),(some 25,some 7)] else none) true
noncomputable def fe70:FE:=mkFE Tryz.f70 (q0) true
theorem fo70:FEOk 70 fe70:=feOk Tryz.func70 (by kernel_rfl) (by kernel_rfl)
noncomputable def fe71:FE:=mkFE Tryz.f71 (q0) true
theorem fo71:FEOk 71 fe71:=feOk Tryz.func71 (by kernel_rfl) (by kernel_rfl)
noncomputable def fe72:FE:=mkFE Tryz.f72 (q0) true
theorem fo72:FEOk 72 fe72:=feOk Tryz.func72 (by kernel_rfl) (by kernel_rfl)
noncomputable def fe73:FE:=mkFE Tryz.f73 (q0) true
theorem fo73:FEOk 73 fe73:=feOk Tryz.func73 (by kernel_rfl) (by kernel_rfl)
noncomputable def fe74:FE:=mkFE Tryz.f74 (q0) true
theorem fo74:FEOk 74 fe74:=feOk Tryz.func74 (by kernel_rfl) (by kernel_rfl)
noncomputable def fe75:FE:=mkFE Tryz.f75 (q0) false
theorem fo75:FEOk 75 fe75:=feOk Tryz.func75 (by kernel_rfl) (by kernel_rfl)
noncomputable def fe76:FE:=mkFE Tryz.f76 (q0) true
theorem fo76:FEOk 76 fe76:=feOk Tryz.func76 (by kernel_rfl) (by kernel_rfl)
noncomputable def fe77:FE:=mkFE Tryz.f77 (q0) false
noncomputable def fe78:FE:=mkFE Tryz.f78 (q0) false
noncomputable def fe79:FE:=mkFE Tryz.f79 (q0) true
noncomputable def fe80:FE:=mkFE Tryz.f80 (q0) true
noncomputable def fe81:FE:=mkFE Tryz.f81 (q0) true
theorem fo81:FEOk 81 fe81:=feOk Tryz.func81 (by kernel_rfl) (by kernel_rfl)
noncomputable def fe82:FE:=mkFE Tryz.f82 (q0) true
theorem fo82:FEOk 82 fe82:=feOk Tryz.func82 (by kernel_rfl) (by kernel_rfl)
noncomputable def fe83:FE:=mkFE Tryz.f83 (q0) true
theorem fo83:FEOk 83 fe83:=feOk Tryz.func83 (by kernel_rfl) (by kernel_rfl)
noncomputable def fe84:FE:=mkFE Tryz.f84 (q0) true
theorem fo84:FEOk 84 fe84:=feOk Tryz.func84 (by kernel_rfl) (by kernel_rfl)
noncomputable def fe85:FE:=mkFE Tryz.f85 (q0) true
noncomputable def fe86:FE:=mkFE Tryz.f86 (q0) true
noncomputable def fe87:FE:=mkFE Tryz.f87 (fun i=>bif Nat.beq i 2 then some [(some 18,some 16)] else none) false
noncomputable def fe88:FE:=mkFE Tryz.f88 (q0) true
noncomputable def fe89:FE:=mkFE Tryz.f89 (q0) false
theorem fo89:FEOk 89 fe89:=feOk Tryz.func89 (by kernel_rfl) (by kernel_rfl)
noncomputable def fe90:FE:=mkFE Tryz.f90 (q0) true
noncomputable def fe91:FE:=mkFE Tryz.f91 (q0) false
noncomputable def fe92:FE:=mkFE Tryz.f92 (q0) true
noncomputable def fe93:FE:=mkFE Tryz.f93 (q0) true
theorem fo93:FEOk 93 fe93:=feOk Tryz.func93 (by kernel_rfl) (by kernel_rfl)
noncomputable def fe94:FE:=mkFE Tryz.f94 (q0) true
theorem fo94:FEOk 94 fe94:=feOk Tryz.func94 (by kernel_rfl) (by kernel_rfl)
noncomputable def fe95:FE:=mkFE Tryz.f95 (q0) true
theorem fo95:FEOk 95 fe95:=feOk Tryz.func95 (by kernel_rfl) (by kernel_rfl)
noncomputable def fe96:FE:=mkFE Tryz.f96 (q0) false
theorem fo96:FEOk 96 fe96:=feOk Tryz.func96 (by kernel_rfl) (by kernel_rfl)
noncomputable def fe97:FE:=mkFE Tryz.f97 (q0) false
theorem fo97:FEOk 97 fe97:=feOk Tryz.func97 (by kernel_rfl) (by kernel_rfl)
noncomputable def fe98:FE:=mkFE Tryz.f98 (q0) false
noncomputable def fe99:FE:=mkFE Tryz.f99 (q0) true
noncomputable def fe100:FE:=mkFE Tryz.f100 (q0) true
noncomputable def fe101:FE:=mkFE Tryz.f101 (q0) true
theorem fo101:FEOk 101 fe101:=feOk Tryz.func101 (by kernel_rfl) (by kernel_rfl)
noncomputable def fe102:FE:=mkFE Tryz.f102 (q0) false
noncomputable def fe103:FE:=mkFE Tryz.f103 (q0) true
noncomputable def fe104:FE:=mkFE Tryz.f104 (q0) true
noncomputable def fe105:FE:=mkFE Tryz.f105 (q0) true
noncomputable def fe106:FE:=mkFE Tryz.f106 (q0) false
noncomputable def fe107:FE:=mkFE Tryz.f107 (q0) false
theorem fo107:FEOk 107 fe107:=feOk Tryz.func107 (by kernel_rfl) (by kernel_rfl)
noncomputable def fe108:FE:=mkFE Tryz.f108 (q0) true
noncomputable def fe109:FE:=mkFE Tryz.f109 (q0) false
noncomputable def fe110:FE:=mkFE Tryz.f110 (q0) false
noncomputable def fe111:FE:=mkFE Tryz.f111 (fun i=>bif Nat.beq i 18 then some [(some 127,some 129),(some 127,some 131),(some 127,some 134),(some 149,some 129),(some 149,some 131),(some 149,some 134),(some 154,some 129),(some 154,some 131),(some 154,some 134)] else none) true
noncomputable def fe112:FE:=mkFE Tryz.f112 (q0) true
theorem fo112:FEOk 112 fe112:=feOk Tryz.func112 (by kernel_rfl) (by kernel_rfl)
noncomputable def fe113:FE:=mkFE Tryz.f113 (q0) false
noncomputable def fe114:FE:=mkFE Tryz.f114 (q0) true
noncomputable def fe115:FE:=mkFE Tryz.f115 (q0) true
noncomputable def fe116:FE:=mkFE Tryz.f116 (q0) true
noncomputable def fe117:FE:=mkFE Tryz.f117 (q0) true
noncomputable def fe118:FE:=mkFE Tryz.f118 (q0) true
noncomputable def fe119:FE:=mkFE Tryz.f119 (q0) true
noncomputable def fe120:FE:=mkFE Tryz.f120 (q0) true
noncomputable def fe121:FE:=mkFE Tryz.f121 (q0) true
noncomputable def fe122:FE:=mkFE Tryz.f122 (q0) true
noncomputable def fe123:FE:=mkFE Tryz.f123 (q0) true
noncomputable def fe124:FE:=mkFE Tryz.f124 (q0) true
noncomputable def fe125:FE:=mkFE Tryz.f125 (q0) true
noncomputable def fe126:FE:=mkFE Tryz.f126 (q0) false
theorem fo126:FEOk 126 fe126:=feOk Tryz.func126 (by kernel_rfl) (by kernel_rfl)
noncomputable def fe127:FE:=mkFE Tryz.f127 (fun i=>bif Nat.beq i 8 then some [(some 23,none)] else none) true
noncomputable def fe128:FE:=mkFE Tryz.f128 (q0) true
noncomputable def fe129:FE:=mkFE Tryz.f129 (fun i=>bif Nat.beq i 13 then some [(some 64,some 68),(some 76,some 68),(some 64,some 81),(some 76,some 81)] else bif Nat.beq i 18 then some [(some 123,some 110),(some 127,some 110)] else none) true
noncomputable def fe130:FE:=mkFE Tryz.f130 (q0) false
noncomputable def fe131:FE:=mkFE Tryz.f131 (q0) false
noncomputable def fe132:FE:=mkFE Tryz.f132 (q0) false
noncomputable def fe133:FE:=mkFE Tryz.f133 (q0) true
noncomputable def fe134:FE:=mkFE Tryz.f134 (q0) true
noncomputable def fe135:FE:=mkFE Tryz.f135 (q0) true
noncomputable def fe136:FE:=mkFE Tryz.f136 (q0) true
noncomputable def fe137:FE:=mkFE Tryz.f137 (fun i=>bif Nat.beq i 0 then some [(some 4,some 8)] else none) true
noncomputable def fe138:FE:=mkFE Tryz.f138 (q0) true
noncomputable def fe139:FE:=mkFE Tryz.f139 (q0) true
noncomputable def fe140:FE:=mkFE Tryz.f140 (q0) true
noncomputable def fe141:FE:=mkFE Tryz.f141 (q0) true
noncomputable def fe142:FE:=mkFE Tryz.f142 (q0) true
noncomputable def fe143:FE:=mkFE Tryz.f143 (q0) true
noncomputable def fe144:FE:=mkFE Tryz.f144 (q0) false
noncomputable def fe145:FE:=mkFE Tryz.f145 (q0) true
noncomputable def fe146:FE:=mkFE Tryz.f146 (q0) true
noncomputable def fe147:FE:=mkFE Tryz.f147 (q0) true
noncomputable def fe148:FE:=mkFE Tryz.f148 (q0) true
noncomputable def fe149:FE:=mkFE Tryz.f149 (q0) true
noncomputable def fe150:FE:=mkFE Tryz.f150 (q0) true
noncomputable def fe151:FE:=mkFE Tryz.f151 (q0) true
noncomputable def fe152:FE:=mkFE Tryz.f152 (q0) true
noncomputable def fe153:FE:=mkFE Tryz.f153 (q0) true
noncomputable def fe154:FE:=mkFE Tryz.f154 (q0) true
noncomputable def fe155:FE:=mkFE Tryz.f155 (q0) true
noncomputable def fe156:FE:=mkFE Tryz.f156 (q0) true
noncomputable def fe157:FE:=mkFE Tryz.f157 (q0) true
noncomputable def fe158:FE:=mkFE Tryz.f158 (q0) true
noncomputable def fe159:FE:=mkFE Tryz.f159 (fun i=>bif Nat.beq i 1 then some [(some 6,some 5)] else none) true
noncomputable def fe160:FE:=mkFE Tryz.f160 (q0) true
noncomputable def fe161:FE:=mkFE Tryz.f161 (q0) true
noncomputable def fe162:FE:=mkFE Tryz.f162 (q0) true
noncomputable def fe164:FE:=mkFE Tryz.f164 (q0) true
noncomputable def tabT:Tr:=(.n (.n (.n (.n (.n (.n (.n (.n .z 5 fe5 .z) 6 fe6 .z) 7 fe7 (.n .z 8 fe8 .z)) 9 fe9 (.n (.n (.n .z 10 fe10 .z) 11 fe11 .z) 12 fe12 (.n .z 13 fe13 .z))) 14 fe14 (.n (.n (.n (.n .z 15 fe15 .z) 16 fe16 .z) 17 fe17 (.n .z 18 fe18 .z)) 19 fe19 (.n (.n (.n .z 20 fe20 .z) 21 fe21 .z) 22 fe22 (.n .z 23 fe23 .z)))) 24 fe24 (.n (.n (.n (.n (.n .z 25 fe25 .z) 26 fe26 .z) 27 fe27 (.n .z 28 fe28 .z)) 29 fe29 (.n (.n (.n .z 30 fe30 .z) 31 fe31 .z) 32 fe32 (.n .z 33 fe33 .z))) 34 fe34 (.n (.n (.n (.n .z 35 fe35 .z) 36 fe36 .z) 37 fe37 (.n .z 38 fe38 .z)) 39 fe39 (.n (.n (.n .z 40 fe40 .z) 41 fe41 .z) 42 fe42 (.n .z 43 fe43 .z))))) 44 fe44 (.n (.n (.n (.n (.n (.n .z 45 fe45 .z) 46 fe46 .z) 47 fe47 (.n .z 48 fe48 .z)) 49 fe49 (.n (.n (.n .z 50 fe50 .z) 51 fe51 .z) 52 fe52 (.n .z 53 fe53 .z))) 54 fe54 (.n (.n (.n (.n .z 55 fe55 .z) 56 fe56 .z) 57 fe57 (.n .z 58 fe58 .z)) 59 fe59 (.n (.n (.n .z 60 fe60 .z) 61 fe61 .z) 62 fe62 (.n .z 63 fe63 .z)))) 64 fe64 (.n (.n (.n (.n (.n .z 65 fe65 .z) 66 fe66 .z) 67 fe67 (.n .z 68 fe68 .z)) 69 fe69 (.n (.n (.n .z 70 fe70 .z) 71 fe71 .z) 72 fe72 (.n .z 73 fe73 .z))) 74 fe74 (.n (.n (.n (.n .z 75 fe75 .z) 76 fe76 .z) 77 fe77 (.n .z 78 fe78 .z)) 79 fe79 (.n (.n (.n .z 80 fe80 .z) 81 fe81 .z) 82 fe82 (.n .z 83 fe83 .z)))))) 84 fe84 (.n (.n (.n (.n (.n (.n (.n .z 85 fe85 .z) 86 fe86 .z) 87 fe87 (.n .z 88 fe88 .z)) 89 fe89 (.n (.n (.n .z 90 fe90 .z) 91 fe91 .z) 92 fe92 (.n .z 93 fe93 .z))) 94 fe94 (.n (.n (.n (.n .z 95 fe95 .z) 96 fe96 .z) 97 fe97 (.n .z 98 fe98 .z)) 99 fe99 (.n (.n (.n .z 100 fe100 .z) 101 fe101 .z) 102 fe102 (.n .z 103 fe103 .z)))) 104 fe104 (.n (.n (.n (.n (.n .z 105 fe105 .z) 106 fe106 .z) 107 fe107 (.n .z 108 fe108 .z)) 109 fe109 (.n (.n (.n .z 110 fe110 .z) 111 fe111 .z) 112 fe112 (.n .z 113 fe113 .z))) 114 fe114 (.n (.n (.n (.n .z 115 fe115 .z) 116 fe116 .z) 117 fe117 (.n .z 118 fe118 .z)) 119 fe119 (.n (.n (.n .z 120 fe120 .z) 121 fe121 .z) 122 fe122 (.n .z 123 fe123 .z))))) 124 fe124 (.n (.n (.n (.n (.n (.n .z 125 fe125 .z) 126 fe126 .z) 127 fe127 (.n .z 128 fe128 .z)) 129 fe129 (.n (.n (.n .z 130 fe130 .z) 131 fe131 .z) 132 fe132 (.n .z 133 fe133 .z))) 134 fe134 (.n (.n (.n (.n .z 135 fe135 .z) 136 fe136 .z) 137 fe137 (.n .z 138 fe138 .z)) 139 fe139 (.n (.n (.n .z 140 fe140 .z) 141 fe141 .z) 142 fe142 (.n .z 143 fe143 .z)))) 144 fe144 (.n (.n (.n (.n (.n .z 145 fe145 .z) 146 fe146 .z) 147 fe147 (.n .z 148 fe148 .z)) 149 fe149 (.n (.n (.n .z 150 fe150 .z) 151 fe151 .z) 152 fe152 (.n .z 153 fe153 .z))) 154 fe154 (.n (.n (.n (.n .z 155 fe155 .z) 156 fe156 .z) 157 fe157 (.n .z 158 fe158 .z)) 159 fe159 (.n (.n (.n .z 160 fe160 .z) 161 fe161 .z) 162 fe162 (.n .z 164 fe164 .z)))))))
noncomputable def tab (f:FuncId):Option FE:=tabT.get f
end Go.Am

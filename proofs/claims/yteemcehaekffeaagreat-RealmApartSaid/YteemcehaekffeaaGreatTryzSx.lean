/- The seat's types, as facts for the walks. Printed by a program. -/
import Derived.Test.YteemcehaekffeaaGreatTryzEx
import Derived.Test.YteemcehaekffeaaGreatAmSimp
set_option linter.unusedVariables false
set_option linter.unusedSimpArgs false
namespace Go.Am
open Go Go.Proofs
theorem T1:cx.T 1=some ti1:=by kernel_rfl
theorem T2:cx.T 2=some ti2:=by kernel_rfl
theorem T3:cx.T 3=some ti3:=by kernel_rfl
theorem T4:cx.T 4=some ti4:=by kernel_rfl
theorem T5:cx.T 5=some ti5:=by kernel_rfl
theorem T6:cx.T 6=some ti6:=by kernel_rfl
theorem T7:cx.T 7=some ti7:=by kernel_rfl
theorem T8:cx.T 8=some ti8:=by kernel_rfl
theorem T9:cx.T 9=some ti9:=by kernel_rfl
theorem T10:cx.T 10=some ti10:=by kernel_rfl
theorem T11:cx.T 11=some ti11:=by kernel_rfl
theorem T12:cx.T 12=some ti12:=by kernel_rfl
theorem T13:cx.T 13=some ti13:=by kernel_rfl
theorem T14:cx.T 14=some ti14:=by kernel_rfl
theorem T15:cx.T 15=some ti15:=by kernel_rfl
theorem T16:cx.T 16=some ti16:=by kernel_rfl
theorem T17:cx.T 17=some ti17:=by kernel_rfl
theorem T18:cx.T 18=some ti18:=by kernel_rfl
theorem T19:cx.T 19=some ti19:=by kernel_rfl
theorem T20:cx.T 20=some ti20:=by kernel_rfl
theorem T21:cx.T 21=some ti21:=by kernel_rfl
theorem T22:cx.T 22=some ti22:=by kernel_rfl
theorem T23:cx.T 23=some ti23:=by kernel_rfl
theorem T24:cx.T 24=some ti24:=by kernel_rfl
theorem T25:cx.T 25=some ti25:=by kernel_rfl
theorem T26:cx.T 26=some ti26:=by kernel_rfl
theorem T27:cx.T 27=some ti27:=by kernel_rfl
theorem T28:cx.T 28=some ti28:=by kernel_rfl
theorem T29:cx.T 29=some ti29:=by kernel_rfl
theorem T30:cx.T 30=some ti30:=by kernel_rfl
theorem T31:cx.T 31=some ti31:=by kernel_rfl
theorem T32:cx.T 32=some ti32:=by kernel_rfl
theorem T33:cx.T 33=some ti33:=by kernel_rfl
theorem T34:cx.T 34=some ti34:=by kernel_rfl
theorem T35:cx.T 35=some ti35:=by kernel_rfl
theorem T36:cx.T 36=some ti36:=by kernel_rfl
theorem T37:cx.T 37=some ti37:=by kernel_rfl
theorem T38:cx.T 38=some ti38:=by kernel_rfl
theorem T40:cx.T 40=some ti40:=by kernel_rfl
theorem T41:cx.T 41=some ti41:=by kernel_rfl
theorem T42:cx.T 42=some ti42:=by kernel_rfl
theorem T43:cx.T 43=some ti43:=by kernel_rfl
theorem T44:cx.T 44=some ti44:=by kernel_rfl
theorem T45:cx.T 45=some ti45:=by kernel_rfl
theorem T46:cx.T 46=some ti46:=by kernel_rfl
theorem T47:cx.T 47=some ti47:=by kernel_rfl
theorem T48:cx.T 48=some ti48:=by kernel_rfl
theorem T49:cx.T 49=some ti49:=by kernel_rfl
theorem T50:cx.T 50=some ti50:=by kernel_rfl
theorem T52:cx.T 52=some ti52:=by kernel_rfl
theorem T53:cx.T 53=some ti53:=by kernel_rfl
theorem T54:cx.T 54=some ti54:=by kernel_rfl
theorem T55:cx.T 55=some ti55:=by kernel_rfl
theorem T56:cx.T 56=some ti56:=by kernel_rfl
theorem T57:cx.T 57=some ti57:=by kernel_rfl
theorem T58:cx.T 58=some ti58:=by kernel_rfl
theorem T59:cx.T 59=some ti59:=by kernel_rfl
theorem T61:cx.T 61=some ti61:=by kernel_rfl
theorem T63:cx.T 63=some ti63:=by kernel_rfl
theorem T64:cx.T 64=some ti64:=by kernel_rfl
theorem T65:cx.T 65=some ti65:=by kernel_rfl
theorem T66:cx.T 66=some ti66:=by kernel_rfl
theorem T67:cx.T 67=some ti67:=by kernel_rfl
theorem T68:cx.T 68=some ti68:=by kernel_rfl
theorem T69:cx.T 69=some ti69:=by kernel_rfl
theorem T70:cx.T 70=some ti70:=by kernel_rfl
theorem T71:cx.T 71=some ti71:=by kernel_rfl
theorem T72:cx.T 72=some ti72:=by kernel_rfl
theorem T73:cx.T 73=some ti73:=by kernel_rfl
theorem T74:cx.T 74=some ti74:=by kernel_rfl
theorem T75:cx.T 75=some ti75:=by kernel_rfl
theorem T76:cx.T 76=some ti76:=by kernel_rfl
theorem T77:cx.T 77=some ti77:=by kernel_rfl
theorem T78:cx.T 78=some ti78:=by kernel_rfl
theorem T79:cx.T 79=some ti79:=by kernel_rfl
theorem T80:cx.T 80=some ti80:=by kernel_rfl
theorem T81:cx.T 81=some ti81:=by kernel_rfl
theorem T82:cx.T 82=some ti82:=by kernel_rfl
theorem T83:cx.T 83=some ti83:=by kernel_rfl
theorem T84:cx.T 84=some ti84:=by kernel_rfl
theorem T85:cx.T 85=some ti85:=by kernel_rfl
theorem T86:cx.T 86=some ti86:=by kernel_rfl
theorem T88:cx.T 88=some ti88:=by kernel_rfl
theorem T89:cx.T 89=some ti89:=by kernel_rfl
theorem T90:cx.T 90=some ti90:=by kernel_rfl
theorem T92:cx.T 92=some ti92:=by kernel_rfl
theorem T93:cx.T 93=some ti93:=by kernel_rfl
theorem T94:cx.T 94=some ti94:=by kernel_rfl
theorem T95:cx.T 95=some ti95:=by kernel_rfl
theorem T96:cx.T 96=some ti96:=by kernel_rfl
theorem T97:cx.T 97=some ti97:=by kernel_rfl
theorem T98:cx.T 98=some ti98:=by kernel_rfl
theorem T99:cx.T 99=some ti99:=by kernel_rfl
theorem T100:cx.T 100=some ti100:=by kernel_rfl
theorem T101:cx.T 101=some ti101:=by kernel_rfl
theorem T102:cx.T 102=some ti102:=by kernel_rfl
theorem T103:cx.T 103=some ti103:=by kernel_rfl
theorem T104:cx.T 104=some ti104:=by kernel_rfl
theorem T105:cx.T 105=some ti105:=by kernel_rfl
theorem T106:cx.T 106=some ti106:=by kernel_rfl
theorem T107:cx.T 107=some ti107:=by kernel_rfl
theorem T108:cx.T 108=some ti108:=by kernel_rfl
theorem T109:cx.T 109=some ti109:=by kernel_rfl
theorem T110:cx.T 110=some ti110:=by kernel_rfl
theorem T111:cx.T 111=some ti111:=by kernel_rfl
theorem T112:cx.T 112=some ti112:=by kernel_rfl
theorem T113:cx.T 113=some ti113:=by kernel_rfl
theorem T114:cx.T 114=some ti114:=by kernel_rfl
theorem T115:cx.T 115=some ti115:=by kernel_rfl
theorem T116:cx.T 116=some ti116:=by kernel_rfl
theorem T117:cx.T 117=some ti117:=by kernel_rfl
theorem T118:cx.T 118=some ti118:=by kernel_rfl
theorem T119:cx.T 119=some ti119:=by kernel_rfl
theorem T120:cx.T 120=some ti120:=by kernel_rfl
theorem T121:cx.T 121=some ti121:=by kernel_rfl
theorem T122:cx.T 122=some ti122:=by kernel_rfl
theorem T124:cx.T 124=some ti124:=by kernel_rfl
theorem T125:cx.T 125=some ti125:=by kernel_rfl
theorem T126:cx.T 126=some ti126:=by kernel_rfl
theorem T127:cx.T 127=some ti127:=by kernel_rfl
theorem T128:cx.T 128=some ti128:=by kernel_rfl
theorem T129:cx.T 129=some ti129:=by kernel_rfl
theorem T130:cx.T 130=some ti130:=by kernel_rfl
theorem T131:cx.T 131=some ti131:=by kernel_rfl
theorem T132:cx.T 132=some ti132:=by kernel_rfl
theorem T134:cx.T 134=some ti134:=by kernel_rfl
theorem T135:cx.T 135=some ti135:=by kernel_rfl
theorem T136:cx.T 136=some ti136:=by kernel_rfl
theorem T137:cx.T 137=some ti137:=by kernel_rfl
theorem T139:cx.T 139=some ti139:=by kernel_rfl
theorem T140:cx.T 140=some ti140:=by kernel_rfl
theorem T141:cx.T 141=some ti141:=by kernel_rfl
theorem T142:cx.T 142=some ti142:=by kernel_rfl
theorem T143:cx.T 143=some ti143:=by kernel_rfl
theorem T144:cx.T 144=some ti144:=by kernel_rfl
theorem T145:cx.T 145=some ti145:=by kernel_rfl
theorem T146:cx.T 146=some ti146:=by kernel_rfl
theorem T147:cx.T 147=some ti147:=by kernel_rfl
theorem T148:cx.T 148=some ti148:=by kernel_rfl
theorem T149:cx.T 149=some ti149:=by kernel_rfl
theorem T150:cx.T 150=some ti150:=by kernel_rfl
theorem T151:cx.T 151=some ti151:=by kernel_rfl
theorem T152:cx.T 152=some ti152:=by kernel_rfl
theorem T153:cx.T 153=some ti153:=by kernel_rfl
theorem T154:cx.T 154=some ti154:=by kernel_rfl
theorem T155:cx.T 155=some ti155:=by kernel_rfl
theorem T156:cx.T 156=some ti156:=by kernel_rfl
theorem T157:cx.T 157=some ti157:=by kernel_rfl
theorem T158:cx.T 158=some ti158:=by kernel_rfl
theorem T159:cx.T 159=some ti159:=by kernel_rfl
theorem T160:cx.T 160=some ti160:=by kernel_rfl
theorem T161:cx.T 161=some ti161:=by kernel_rfl
theorem T162:cx.T 162=some ti162:=by kernel_rfl
theorem T163:cx.T 163=some ti163:=by kernel_rfl
theorem T164:cx.T 164=some ti164:=by kernel_rfl
theorem T165:cx.T 165=some ti165:=by kernel_rfl
theorem T166:cx.T 166=some ti166:=by kernel_rfl
theorem T167:cx.T 167=some ti167:=by kernel_rfl
theorem T168:cx.T 168=some ti168:=by kernel_rfl
theorem T169:cx.T 169=some ti169:=by kernel_rfl
theorem T170:cx.T 170=some ti170:=by kernel_rfl
theorem T171:cx.T 171=some ti171:=by kernel_rfl
theorem T172:cx.T 172=some ti172:=by kernel_rfl
theorem T173:cx.T 173=some ti173:=by kernel_rfl
theorem T174:cx.T 174=some ti174:=by kernel_rfl
theorem T175:cx.T 175=some ti175:=by kernel_rfl
theorem T177:cx.T 177=some ti177:=by kernel_rfl
theorem T178:cx.T 178=some ti178:=by kernel_rfl
theorem T179:cx.T 179=some ti179:=by kernel_rfl
theorem T180:cx.T 180=some ti180:=by kernel_rfl
theorem T181:cx.T 181=some ti181:=by kernel_rfl
theorem T182:cx.T 182=some ti182:=by kernel_rfl
theorem T183:cx.T 183=some ti183:=by kernel_rfl
theorem T184:cx.T 184=some ti184:=by kernel_rfl
theorem T186:cx.T 186=some ti186:=by kernel_rfl
theorem T187:cx.T 187=some ti187:=by kernel_rfl
theorem T188:cx.T 188=some ti188:=by kernel_rfl
theorem T189:cx.T 189=some ti189:=by kernel_rfl
theorem T190:cx.T 190=some ti190:=by kernel_rfl
theorem T191:cx.T 191=some ti191:=by kernel_rfl
theorem T192:cx.T 192=some ti192:=by kernel_rfl
theorem T193:cx.T 193=some ti193:=by kernel_rfl
theorem T194:cx.T 194=some ti194:=by kernel_rfl
theorem T195:cx.T 195=some ti195:=by kernel_rfl
theorem T196:cx.T 196=some ti196:=by kernel_rfl
theorem T197:cx.T 197=some ti197:=by kernel_rfl
theorem T198:cx.T 198=some ti198:=by kernel_rfl
theorem T199:cx.T 199=some ti199:=by kernel_rfl
theorem T200:cx.T 200=some ti200:=by kernel_rfl
theorem T201:cx.T 201=some ti201:=by kernel_rfl
theorem T202:cx.T 202=some ti202:=by kernel_rfl
theorem T203:cx.T 203=some ti203:=by kernel_rfl
theorem T204:cx.T 204=some ti204:=by kernel_rfl
theorem T205:cx.T 205=some ti205:=by kernel_rfl
theorem T206:cx.T 206=some ti206:=by kernel_rfl
theorem T207:cx.T 207=some ti207:=by kernel_rfl
theorem T209:cx.T 209=some ti209:=by kernel_rfl
theorem T210:cx.T 210=some ti210:=by kernel_rfl
theorem T211:cx.T 211=some ti211:=by kernel_rfl
theorem T212:cx.T 212=some ti212:=by kernel_rfl
theorem T213:cx.T 213=some ti213:=by kernel_rfl
theorem T215:cx.T 215=some ti215:=by kernel_rfl
theorem T216:cx.T 216=some ti216:=by kernel_rfl
theorem T217:cx.T 217=some ti217:=by kernel_rfl
theorem T218:cx.T 218=some ti218:=by kernel_rfl
theorem T220:cx.T 220=some ti220:=by kernel_rfl
theorem T221:cx.T 221=some ti221:=by kernel_rfl
theorem T222:cx.T 222=some ti222:=by kernel_rfl
theorem T223:cx.T 223=some ti223:=by kernel_rfl
theorem T224:cx.T 224=some ti224:=by kernel_rfl
theorem T225:cx.T 225=some ti225:=by kernel_rfl
theorem T226:cx.T 226=some ti226:=by kernel_rfl
theorem T227:cx.T 227=some ti227:=by kernel_rfl
theorem T228:cx.T 228=some ti228:=by kernel_rfl
theorem T229:cx.T 229=some ti229:=by kernel_rfl
theorem T230:cx.T 230=some ti230:=by kernel_rfl
theorem T231:cx.T 231=some ti231:=by kernel_rfl
theorem T232:cx.T 232=some ti232:=by kernel_rfl
theorem T233:cx.T 233=some ti233:=by kernel_rfl
theorem T234:cx.T 234=some ti234:=by kernel_rfl
theorem T235:cx.T 235=some ti235:=by kernel_rfl
theorem T236:cx.T 236=some ti236:=by kernel_rfl
theorem T237:cx.T 237=some ti237:=by kernel_rfl
theorem T238:cx.T 238=some ti238:=by kernel_rfl
attribute [go_sem] T1 ti1 T2 ti2 T3 ti3 T4 ti4 T5 ti5 T6 ti6 T7 ti7 T8 ti8 T9 ti9 T10 ti10 T11 ti11 T12 ti12 T13 ti13 T14 ti14 T15 ti15 T16 ti16 T17 ti17 T18 ti18 T19 ti19 T20 ti20
attribute [go_sem] T21 ti21 T22 ti22 T23 ti23 T24 ti24 T25 ti25 T26 ti26 T27 ti27 T28 ti28 T29 ti29 T30 ti30 T31 ti31 T32 ti32 T33 ti33 T34 ti34 T35 ti35 T36 ti36 T37 ti37 T38 ti38 T40 ti40 T41 ti41
attribute [go_sem] T42 ti42 T43 ti43 T44 ti44 T45 ti45 T46 ti46 T47 ti47 T48 ti48 T49 ti49 T50 ti50 T52 ti52 T53 ti53 T54 ti54 T55 ti55 T56 ti56 T57 ti57 T58 ti58 T59 ti59 T61 ti61 T63 ti63 T64 ti64
attribute [go_sem] T65 ti65 T66 ti66 T67 ti67 T68 ti68 T69 ti69 T70 ti70 T71 ti71 T72 ti72 T73 ti73 T74 ti74 T75 ti75 T76 ti76 T77 ti77 T78 ti78 T79 ti79 T80 ti80 T81 ti81 T82 ti82 T83 ti83 T84 ti84
attribute [go_sem] T85 ti85 T86 ti86 T88 ti88 T89 ti89 T90 ti90 T92 ti92 T93 ti93 T94 ti94 T95 ti95 T96 ti96 T97 ti97 T98 ti98 T99 ti99 T100 ti100 T101 ti101 T102 ti102 T103 ti103 T104 ti104 T105 ti105 T106 ti106
attribute [go_sem] T107 ti107 T108 ti108 T109 ti109 T110 ti110 T111 ti111 T112 ti112 T113 ti113 T114 ti114 T115 ti115 T116 ti116 T117 ti117 T118 ti118 T119 ti119 T120 ti120 T121 ti121 T122 ti122 T124 ti124 T125 ti125 T126 ti126 T127 ti127
attribute [go_sem] T128 ti128 T129 ti129 T130 ti130 T131 ti131 T132 ti132 T134 ti134 T135 ti135 T136 ti136 T137 ti137 T139 ti139 T140 ti140 T141 ti141 T142 ti142 T143 ti143 T144 ti144 T145 ti145 T146 ti146 T147 ti147 T148 ti148 T149 ti149
attribute [go_sem] T150 ti150 T151 ti151 T152 ti152 T153 ti153 T154 ti154 T155 ti155 T156 ti156 T157 ti157 T158 ti158 T159 ti159 T160 ti160 T161 ti161 T162 ti162 T163 ti163 T164 ti164 T165 ti165 T166 ti166 T167 ti167 T168 ti168 T169 ti169
attribute [go_sem] T170 ti170 T171 ti171 T172 ti172 T173 ti173 T174 ti174 T175 ti175 T177 ti177 T178 ti178 T179 ti179 T180 ti180 T181 ti181 T182 ti182 T183 ti183 T184 ti184 T186 ti186 T187 ti187 T188 ti188 T189 ti189 T190 ti190 T191 ti191
attribute [go_sem] T192 ti192 T193 ti193 T194 ti194 T195 ti195 T196 ti196 T197 ti197 T198 ti198 T199 ti199 T200 ti200 T201 ti201 T202 ti202 T203 ti203 T204 ti204 T205 ti205 T206 ti206 T207 ti207 T209 ti209 T210 ti210 T211 ti211 T212 ti212
attribute [go_sem] T213 ti213 T215 ti215 T216 ti216 T217 ti217 T218 ti218 T220 ti220 T221 ti221 T222 ti222 T223 ti223 T224 ti224 T225 ti225 T226 ti226 T227 ti227 T228 ti228 T229 ti229 T230 ti230 T231 ti231 T232 ti232 T233 ti233 T234 ti234
attribute [go_sem] T235 ti235 T236 ti236 T237 ti237 T238 ti238
theorem PS112_0 (z:List AVal):placeOf cx.T ⟨kd111,35,72,z⟩ 0=some (0,1):=by kernel_rfl
theorem PS112_1 (z:List AVal):placeOf cx.T ⟨kd111,35,72,z⟩ 1=some (1,32):=by kernel_rfl
theorem PS112_2 (z:List AVal):placeOf cx.T ⟨kd111,35,72,z⟩ 2=some (33,1):=by kernel_rfl
theorem PS112_3 (z:List AVal):placeOf cx.T ⟨kd111,35,72,z⟩ 3=some (34,1):=by kernel_rfl
attribute [go_sem] PS112_0 PS112_1 PS112_2 PS112_3
theorem PS116_0 (z:List AVal):placeOf cx.T ⟨kd115,35,64,z⟩ 0=some (0,1):=by kernel_rfl
theorem PS116_1 (z:List AVal):placeOf cx.T ⟨kd115,35,64,z⟩ 1=some (1,32):=by kernel_rfl
theorem PS116_2 (z:List AVal):placeOf cx.T ⟨kd115,35,64,z⟩ 2=some (33,1):=by kernel_rfl
theorem PS116_3 (z:List AVal):placeOf cx.T ⟨kd115,35,64,z⟩ 3=some (34,1):=by kernel_rfl
attribute [go_sem] PS116_0 PS116_1 PS116_2 PS116_3
theorem PS114_0 (z:List AVal):placeOf cx.T ⟨kd113,67,104,z⟩ 0=some (0,35):=by kernel_rfl
theorem PS114_1 (z:List AVal):placeOf cx.T ⟨kd113,67,104,z⟩ 1=some (35,32):=by kernel_rfl
attribute [go_sem] PS114_0 PS114_1
theorem PS108_0 (z:List AVal):placeOf cx.T ⟨kd107,37,104,z⟩ 0=some (0,1):=by kernel_rfl
theorem PS108_1 (z:List AVal):placeOf cx.T ⟨kd107,37,104,z⟩ 1=some (1,32):=by kernel_rfl
theorem PS108_2 (z:List AVal):placeOf cx.T ⟨kd107,37,104,z⟩ 2=some (33,1):=by kernel_rfl
theorem PS108_3 (z:List AVal):placeOf cx.T ⟨kd107,37,104,z⟩ 3=some (34,1):=by kernel_rfl
theorem PS108_4 (z:List AVal):placeOf cx.T ⟨kd107,37,104,z⟩ 4=some (35,1):=by kernel_rfl
theorem PS108_5 (z:List AVal):placeOf cx.T ⟨kd107,37,104,z⟩ 5=some (36,1):=by kernel_rfl
attribute [go_sem] PS108_0 PS108_1 PS108_2 PS108_3 PS108_4 PS108_5
theorem PS90_0 (z:List AVal):placeOf cx.T ⟨kd89,3,24,z⟩ 0=some (0,1):=by kernel_rfl
theorem PS90_1 (z:List AVal):placeOf cx.T ⟨kd89,3,24,z⟩ 1=some (1,1):=by kernel_rfl
theorem PS90_2 (z:List AVal):placeOf cx.T ⟨kd89,3,24,z⟩ 2=some (2,1):=by kernel_rfl
attribute [go_sem] PS90_0 PS90_1 PS90_2
theorem PS37_0 (z:List AVal):placeOf cx.T ⟨kd36,103,168,z⟩ 0=some (0,1):=by kernel_rfl
theorem PS37_1 (z:List AVal):placeOf cx.T ⟨kd36,103,168,z⟩ 1=some (1,1):=by kernel_rfl
theorem PS37_2 (z:List AVal):placeOf cx.T ⟨kd36,103,168,z⟩ 2=some (2,1):=by kernel_rfl
theorem PS37_3 (z:List AVal):placeOf cx.T ⟨kd36,103,168,z⟩ 3=some (3,1):=by kernel_rfl
theorem PS37_4 (z:List AVal):placeOf cx.T ⟨kd36,103,168,z⟩ 4=some (4,32):=by kernel_rfl
theorem PS37_5 (z:List AVal):placeOf cx.T ⟨kd36,103,168,z⟩ 5=some (36,1):=by kernel_rfl
theorem PS37_6 (z:List AVal):placeOf cx.T ⟨kd36,103,168,z⟩ 6=some (37,32):=by kernel_rfl
theorem PS37_7 (z:List AVal):placeOf cx.T ⟨kd36,103,168,z⟩ 7=some (69,1):=by kernel_rfl
theorem PS37_8 (z:List AVal):placeOf cx.T ⟨kd36,103,168,z⟩ 8=some (70,32):=by kernel_rfl
theorem PS37_9 (z:List AVal):placeOf cx.T ⟨kd36,103,168,z⟩ 9=some (102,1):=by kernel_rfl
attribute [go_sem] PS37_0 PS37_1 PS37_2 PS37_3 PS37_4 PS37_5 PS37_6 PS37_7 PS37_8 PS37_9
theorem PS57_0 (z:List AVal):placeOf cx.T ⟨kd56,172,256,z⟩ 0=some (0,1):=by kernel_rfl
theorem PS57_1 (z:List AVal):placeOf cx.T ⟨kd56,172,256,z⟩ 1=some (1,32):=by kernel_rfl
theorem PS57_2 (z:List AVal):placeOf cx.T ⟨kd56,172,256,z⟩ 2=some (33,1):=by kernel_rfl
theorem PS57_3 (z:List AVal):placeOf cx.T ⟨kd56,172,256,z⟩ 3=some (34,128):=by kernel_rfl
theorem PS57_4 (z:List AVal):placeOf cx.T ⟨kd56,172,256,z⟩ 4=some (162,10):=by kernel_rfl
attribute [go_sem] PS57_0 PS57_1 PS57_2 PS57_3 PS57_4
theorem PS47_0 (z:List AVal):placeOf cx.T ⟨kd46,10,80,z⟩ 0=some (0,1):=by kernel_rfl
theorem PS47_1 (z:List AVal):placeOf cx.T ⟨kd46,10,80,z⟩ 1=some (1,8):=by kernel_rfl
theorem PS47_2 (z:List AVal):placeOf cx.T ⟨kd46,10,80,z⟩ 2=some (9,1):=by kernel_rfl
attribute [go_sem] PS47_0 PS47_1 PS47_2
theorem PS42_0 (z:List AVal):placeOf cx.T ⟨kd41,33,40,z⟩ 0=some (0,32):=by kernel_rfl
theorem PS42_1 (z:List AVal):placeOf cx.T ⟨kd41,33,40,z⟩ 1=some (32,1):=by kernel_rfl
attribute [go_sem] PS42_0 PS42_1
theorem PS79_0 (z:List AVal):placeOf cx.T ⟨kd78,36,96,z⟩ 0=some (0,1):=by kernel_rfl
theorem PS79_1 (z:List AVal):placeOf cx.T ⟨kd78,36,96,z⟩ 1=some (1,32):=by kernel_rfl
theorem PS79_2 (z:List AVal):placeOf cx.T ⟨kd78,36,96,z⟩ 2=some (33,1):=by kernel_rfl
theorem PS79_3 (z:List AVal):placeOf cx.T ⟨kd78,36,96,z⟩ 3=some (34,1):=by kernel_rfl
theorem PS79_4 (z:List AVal):placeOf cx.T ⟨kd78,36,96,z⟩ 4=some (35,1):=by kernel_rfl
attribute [go_sem] PS79_0 PS79_1 PS79_2 PS79_3 PS79_4
theorem PS82_0 (z:List AVal):placeOf cx.T ⟨kd81,3,40,z⟩ 0=some (0,1):=by kernel_rfl
theorem PS82_1 (z:List AVal):placeOf cx.T ⟨kd81,3,40,z⟩ 1=some (1,1):=by kernel_rfl
theorem PS82_2 (z:List AVal):placeOf cx.T ⟨kd81,3,40,z⟩ 2=some (2,1):=by kernel_rfl
attribute [go_sem] PS82_0 PS82_1 PS82_2
theorem PS99_0 (z:List AVal):placeOf cx.T ⟨kd98,104,176,z⟩ 0=some (0,1):=by kernel_rfl
theorem PS99_1 (z:List AVal):placeOf cx.T ⟨kd98,104,176,z⟩ 1=some (1,103):=by kernel_rfl
attribute [go_sem] PS99_0 PS99_1
theorem PS28_0 (z:List AVal):placeOf cx.T ⟨kd27,3,24,z⟩ 0=some (0,1):=by kernel_rfl
theorem PS28_1 (z:List AVal):placeOf cx.T ⟨kd27,3,24,z⟩ 1=some (1,1):=by kernel_rfl
theorem PS28_2 (z:List AVal):placeOf cx.T ⟨kd27,3,24,z⟩ 2=some (2,1):=by kernel_rfl
attribute [go_sem] PS28_0 PS28_1 PS28_2
theorem PS49_0 (z:List AVal):placeOf cx.T ⟨kd48,207,312,z⟩ 0=some (0,1):=by kernel_rfl
theorem PS49_1 (z:List AVal):placeOf cx.T ⟨kd48,207,312,z⟩ 1=some (1,1):=by kernel_rfl
theorem PS49_2 (z:List AVal):placeOf cx.T ⟨kd48,207,312,z⟩ 2=some (2,1):=by kernel_rfl
theorem PS49_3 (z:List AVal):placeOf cx.T ⟨kd48,207,312,z⟩ 3=some (3,1):=by kernel_rfl
theorem PS49_4 (z:List AVal):placeOf cx.T ⟨kd48,207,312,z⟩ 4=some (4,33):=by kernel_rfl
theorem PS49_5 (z:List AVal):placeOf cx.T ⟨kd48,207,312,z⟩ 5=some (37,32):=by kernel_rfl
theorem PS49_6 (z:List AVal):placeOf cx.T ⟨kd48,207,312,z⟩ 6=some (69,128):=by kernel_rfl
theorem PS49_7 (z:List AVal):placeOf cx.T ⟨kd48,207,312,z⟩ 7=some (197,10):=by kernel_rfl
attribute [go_sem] PS49_0 PS49_1 PS49_2 PS49_3 PS49_4 PS49_5 PS49_6 PS49_7
end Go.Am

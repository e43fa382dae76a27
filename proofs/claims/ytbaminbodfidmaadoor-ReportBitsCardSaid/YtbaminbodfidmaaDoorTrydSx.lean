/- The seat's types, as facts for the walks. Printed by a program. -/
import Derived.Test.YtbaminbodfidmaaDoorTrydEx
import Derived.Test.YtbaminbodfidmaaDoorAmSimp
set_option linter.unusedVariables false
set_option linter.unusedSimpArgs false
namespace Go.Am
open Go Go.Proofs
theorem T1 : cx.T 1 = some ti1 := by kernel_rfl
theorem T2 : cx.T 2 = some ti2 := by kernel_rfl
theorem T3 : cx.T 3 = some ti3 := by kernel_rfl
theorem T4 : cx.T 4 = some ti4 := by kernel_rfl
theorem T5 : cx.T 5 = some ti5 := by kernel_rfl
theorem T6 : cx.T 6 = some ti6 := by kernel_rfl
theorem T7 : cx.T 7 = some ti7 := by kernel_rfl
theorem T8 : cx.T 8 = some ti8 := by kernel_rfl
theorem T9 : cx.T 9 = some ti9 := by kernel_rfl
theorem T10 : cx.T 10 = some ti10 := by kernel_rfl
theorem T11 : cx.T 11 = some ti11 := by kernel_rfl
theorem T12 : cx.T 12 = some ti12 := by kernel_rfl
theorem T13 : cx.T 13 = some ti13 := by kernel_rfl
theorem T14 : cx.T 14 = some ti14 := by kernel_rfl
theorem T15 : cx.T 15 = some ti15 := by kernel_rfl
theorem T16 : cx.T 16 = some ti16 := by kernel_rfl
theorem T17 : cx.T 17 = some ti17 := by kernel_rfl
theorem T18 : cx.T 18 = some ti18 := by kernel_rfl
theorem T19 : cx.T 19 = some ti19 := by kernel_rfl
theorem T20 : cx.T 20 = some ti20 := by kernel_rfl
theorem T21 : cx.T 21 = some ti21 := by kernel_rfl
theorem T22 : cx.T 22 = some ti22 := by kernel_rfl
theorem T23 : cx.T 23 = some ti23 := by kernel_rfl
theorem T24 : cx.T 24 = some ti24 := by kernel_rfl
theorem T25 : cx.T 25 = some ti25 := by kernel_rfl
theorem T26 : cx.T 26 = some ti26 := by kernel_rfl
theorem T27 : cx.T 27 = some ti27 := by kernel_rfl
theorem T28 : cx.T 28 = some ti28 := by kernel_rfl
theorem T29 : cx.T 29 = some ti29 := by kernel_rfl
theorem T31 : cx.T 31 = some ti31 := by kernel_rfl
theorem T33 : cx.T 33 = some ti33 := by kernel_rfl
theorem T34 : cx.T 34 = some ti34 := by kernel_rfl
theorem T35 : cx.T 35 = some ti35 := by kernel_rfl
theorem T36 : cx.T 36 = some ti36 := by kernel_rfl
theorem T37 : cx.T 37 = some ti37 := by kernel_rfl
theorem T38 : cx.T 38 = some ti38 := by kernel_rfl
theorem T39 : cx.T 39 = some ti39 := by kernel_rfl
theorem T40 : cx.T 40 = some ti40 := by kernel_rfl
theorem T41 : cx.T 41 = some ti41 := by kernel_rfl
theorem T42 : cx.T 42 = some ti42 := by kernel_rfl
theorem T43 : cx.T 43 = some ti43 := by kernel_rfl
theorem T44 : cx.T 44 = some ti44 := by kernel_rfl
theorem T45 : cx.T 45 = some ti45 := by kernel_rfl
theorem T46 : cx.T 46 = some ti46 := by kernel_rfl
theorem T48 : cx.T 48 = some ti48 := by kernel_rfl
theorem T50 : cx.T 50 = some ti50 := by kernel_rfl
theorem T51 : cx.T 51 = some ti51 := by kernel_rfl
theorem T52 : cx.T 52 = some ti52 := by kernel_rfl
theorem T53 : cx.T 53 = some ti53 := by kernel_rfl
theorem T54 : cx.T 54 = some ti54 := by kernel_rfl
theorem T55 : cx.T 55 = some ti55 := by kernel_rfl
theorem T56 : cx.T 56 = some ti56 := by kernel_rfl
theorem T57 : cx.T 57 = some ti57 := by kernel_rfl
theorem T59 : cx.T 59 = some ti59 := by kernel_rfl
theorem T61 : cx.T 61 = some ti61 := by kernel_rfl
theorem T62 : cx.T 62 = some ti62 := by kernel_rfl
theorem T64 : cx.T 64 = some ti64 := by kernel_rfl
theorem T65 : cx.T 65 = some ti65 := by kernel_rfl
theorem T66 : cx.T 66 = some ti66 := by kernel_rfl
theorem T67 : cx.T 67 = some ti67 := by kernel_rfl
theorem T68 : cx.T 68 = some ti68 := by kernel_rfl
theorem T69 : cx.T 69 = some ti69 := by kernel_rfl
theorem T70 : cx.T 70 = some ti70 := by kernel_rfl
theorem T71 : cx.T 71 = some ti71 := by kernel_rfl
theorem T72 : cx.T 72 = some ti72 := by kernel_rfl
theorem T73 : cx.T 73 = some ti73 := by kernel_rfl
theorem T74 : cx.T 74 = some ti74 := by kernel_rfl
theorem T75 : cx.T 75 = some ti75 := by kernel_rfl
theorem T76 : cx.T 76 = some ti76 := by kernel_rfl
theorem T77 : cx.T 77 = some ti77 := by kernel_rfl
theorem T79 : cx.T 79 = some ti79 := by kernel_rfl
theorem T80 : cx.T 80 = some ti80 := by kernel_rfl
theorem T81 : cx.T 81 = some ti81 := by kernel_rfl
theorem T82 : cx.T 82 = some ti82 := by kernel_rfl
theorem T83 : cx.T 83 = some ti83 := by kernel_rfl
theorem T84 : cx.T 84 = some ti84 := by kernel_rfl
theorem T85 : cx.T 85 = some ti85 := by kernel_rfl
theorem T86 : cx.T 86 = some ti86 := by kernel_rfl
theorem T88 : cx.T 88 = some ti88 := by kernel_rfl
theorem T89 : cx.T 89 = some ti89 := by kernel_rfl
theorem T90 : cx.T 90 = some ti90 := by kernel_rfl
theorem T91 : cx.T 91 = some ti91 := by kernel_rfl
theorem T92 : cx.T 92 = some ti92 := by kernel_rfl
theorem T93 : cx.T 93 = some ti93 := by kernel_rfl
theorem T94 : cx.T 94 = some ti94 := by kernel_rfl
theorem T95 : cx.T 95 = some ti95 := by kernel_rfl
theorem T96 : cx.T 96 = some ti96 := by kernel_rfl
theorem T97 : cx.T 97 = some ti97 := by kernel_rfl
theorem T98 : cx.T 98 = some ti98 := by kernel_rfl
theorem T100 : cx.T 100 = some ti100 := by kernel_rfl
theorem T101 : cx.T 101 = some ti101 := by kernel_rfl
theorem T102 : cx.T 102 = some ti102 := by kernel_rfl
theorem T103 : cx.T 103 = some ti103 := by kernel_rfl
theorem T104 : cx.T 104 = some ti104 := by kernel_rfl
theorem T105 : cx.T 105 = some ti105 := by kernel_rfl
theorem T106 : cx.T 106 = some ti106 := by kernel_rfl
theorem T107 : cx.T 107 = some ti107 := by kernel_rfl
theorem T108 : cx.T 108 = some ti108 := by kernel_rfl
theorem T109 : cx.T 109 = some ti109 := by kernel_rfl
theorem T110 : cx.T 110 = some ti110 := by kernel_rfl
theorem T111 : cx.T 111 = some ti111 := by kernel_rfl
theorem T112 : cx.T 112 = some ti112 := by kernel_rfl
theorem T113 : cx.T 113 = some ti113 := by kernel_rfl
theorem T114 : cx.T 114 = some ti114 := by kernel_rfl
theorem T115 : cx.T 115 = some ti115 := by kernel_rfl
theorem T116 : cx.T 116 = some ti116 := by kernel_rfl
theorem T117 : cx.T 117 = some ti117 := by kernel_rfl
theorem T118 : cx.T 118 = some ti118 := by kernel_rfl
theorem T119 : cx.T 119 = some ti119 := by kernel_rfl
theorem T120 : cx.T 120 = some ti120 := by kernel_rfl
theorem T121 : cx.T 121 = some ti121 := by kernel_rfl
theorem T123 : cx.T 123 = some ti123 := by kernel_rfl
theorem T124 : cx.T 124 = some ti124 := by kernel_rfl
theorem T125 : cx.T 125 = some ti125 := by kernel_rfl
theorem T126 : cx.T 126 = some ti126 := by kernel_rfl
theorem T127 : cx.T 127 = some ti127 := by kernel_rfl
theorem T128 : cx.T 128 = some ti128 := by kernel_rfl
theorem T129 : cx.T 129 = some ti129 := by kernel_rfl
theorem T130 : cx.T 130 = some ti130 := by kernel_rfl
theorem T131 : cx.T 131 = some ti131 := by kernel_rfl
theorem T132 : cx.T 132 = some ti132 := by kernel_rfl
theorem T133 : cx.T 133 = some ti133 := by kernel_rfl
theorem T134 : cx.T 134 = some ti134 := by kernel_rfl
theorem T135 : cx.T 135 = some ti135 := by kernel_rfl
theorem T136 : cx.T 136 = some ti136 := by kernel_rfl
theorem T137 : cx.T 137 = some ti137 := by kernel_rfl
attribute [go_sem] T1 ti1 T2 ti2 T3 ti3 T4 ti4 T5 ti5 T6 ti6 T7 ti7 T8 ti8 T9 ti9 T10 ti10 T11 ti11 T12 ti12 T13 ti13 T14 ti14 T15 ti15 T16 ti16 T17 ti17 T18 ti18 T19 ti19 T20 ti20
attribute [go_sem] T21 ti21 T22 ti22 T23 ti23 T24 ti24 T25 ti25 T26 ti26 T27 ti27 T28 ti28 T29 ti29 T31 ti31 T33 ti33 T34 ti34 T35 ti35 T36 ti36 T37 ti37 T38 ti38 T39 ti39 T40 ti40 T41 ti41 T42 ti42
attribute [go_sem] T43 ti43 T44 ti44 T45 ti45 T46 ti46 T48 ti48 T50 ti50 T51 ti51 T52 ti52 T53 ti53 T54 ti54 T55 ti55 T56 ti56 T57 ti57 T59 ti59 T61 ti61 T62 ti62 T64 ti64 T65 ti65 T66 ti66 T67 ti67
attribute [go_sem] T68 ti68 T69 ti69 T70 ti70 T71 ti71 T72 ti72 T73 ti73 T74 ti74 T75 ti75 T76 ti76 T77 ti77 T79 ti79 T80 ti80 T81 ti81 T82 ti82 T83 ti83 T84 ti84 T85 ti85 T86 ti86 T88 ti88 T89 ti89
attribute [go_sem] T90 ti90 T91 ti91 T92 ti92 T93 ti93 T94 ti94 T95 ti95 T96 ti96 T97 ti97 T98 ti98 T100 ti100 T101 ti101 T102 ti102 T103 ti103 T104 ti104 T105 ti105 T106 ti106 T107 ti107 T108 ti108 T109 ti109 T110 ti110
attribute [go_sem] T111 ti111 T112 ti112 T113 ti113 T114 ti114 T115 ti115 T116 ti116 T117 ti117 T118 ti118 T119 ti119 T120 ti120 T121 ti121 T123 ti123 T124 ti124 T125 ti125 T126 ti126 T127 ti127 T128 ti128 T129 ti129 T130 ti130 T131 ti131
attribute [go_sem] T132 ti132 T133 ti133 T134 ti134 T135 ti135 T136 ti136 T137 ti137
end Go.Am

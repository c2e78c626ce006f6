import Derived.Test.YtdobfpcmocobiaaDoorAm4
import Derived.Test.YtdobfpcmocobiaaDoorProg
import Derived.Shelf.Strings.Repeat

/-! The functions that the laws of this seat reach, as plain functions, and what these answer; no condition. -/
set_option linter.unusedSimpArgs false
set_option linter.unusedVariables false
set_option linter.unusedSectionVars false

section
namespace Go.Proofs
def Tryd.laysM171_ren : Go.Shelf.Ren := ⟨fun | 171 => 29 | 243 => 50 | 246 => 66 | 283 => 75 | 284 => 76 | 285 => 77 | 286 => 78 | 129 => 86 | 317 => 85 | 318 => 87 | 319 => 88 | 320 => 89 | 337 => 91 | 338 => 92 | n => n, fun | 3 => 3 | 9 => 9 | 2 => 2 | 4 => 4 | 171 => 112 | 0 => 0 | 53 => 22 | 37 => 53 | 5 => 5 | 173 => 115 | 212 => 131 | 51 => 52 | 20 => 20 | 213 => 132 | 46 => 54 | 232 => 89 | 233 => 136 | n => n, fun | 17 => 5 | 18 => 6 | 19 => 7 | n => n⟩
theorem Tryd.laysM171 : Go.Proofs.LaysM.n171 Tryd.prog Tryd.laysM171_ren := {
  mixed := by kernel_rfl
  f129 := Tryd.func86.trans (congrArg some (by kernel_rfl))
  f171 := Tryd.func29.trans (congrArg some (by kernel_rfl))
  f243 := Tryd.func50.trans (congrArg some (by kernel_rfl))
  f246 := Tryd.func66.trans (congrArg some (by kernel_rfl))
  f283 := Tryd.func75.trans (congrArg some (by kernel_rfl))
  f284 := Tryd.func76.trans (congrArg some (by kernel_rfl))
  f285 := Tryd.func77.trans (congrArg some (by kernel_rfl))
  f286 := Tryd.func78.trans (congrArg some (by kernel_rfl))
  f317 := Tryd.func85.trans (congrArg some (by kernel_rfl))
  f318 := Tryd.func87.trans (congrArg some (by kernel_rfl))
  f319 := Tryd.func88.trans (congrArg some (by kernel_rfl))
  f320 := Tryd.func89.trans (congrArg some (by kernel_rfl))
  f337 := Tryd.func91.trans (congrArg some (by kernel_rfl))
  f338 := Tryd.func92.trans (congrArg some (by kernel_rfl))
  t0 := Tryd.underlying0
  a0 := Tryd.isAgg0
  z0 := Tryd.sizeOf0
  v0 := Tryd.zeroValue0
  t2 := Tryd.underlying2
  a2 := Tryd.isAgg2
  z2 := Tryd.sizeOf2
  v2 := Tryd.zeroValue2
  t3 := Tryd.underlying3
  a3 := Tryd.isAgg3
  z3 := Tryd.sizeOf3
  v3 := Tryd.zeroValue3
  t4 := Tryd.underlying4
  a4 := Tryd.isAgg4
  z4 := Tryd.sizeOf4
  v4 := Tryd.zeroValue4
  t5 := Tryd.underlying5
  a5 := Tryd.isAgg5
  z5 := Tryd.sizeOf5
  v5 := Tryd.zeroValue5
  t9 := Tryd.underlying9
  a9 := Tryd.isAgg9
  z9 := Tryd.sizeOf9
  v9 := Tryd.zeroValue9
  t20 := Tryd.underlying20
  a20 := Tryd.isAgg20
  z20 := Tryd.sizeOf20
  v20 := Tryd.zeroValue20
  t37 := Tryd.underlying53
  a37 := Tryd.isAgg53
  z37 := Tryd.sizeOf53
  v37 := Tryd.zeroValue53
  t46 := Tryd.underlying54
  a46 := Tryd.isAgg54
  z46 := Tryd.sizeOf54
  v46 := Tryd.zeroValue54
  t51 := Tryd.underlying52
  a51 := Tryd.isAgg52
  z51 := Tryd.sizeOf52
  v51 := Tryd.zeroValue52
  t53 := Tryd.underlying22
  a53 := Tryd.isAgg22
  z53 := Tryd.sizeOf22
  v53 := Tryd.zeroValue22
  t171 := Tryd.underlying112
  a171 := Tryd.isAgg112
  z171 := Tryd.sizeOf112
  v171 := Tryd.zeroValue112
  t173 := Tryd.underlying115
  a173 := Tryd.isAgg115
  z173 := Tryd.sizeOf115
  v173 := Tryd.zeroValue115
  t212 := Tryd.underlying131
  a212 := Tryd.isAgg131
  z212 := Tryd.sizeOf131
  v212 := Tryd.zeroValue131
  t213 := Tryd.underlying132
  a213 := Tryd.isAgg132
  z213 := Tryd.sizeOf132
  t232 := Tryd.underlying89
  a232 := Tryd.isAgg89
  z232 := Tryd.sizeOf89
  v232 := Tryd.zeroValue89
  t233 := Tryd.underlying136
  a233 := Tryd.isAgg136
  z233 := Tryd.sizeOf136
  v233 := Tryd.zeroValue136
  g17 := by kernel_rfl
  g18 := by kernel_rfl
  g19 := by kernel_rfl
  i0 := by kernel_rfl
  i2 := by kernel_rfl
  i3 := by kernel_rfl
  i4 := by kernel_rfl
  i5 := by kernel_rfl
  i9 := by kernel_rfl
  i20 := by kernel_rfl
  i37 := by kernel_rfl
  i46 := by kernel_rfl
  i51 := by kernel_rfl
  i53 := by kernel_rfl
  i171 := by kernel_rfl
  i173 := by kernel_rfl
  i212 := by kernel_rfl
  i232 := by kernel_rfl
  i233 := by kernel_rfl
  m17 := by kernel_rfl
  m18 := by kernel_rfl
  m19 := by kernel_rfl }
def Tryd.lays105_ren : Go.Shelf.Ren := ⟨fun | 105 => 24 | 212 => 38 | 99 => 39 | 165 => 40 | 166 => 41 | 170 => 42 | 169 => 43 | 263 => 56 | 264 => 57 | 206 => 54 | 240 => 58 | 241 => 59 | 276 => 69 | 277 => 70 | n => n, fun | 9 => 9 | 3 => 3 | 4 => 4 | 20 => 20 | 0 => 0 | 46 => 54 | 109 => 74 | 5 => 5 | 72 => 79 | 76 => 62 | 51 => 52 | 146 => 91 | 53 => 22 | 148 => 93 | 70 => 77 | 37 => 53 | 75 => 61 | 127 => 95 | 164 => 104 | 80 => 82 | n => n, fun | n => n⟩
theorem Tryd.lays105 : Go.Proofs.Lays.n105 Tryd.prog Tryd.lays105_ren := {
  mixed := by kernel_rfl
  f99 := Tryd.func39.trans (congrArg some (by kernel_rfl))
  f105 := Tryd.func24.trans (congrArg some (by kernel_rfl))
  f165 := Tryd.func40.trans (congrArg some (by kernel_rfl))
  f166 := Tryd.func41.trans (congrArg some (by kernel_rfl))
  f169 := Tryd.func43.trans (congrArg some (by kernel_rfl))
  f170 := Tryd.func42.trans (congrArg some (by kernel_rfl))
  f206 := Tryd.func54.trans (congrArg some (by kernel_rfl))
  f212 := Tryd.func38.trans (congrArg some (by kernel_rfl))
  f240 := Tryd.func58.trans (congrArg some (by kernel_rfl))
  f241 := Tryd.func59.trans (congrArg some (by kernel_rfl))
  f263 := Tryd.func56.trans (congrArg some (by kernel_rfl))
  f264 := Tryd.func57.trans (congrArg some (by kernel_rfl))
  f276 := Tryd.func69.trans (congrArg some (by kernel_rfl))
  f277 := Tryd.func70.trans (congrArg some (by kernel_rfl))
  t0 := Tryd.underlying0
  a0 := Tryd.isAgg0
  z0 := Tryd.sizeOf0
  v0 := Tryd.zeroValue0
  t3 := Tryd.underlying3
  a3 := Tryd.isAgg3
  z3 := Tryd.sizeOf3
  v3 := Tryd.zeroValue3
  t4 := Tryd.underlying4
  a4 := Tryd.isAgg4
  z4 := Tryd.sizeOf4
  v4 := Tryd.zeroValue4
  t5 := Tryd.underlying5
  a5 := Tryd.isAgg5
  z5 := Tryd.sizeOf5
  v5 := Tryd.zeroValue5
  t9 := Tryd.underlying9
  a9 := Tryd.isAgg9
  z9 := Tryd.sizeOf9
  v9 := Tryd.zeroValue9
  t20 := Tryd.underlying20
  a20 := Tryd.isAgg20
  z20 := Tryd.sizeOf20
  v20 := Tryd.zeroValue20
  t37 := Tryd.underlying53
  a37 := Tryd.isAgg53
  z37 := Tryd.sizeOf53
  v37 := Tryd.zeroValue53
  t46 := Tryd.underlying54
  a46 := Tryd.isAgg54
  z46 := Tryd.sizeOf54
  v46 := Tryd.zeroValue54
  t51 := Tryd.underlying52
  a51 := Tryd.isAgg52
  z51 := Tryd.sizeOf52
  v51 := Tryd.zeroValue52
  t53 := Tryd.underlying22
  a53 := Tryd.isAgg22
  z53 := Tryd.sizeOf22
  v53 := Tryd.zeroValue22
  t70 := Tryd.underlying77
  a70 := Tryd.isAgg77
  z70 := Tryd.sizeOf77
  v70 := Tryd.zeroValue77
  t72 := Tryd.underlying79
  a72 := Tryd.isAgg79
  z72 := Tryd.sizeOf79
  v72 := Tryd.zeroValue79
  t75 := Tryd.underlying61
  a75 := Tryd.isAgg61
  z75 := Tryd.sizeOf61
  v75 := Tryd.zeroValue61
  t76 := Tryd.underlying62
  a76 := Tryd.isAgg62
  z76 := Tryd.sizeOf62
  v76 := Tryd.zeroValue62
  t109 := Tryd.underlying74
  a109 := Tryd.isAgg74
  z109 := Tryd.sizeOf74
  v109 := Tryd.zeroValue74
  t127 := Tryd.underlying95
  a127 := Tryd.isAgg95
  z127 := Tryd.sizeOf95
  v127 := Tryd.zeroValue95
  t146 := Tryd.underlying91
  a146 := Tryd.isAgg91
  z146 := Tryd.sizeOf91
  v146 := Tryd.zeroValue91
  t148 := Tryd.underlying93
  a148 := Tryd.isAgg93
  z148 := Tryd.sizeOf93
  v148 := Tryd.zeroValue93
  t164 := Tryd.underlying104
  a164 := Tryd.isAgg104
  z164 := Tryd.sizeOf104
  v164 := Tryd.zeroValue104 }
theorem Tryd.Builder_Extra_105 : Builder.Extra Tryd.prog Tryd.lays105_ren := {
  sizeBuilder := by kernel_rfl
  liesBuilder := by kernel_rfl
  t5 := Tryd.underlying5
  a5 := Tryd.isAgg5
  z5 := Tryd.sizeOf5
  v5 := Tryd.zeroValue5
  infoByte := by kernel_rfl
  cellsByte := by kernel_rfl
  sizeByte := by kernel_rfl
  neB5 := by decide }
def Tryd.lays161_ren : Go.Shelf.Ren := ⟨fun | 161 => 19 | 231 => 30 | 227 => 31 | 233 => 32 | 235 => 33 | 228 => 51 | 197 => 52 | 151 => 53 | 260 => 67 | 152 => 68 | 137 => 79 | 119 => 80 | 224 => 81 | 225 => 82 | 217 => 90 | 266 => 93 | n => n, fun | 9 => 9 | 4 => 4 | 3 => 3 | 5 => 5 | 117 => 69 | 116 => 68 | 0 => 0 | 124 => 72 | 105 => 86 | 21 => 21 | 119 => 117 | 46 => 54 | 139 => 120 | 138 => 119 | n => n, fun | 3 => 2 | 4 => 3 | n => n⟩
theorem Tryd.lays161 : Go.Proofs.Lays.n161 Tryd.prog Tryd.lays161_ren := {
  mixed := by kernel_rfl
  f119 := Tryd.func80.trans (congrArg some (by kernel_rfl))
  f137 := Tryd.func79.trans (congrArg some (by kernel_rfl))
  f151 := Tryd.func53.trans (congrArg some (by kernel_rfl))
  f152 := Tryd.func68.trans (congrArg some (by kernel_rfl))
  f161 := Tryd.func19.trans (congrArg some (by kernel_rfl))
  f197 := Tryd.func52.trans (congrArg some (by kernel_rfl))
  f217 := Tryd.func90.trans (congrArg some (by kernel_rfl))
  f224 := Tryd.func81.trans (congrArg some (by kernel_rfl))
  f225 := Tryd.func82.trans (congrArg some (by kernel_rfl))
  f227 := Tryd.func31.trans (congrArg some (by kernel_rfl))
  f228 := Tryd.func51.trans (congrArg some (by kernel_rfl))
  f231 := Tryd.func30.trans (congrArg some (by kernel_rfl))
  f233 := Tryd.func32.trans (congrArg some (by kernel_rfl))
  f235 := Tryd.func33.trans (congrArg some (by kernel_rfl))
  f260 := Tryd.func67.trans (congrArg some (by kernel_rfl))
  f266 := Tryd.func93.trans (congrArg some (by kernel_rfl))
  t0 := Tryd.underlying0
  a0 := Tryd.isAgg0
  z0 := Tryd.sizeOf0
  v0 := Tryd.zeroValue0
  t3 := Tryd.underlying3
  a3 := Tryd.isAgg3
  z3 := Tryd.sizeOf3
  v3 := Tryd.zeroValue3
  t4 := Tryd.underlying4
  a4 := Tryd.isAgg4
  z4 := Tryd.sizeOf4
  v4 := Tryd.zeroValue4
  t5 := Tryd.underlying5
  a5 := Tryd.isAgg5
  z5 := Tryd.sizeOf5
  v5 := Tryd.zeroValue5
  t9 := Tryd.underlying9
  a9 := Tryd.isAgg9
  z9 := Tryd.sizeOf9
  v9 := Tryd.zeroValue9
  t21 := Tryd.underlying21
  a21 := Tryd.isAgg21
  z21 := Tryd.sizeOf21
  v21 := Tryd.zeroValue21
  t46 := Tryd.underlying54
  a46 := Tryd.isAgg54
  z46 := Tryd.sizeOf54
  v46 := Tryd.zeroValue54
  t105 := Tryd.underlying86
  a105 := Tryd.isAgg86
  z105 := Tryd.sizeOf86
  v105 := Tryd.zeroValue86
  t116 := Tryd.underlying68
  a116 := Tryd.isAgg68
  z116 := Tryd.sizeOf68
  t117 := Tryd.underlying69
  a117 := Tryd.isAgg69
  z117 := Tryd.sizeOf69
  v117 := Tryd.zeroValue69
  t119 := Tryd.underlying117
  a119 := Tryd.isAgg117
  z119 := Tryd.sizeOf117
  t124 := Tryd.underlying72
  a124 := Tryd.isAgg72
  z124 := Tryd.sizeOf72
  v124 := Tryd.zeroValue72
  t138 := Tryd.underlying119
  a138 := Tryd.isAgg119
  z138 := Tryd.sizeOf119
  v138 := Tryd.zeroValue119
  t139 := Tryd.underlying120
  a139 := Tryd.isAgg120
  z139 := Tryd.sizeOf120
  v139 := Tryd.zeroValue120
  g3 := by kernel_rfl
  g4 := by kernel_rfl }
def Tryd.lays160_ren : Go.Shelf.Ren := ⟨fun | 160 => 26 | 232 => 44 | 231 => 30 | 227 => 31 | 234 => 45 | 233 => 32 | 236 => 46 | 235 => 33 | 228 => 51 | 271 => 60 | 151 => 53 | 197 => 52 | 120 => 71 | 152 => 68 | 260 => 67 | 137 => 79 | 119 => 80 | 224 => 81 | 225 => 82 | 217 => 90 | 266 => 93 | n => n, fun | 9 => 9 | 4 => 4 | 3 => 3 | 5 => 5 | 117 => 69 | 116 => 68 | 0 => 0 | 124 => 72 | 21 => 21 | 105 => 86 | 46 => 54 | 119 => 117 | 139 => 120 | 138 => 119 | n => n, fun | 3 => 2 | 4 => 3 | n => n⟩
theorem Tryd.lays160 : Go.Proofs.Lays.n160 Tryd.prog Tryd.lays160_ren := {
  mixed := by kernel_rfl
  f119 := Tryd.func80.trans (congrArg some (by kernel_rfl))
  f120 := Tryd.func71.trans (congrArg some (by kernel_rfl))
  f137 := Tryd.func79.trans (congrArg some (by kernel_rfl))
  f151 := Tryd.func53.trans (congrArg some (by kernel_rfl))
  f152 := Tryd.func68.trans (congrArg some (by kernel_rfl))
  f160 := Tryd.func26.trans (congrArg some (by kernel_rfl))
  f197 := Tryd.func52.trans (congrArg some (by kernel_rfl))
  f217 := Tryd.func90.trans (congrArg some (by kernel_rfl))
  f224 := Tryd.func81.trans (congrArg some (by kernel_rfl))
  f225 := Tryd.func82.trans (congrArg some (by kernel_rfl))
  f227 := Tryd.func31.trans (congrArg some (by kernel_rfl))
  f228 := Tryd.func51.trans (congrArg some (by kernel_rfl))
  f231 := Tryd.func30.trans (congrArg some (by kernel_rfl))
  f232 := Tryd.func44.trans (congrArg some (by kernel_rfl))
  f233 := Tryd.func32.trans (congrArg some (by kernel_rfl))
  f234 := Tryd.func45.trans (congrArg some (by kernel_rfl))
  f235 := Tryd.func33.trans (congrArg some (by kernel_rfl))
  f236 := Tryd.func46.trans (congrArg some (by kernel_rfl))
  f260 := Tryd.func67.trans (congrArg some (by kernel_rfl))
  f266 := Tryd.func93.trans (congrArg some (by kernel_rfl))
  f271 := Tryd.func60.trans (congrArg some (by kernel_rfl))
  t0 := Tryd.underlying0
  a0 := Tryd.isAgg0
  z0 := Tryd.sizeOf0
  v0 := Tryd.zeroValue0
  t3 := Tryd.underlying3
  a3 := Tryd.isAgg3
  z3 := Tryd.sizeOf3
  v3 := Tryd.zeroValue3
  t4 := Tryd.underlying4
  a4 := Tryd.isAgg4
  z4 := Tryd.sizeOf4
  v4 := Tryd.zeroValue4
  t5 := Tryd.underlying5
  a5 := Tryd.isAgg5
  z5 := Tryd.sizeOf5
  v5 := Tryd.zeroValue5
  t9 := Tryd.underlying9
  a9 := Tryd.isAgg9
  z9 := Tryd.sizeOf9
  v9 := Tryd.zeroValue9
  t21 := Tryd.underlying21
  a21 := Tryd.isAgg21
  z21 := Tryd.sizeOf21
  v21 := Tryd.zeroValue21
  t46 := Tryd.underlying54
  a46 := Tryd.isAgg54
  z46 := Tryd.sizeOf54
  v46 := Tryd.zeroValue54
  t105 := Tryd.underlying86
  a105 := Tryd.isAgg86
  z105 := Tryd.sizeOf86
  v105 := Tryd.zeroValue86
  t116 := Tryd.underlying68
  a116 := Tryd.isAgg68
  z116 := Tryd.sizeOf68
  t117 := Tryd.underlying69
  a117 := Tryd.isAgg69
  z117 := Tryd.sizeOf69
  v117 := Tryd.zeroValue69
  t119 := Tryd.underlying117
  a119 := Tryd.isAgg117
  z119 := Tryd.sizeOf117
  t124 := Tryd.underlying72
  a124 := Tryd.isAgg72
  z124 := Tryd.sizeOf72
  v124 := Tryd.zeroValue72
  t138 := Tryd.underlying119
  a138 := Tryd.isAgg119
  z138 := Tryd.sizeOf119
  v138 := Tryd.zeroValue119
  t139 := Tryd.underlying120
  a139 := Tryd.isAgg120
  z139 := Tryd.sizeOf120
  v139 := Tryd.zeroValue120
  g3 := by kernel_rfl
  g4 := by kernel_rfl }
def Tryd.lays172_ren : Go.Shelf.Ren := ⟨fun | 172 => 27 | 244 => 47 | 245 => 48 | 247 => 61 | 279 => 62 | 280 => 63 | 281 => 64 | 282 => 65 | 287 => 72 | 316 => 73 | 171 => 29 | 205 => 74 | 321 => 83 | 322 => 84 | 243 => 50 | 246 => 66 | 283 => 75 | 284 => 76 | 285 => 77 | 286 => 78 | 129 => 86 | 317 => 85 | 318 => 87 | 319 => 88 | 320 => 89 | 337 => 91 | 338 => 92 | n => n, fun | 9 => 9 | 3 => 3 | 75 => 61 | 76 => 62 | 4 => 4 | 5 => 5 | 167 => 96 | 37 => 53 | 0 => 0 | 85 => 97 | 2 => 2 | 168 => 99 | 53 => 22 | 175 => 107 | 46 => 54 | 210 => 110 | 127 => 95 | 145 => 129 | 143 => 127 | 21 => 21 | 171 => 112 | 173 => 115 | 212 => 131 | 51 => 52 | 20 => 20 | 213 => 132 | 232 => 89 | 233 => 136 | 80 => 82 | n => n, fun | 15 => 0 | 16 => 1 | 17 => 5 | 18 => 6 | 19 => 7 | n => n⟩
theorem Tryd.lays172 : Go.Proofs.Lays.n172 Tryd.prog Tryd.lays172_ren := {
  mixed := by kernel_rfl
  f129 := Tryd.func86.trans (congrArg some (by kernel_rfl))
  f171 := Tryd.func29.trans (congrArg some (by kernel_rfl))
  f172 := Tryd.func27.trans (congrArg some (by kernel_rfl))
  f205 := Tryd.func74.trans (congrArg some (by kernel_rfl))
  f243 := Tryd.func50.trans (congrArg some (by kernel_rfl))
  f244 := Tryd.func47.trans (congrArg some (by kernel_rfl))
  f245 := Tryd.func48.trans (congrArg some (by kernel_rfl))
  f246 := Tryd.func66.trans (congrArg some (by kernel_rfl))
  f247 := Tryd.func61.trans (congrArg some (by kernel_rfl))
  f279 := Tryd.func62.trans (congrArg some (by kernel_rfl))
  f280 := Tryd.func63.trans (congrArg some (by kernel_rfl))
  f281 := Tryd.func64.trans (congrArg some (by kernel_rfl))
  f282 := Tryd.func65.trans (congrArg some (by kernel_rfl))
  f283 := Tryd.func75.trans (congrArg some (by kernel_rfl))
  f284 := Tryd.func76.trans (congrArg some (by kernel_rfl))
  f285 := Tryd.func77.trans (congrArg some (by kernel_rfl))
  f286 := Tryd.func78.trans (congrArg some (by kernel_rfl))
  f287 := Tryd.func72.trans (congrArg some (by kernel_rfl))
  f316 := Tryd.func73.trans (congrArg some (by kernel_rfl))
  f317 := Tryd.func85.trans (congrArg some (by kernel_rfl))
  f318 := Tryd.func87.trans (congrArg some (by kernel_rfl))
  f319 := Tryd.func88.trans (congrArg some (by kernel_rfl))
  f320 := Tryd.func89.trans (congrArg some (by kernel_rfl))
  f321 := Tryd.func83.trans (congrArg some (by kernel_rfl))
  f322 := Tryd.func84.trans (congrArg some (by kernel_rfl))
  f337 := Tryd.func91.trans (congrArg some (by kernel_rfl))
  f338 := Tryd.func92.trans (congrArg some (by kernel_rfl))
  t0 := Tryd.underlying0
  a0 := Tryd.isAgg0
  z0 := Tryd.sizeOf0
  v0 := Tryd.zeroValue0
  t2 := Tryd.underlying2
  a2 := Tryd.isAgg2
  z2 := Tryd.sizeOf2
  v2 := Tryd.zeroValue2
  t3 := Tryd.underlying3
  a3 := Tryd.isAgg3
  z3 := Tryd.sizeOf3
  v3 := Tryd.zeroValue3
  t4 := Tryd.underlying4
  a4 := Tryd.isAgg4
  z4 := Tryd.sizeOf4
  v4 := Tryd.zeroValue4
  t5 := Tryd.underlying5
  a5 := Tryd.isAgg5
  z5 := Tryd.sizeOf5
  v5 := Tryd.zeroValue5
  t9 := Tryd.underlying9
  a9 := Tryd.isAgg9
  z9 := Tryd.sizeOf9
  v9 := Tryd.zeroValue9
  t20 := Tryd.underlying20
  a20 := Tryd.isAgg20
  z20 := Tryd.sizeOf20
  v20 := Tryd.zeroValue20
  t21 := Tryd.underlying21
  a21 := Tryd.isAgg21
  z21 := Tryd.sizeOf21
  v21 := Tryd.zeroValue21
  t37 := Tryd.underlying53
  a37 := Tryd.isAgg53
  z37 := Tryd.sizeOf53
  v37 := Tryd.zeroValue53
  t46 := Tryd.underlying54
  a46 := Tryd.isAgg54
  z46 := Tryd.sizeOf54
  v46 := Tryd.zeroValue54
  t51 := Tryd.underlying52
  a51 := Tryd.isAgg52
  z51 := Tryd.sizeOf52
  v51 := Tryd.zeroValue52
  t53 := Tryd.underlying22
  a53 := Tryd.isAgg22
  z53 := Tryd.sizeOf22
  v53 := Tryd.zeroValue22
  t75 := Tryd.underlying61
  a75 := Tryd.isAgg61
  z75 := Tryd.sizeOf61
  v75 := Tryd.zeroValue61
  t76 := Tryd.underlying62
  a76 := Tryd.isAgg62
  z76 := Tryd.sizeOf62
  v76 := Tryd.zeroValue62
  t85 := Tryd.underlying97
  a85 := Tryd.isAgg97
  z85 := Tryd.sizeOf97
  v85 := Tryd.zeroValue97
  t127 := Tryd.underlying95
  a127 := Tryd.isAgg95
  z127 := Tryd.sizeOf95
  v127 := Tryd.zeroValue95
  t143 := Tryd.underlying127
  a143 := Tryd.isAgg127
  z143 := Tryd.sizeOf127
  v143 := Tryd.zeroValue127
  t145 := Tryd.underlying129
  a145 := Tryd.isAgg129
  z145 := Tryd.sizeOf129
  v145 := Tryd.zeroValue129
  t167 := Tryd.underlying96
  a167 := Tryd.isAgg96
  z167 := Tryd.sizeOf96
  v167 := Tryd.zeroValue96
  t168 := Tryd.underlying99
  a168 := Tryd.isAgg99
  z168 := Tryd.sizeOf99
  v168 := Tryd.zeroValue99
  t171 := Tryd.underlying112
  a171 := Tryd.isAgg112
  z171 := Tryd.sizeOf112
  v171 := Tryd.zeroValue112
  t173 := Tryd.underlying115
  a173 := Tryd.isAgg115
  z173 := Tryd.sizeOf115
  v173 := Tryd.zeroValue115
  t175 := Tryd.underlying107
  a175 := Tryd.isAgg107
  z175 := Tryd.sizeOf107
  v175 := Tryd.zeroValue107
  t210 := Tryd.underlying110
  a210 := Tryd.isAgg110
  z210 := Tryd.sizeOf110
  v210 := Tryd.zeroValue110
  t212 := Tryd.underlying131
  a212 := Tryd.isAgg131
  z212 := Tryd.sizeOf131
  v212 := Tryd.zeroValue131
  t213 := Tryd.underlying132
  a213 := Tryd.isAgg132
  z213 := Tryd.sizeOf132
  t232 := Tryd.underlying89
  a232 := Tryd.isAgg89
  z232 := Tryd.sizeOf89
  v232 := Tryd.zeroValue89
  t233 := Tryd.underlying136
  a233 := Tryd.isAgg136
  z233 := Tryd.sizeOf136
  v233 := Tryd.zeroValue136
  g15 := by kernel_rfl
  g16 := by kernel_rfl
  g17 := by kernel_rfl
  g18 := by kernel_rfl
  g19 := by kernel_rfl }
end Go.Proofs
namespace Go.AM
open Go.Proofs
noncomputable abbrev P := Tryd.prog
noncomputable instance tb : Tabs := Tabs.pow P 5 (by kernel_rfl)
universe u
theorem an {α : Type u} {p : α -> Prop} : ∀ k ∈ ([] : List α), p k := fun k h => nomatch h
theorem ac {α : Type u} {p : α -> Prop} {a : α} {l : List α} (h : p a) (k : ∀ x ∈ l, p x) : ∀ x ∈ a :: l, p x := fun x hx => by
  rcases List.mem_cons.1 hx with rfl | hx
  · exact h
  · exact k x hx
set_option maxRecDepth 100000
set_option linter.unusedVariables false
noncomputable section
variable (m_ : CQ)
abbrev Qd : Ty := .lst (.int .u32)
abbrev Qr : Ty := .arr 4 (.int .u64)
abbrev TW : Ty := .pair (.int .i64) .str
namespace Nr
def O (m_ : CQ) : OO P := lD []
def run (m_ : CQ) : (Int × List Int) × Unit -> Option ((List Int) × Int × Unit) := fun v_ => match v_ with
| (t, ()) =>
 bif vG (t.2.length : Int) then
 bif ((decide (t.1 < 0)) || (decide (t.1 > 255))) then
  some (([] : List Int), 13, ())
 else
  bif decide ((t.2.length : Int) > 65535) then
   some (([] : List Int), 12, ())
  else
   bif decide ((t.2.length : Int) < 128) then
    bif decide (([(IntKind.u8.wrap t.1), (IntKind.u8.wrap (t.2.length : Int))] : List Int).length + t.2.length <= maxStr) then
    some ((([(IntKind.u8.wrap t.1), (IntKind.u8.wrap (t.2.length : Int))] : List Int) ++ t.2), 0, ()) else none
   else
    bif decide ((t.2.length : Int) < 256) then
     bif decide (([(IntKind.u8.wrap t.1), 129, (IntKind.u8.wrap (t.2.length : Int))] : List Int).length + t.2.length <= maxStr) then
     some ((([(IntKind.u8.wrap t.1), 129, (IntKind.u8.wrap (t.2.length : Int))] : List Int) ++ t.2), 0, ()) else none
    else
     bif decide (([(IntKind.u8.wrap t.1), 130, (IntKind.u8.wrap (IK .i64 (t.2.length : Int) 8)), (IntKind.u8.wrap (t.2.length : Int))] : List Int).length + t.2.length <= maxStr) then
     some ((([(IntKind.u8.wrap t.1), 130, (IntKind.u8.wrap (IK .i64 (t.2.length : Int) 8)), (IntKind.u8.wrap (t.2.length : Int))] : List Int) ++ t.2), 0, ()) else none else none
theorem k : KT (O m_) [] ⟨10, [.ag TW], .iC [.sh (.one .str), .sh (.one (.int .i64))], run m_⟩ [] := fun _ => by kernel_rfl
def c := co (k m_)
end Nr

namespace L8
def O (m_ : CQ) : OO P := lD []
def e0 : Spec := ⟨[fs 13 [.q 250676, .z 250676, .b 3, .q 31335, .b 2, .q 1959, .z 244, .b 1, .q 31] [(4, .oy 0), (6, .dat (.int .u32)), (7, .oy 1), (50, .dat Qd), (51, .w), (52, .w)]], [(0, .c [.ry]), (1, .c [.ry])], 2⟩
def x0 : List Spec := [⟨[fs 13 [.q 31335, .b 2, .q 1959, .z 244, .b 1, .q 31] [(4, .oy 0), (7, .oy 1), (50, .dat Qd), (51, .w), (52, .w)]], [(0, .c [.ry]), (1, .c [.ry])], 2⟩]
abbrev A0 : Type := Int × LI × Int × Int × LI × LI × Unit
abbrev B0 : Type := (LI × Int × Int × LI × LI × Unit)
def b0 (m_ : CQ) (self : A0 -> Option B0) : A0 -> Option B0 := fun v_ => match v_ with
| (n, t, t1, t2, m, m1, ()) =>
 bif decide (n > 0) then
  bif decide (m1.length + ([(IntKind.u8.wrap (Kv .u32 (II .u32 n 127) 128))] : List Int).length < 70368744177664) then
  self ((IK .u32 n 7), t, t1, t2, m, (m1 ++ ([(IntKind.u8.wrap (Kv .u32 (II .u32 n 127) 128))] : List Int)), ()) else none
 else
  some (t, t1, t2, m, m1, ())
theorem k0 : KQ 13 (O m_) [25] e0 x0 [] (b0 m_) := fun _ _ => by kernel_rfl
def l0 := loop m_ (b0 m_)
theorem q0 (v) : l0 .lim v = b0 .lim (l0 .lim) v := KS.q (k0 .lim) v
def s0 := so m_ (k0 m_)
def e1 : Spec := ⟨[fs 25 [.q 12, .z 12, .b 0] [(0, .oy 0), (2, .w), (3, .w)], fs 13 [.v 62670 [1], .q 62671, .b 2, .q 1959, .z 244, .b 1, .q 31] [(4, .oy 1), (7, .oy 0), (50, .dat Qd), (51, .w), (52, .w)]], [(0, .c [.ry]), (1, .c [.ry])], 2⟩
def x1 : List Spec := [⟨[fs 25 [] [], fs 13 [.v 62670 [1], .q 62671, .b 2, .q 1959, .z 244, .b 1, .q 31] [(4, .oy 0), (7, .oy 1), (50, .dat Qd), (51, .w), (52, .w)]], [(0, .c [.ry]), (1, .c [.ry])], 2⟩]
abbrev A1 : Type := Int × Int × LI × Int × Int × LI × LI × Unit
abbrev B1 : Type := (LI × Int × Int × LI × LI × Unit)
def b1 (m_ : CQ) (self : A1 -> Option B1) : A1 -> Option B1 := fun v_ => match v_ with
| (i, j, t, t1, t2, m, m1, ()) =>
 bif decide (i < j) then
  bif inB j (m.length : Int) then
  bif inB i (m.length : Int) then
  bif inB i (m.length : Int) then
  bif inB j ((m.set i.toNat (rd 0 m j)).length : Int) then
  self ((IntKind.i64.wrap (i + 1)), (IntKind.i64.wrap (j - 1)), t, t1, t2, ((m.set i.toNat (rd 0 m j)).set j.toNat (rd 0 m i)), m1, ()) else none else none else none else none
 else
  some (t, t1, t2, m1, m, ())
theorem k1 : KQ 13 (O m_) [25] e1 x1 [] (b1 m_) := fun _ _ => by kernel_rfl
def l1 := loop m_ (b1 m_)
theorem q1 (v) : l1 .lim v = b1 .lim (l1 .lim) v := KS.q (k1 .lim) v
def s1 := so m_ (k1 m_)
def e2 : Spec := ⟨[fs 13 [.q 244, .z 244, .b 1, .q 31] [(4, .oy 0), (50, .dat Qd), (51, .w), (52, .w)]], [(0, .c [.ry])], 1⟩
def x2 : List Spec := [⟨[fs 13 [.q 31] [(4, .oy 0)]], [(0, .c [.ry])], 1⟩]
abbrev A2 : Type := LI × Int × Int × LI × Unit
abbrev B2 : Type := (LI × Unit)
def b2 (self : A2 -> Option B2) : A2 -> Option B2 := fun v_ => match v_ with
| (t, t1, t2, m, ()) =>
 bif decide (t2 < t1) then
  bif inB t2 (t.length : Int) then
  (L8.l0 m_ ((IK .u32 (rd 0 t t2) 7), t, t1, t2, m, ([(IntKind.u8.wrap (II .u32 (rd 0 t t2) 127))] : List Int), ())).bind fun (t3, t4, t5, m1, m2, ()) =>
  bif vG (m2.length : Int) then
  (L8.l1 m_ (0, (IntKind.i64.wrap ((m2.length : Int) - 1)), t3, t4, t5, m2, m1, ())).bind fun (t6, t7, t8, m3, m4, ()) =>
  bif decide (m3.length + m4.length < 70368744177664) then
  self (t6, t7, (IntKind.i64.wrap (t8 + 1)), (m3 ++ m4), ()) else none else none else none
 else
  some (m, ())
theorem k2 : KQ 13 (O m_) [25] e2 x2 [s0 m_, s1 m_] (b2 m_) := fun _ _ => by kernel_rfl
def l2 := loop m_ (b2 m_)
theorem q2 (v) : l2 .lim v = b2 .lim (l2 .lim) v := KS.q (k2 .lim) v
def s2 := so m_ (k2 m_)
def run : (List Int) × Unit -> Option ((List Int) × Int × Unit) := fun v_ => match v_ with
| (l, ()) =>
 bif vG (l.length : Int) then
 bif decide ((l.length : Int) < 2) then
  some (([] : List Int), 11, ())
 else
  bif vG (l.length : Int) then
  bif decide ((l.length : Int) > 16) then
   some (([] : List Int), 18, ())
  else
   bif inB 0 (l.length : Int) then
   bif ((!(!(decide ((rd 0 l 0) > 2)))) || (inB 1 (l.length : Int))) then
   bif ((!(!((decide ((rd 0 l 0) > 2)) || (decide ((rd 0 l 1) > 47))))) || (inB 0 (l.length : Int))) then
   bif ((!((!((decide ((rd 0 l 0) > 2)) || (decide ((rd 0 l 1) > 47)))) && (decide ((rd 0 l 0) < 2)))) || (inB 1 (l.length : Int))) then
   bif (((decide ((rd 0 l 0) > 2)) || (decide ((rd 0 l 1) > 47))) || ((decide ((rd 0 l 0) < 2)) && (decide ((rd 0 l 1) > 39)))) then
    some (([] : List Int), 13, ())
   else
    bif inB 0 (l.length : Int) then
    bif inB 1 (l.length : Int) then
    bif rZ 2 (l.length : Int) (l.length : Int) then
    bif vG ((cut l 2 (l.length : Int)).length : Int) then
    (L8.l2 m_ ((cut l 2 (l.length : Int)), ((cut l 2 (l.length : Int)).length : Int), 0, ([(IntKind.u8.wrap (IntKind.u32.wrap ((IntKind.u32.wrap (40 * (rd 0 l 0))) + (rd 0 l 1))))] : List Int), ())).bind fun (m, ()) =>
    some (m, 0, ()) else none else none else none else none else none else none else none else none else none else none
theorem k : KT (O m_) [25] ⟨13, [.one Qd], .iC [.sh (.one .str), .sh (.one (.int .i64))], run m_⟩ [s2 m_] := fun _ => by kernel_rfl
def c := co (k m_)
end L8

namespace MZ
def O (m_ : CQ) : OO P := lD []
def run (m_ : CQ) : Int × Int × Unit -> Option (Int) := fun v_ => match v_ with
| (a, b, ()) =>
 bif !(decide (b = 0)) then
 bif !(decide (b = 0)) then
 bif decide ((a.tmod b) < 0) then
  some (IntKind.i64.wrap ((IntKind.i64.wrap (a.tdiv b)) - 1))
 else
  some (IntKind.i64.wrap (a.tdiv b)) else none else none
theorem k : KT (O m_) [] ⟨49, [.one (.int .i64), .one (.int .i64)], .one (.sh (.one (.int .i64))), run m_⟩ [] := fun _ => by kernel_rfl
def c := co (k m_)
end MZ

namespace MN
def O : OO P := lD [MZ.c m_]
def run : Int × Int × Int × Unit -> Option (Int) := fun v_ => match v_ with
| (y, m, d, ()) =>
 (MZ.run m_ ((IntKind.i64.wrap (y - (IntKind.i64.wrap ((IntKind.i64.wrap (14 - m)).tdiv 12)))), 4, ())).bind fun r =>
 (MZ.run m_ ((IntKind.i64.wrap (y - (IntKind.i64.wrap ((IntKind.i64.wrap (14 - m)).tdiv 12)))), 100, ())).bind fun r1 =>
 (MZ.run m_ ((IntKind.i64.wrap (y - (IntKind.i64.wrap ((IntKind.i64.wrap (14 - m)).tdiv 12)))), 400, ())).bind fun r2 =>
 some (IntKind.i64.wrap ((IntKind.i64.wrap ((IntKind.i64.wrap ((IntKind.i64.wrap ((IntKind.i64.wrap ((IntKind.i64.wrap ((IntKind.i64.wrap ((IntKind.i64.wrap (y - (IntKind.i64.wrap ((IntKind.i64.wrap (14 - m)).tdiv 12)))) * 365)) + r)) - r1)) + r2)) + (IntKind.i64.wrap ((IntKind.i64.wrap ((IntKind.i64.wrap (((IntKind.i64.wrap (m + 9)).tmod 12) * 306)) + 5)).tdiv 10)))) + d)) - 307))
theorem k : KT (O m_) [] ⟨28, [.one (.int .i64), .one (.int .i64), .one (.int .i64)], .one (.sh (.one (.int .i64))), run m_⟩ [] := fun _ => by kernel_rfl
def c := co (k m_)
end MN

namespace Md
def O : OO P := lD [MN.c m_]
def e0 : Spec := ⟨[fs 17 [.q 56, .z 56, .b 0, .q 15] [(0, .w), (5, .w)]], [], 0⟩
def x0 : List Spec := [⟨[fs 17 [.q 15] [(0, .w), (5, .w)]], [], 0⟩]
abbrev A0 : Type := Int × Int × Unit
abbrev B0 : Type := (Int × Int × Unit)
def b0 (self : A0 -> Option B0) : A0 -> Option B0 := fun v_ => match v_ with
| (n, y, ()) =>
 (MN.run m_ ((IntKind.i64.wrap (y + 1)), 1, 1, ())).bind fun r =>
 bif decide (r <= n) then
  self (n, (IntKind.i64.wrap (y + 1)), ())
 else
  some (n, y, ())
theorem k0 : KQ 17 (O m_) [] e0 x0 [] (b0 m_) := fun _ _ => by kernel_rfl
def l0 := loop m_ (b0 m_)
theorem q0 (v) : l0 .lim v = b0 .lim (l0 .lim) v := KS.q (k0 .lim) v
def s0 := so m_ (k0 m_)
def e1 : Spec := ⟨[fs 17 [.q 120, .z 120, .b 2, .q 31] [(0, .w), (5, .w)]], [], 0⟩
def x1 : List Spec := [⟨[fs 17 [.q 31] [(0, .w), (5, .w)]], [], 0⟩]
abbrev A1 : Type := Int × Int × Unit
abbrev B1 : Type := (Int × Int × Unit)
def b1 (self : A1 -> Option B1) : A1 -> Option B1 := fun v_ => match v_ with
| (n, y, ()) =>
 (MN.run m_ (y, 1, 1, ())).bind fun r =>
 bif decide (r > n) then
  self (n, (IntKind.i64.wrap (y - 1)), ())
 else
  some (n, y, ())
theorem k1 : KQ 17 (O m_) [] e1 x1 [] (b1 m_) := fun _ _ => by kernel_rfl
def l1 := loop m_ (b1 m_)
theorem q1 (v) : l1 .lim v = b1 .lim (l1 .lim) v := KS.q (k1 .lim) v
def s1 := so m_ (k1 m_)
def e2 : Spec := ⟨[fs 17 [.q 504, .z 504, .b 4, .q 127] [(0, .w), (5, .w), (6, .w)]], [], 0⟩
def x2 : List Spec := [⟨[fs 17 [.q 127] [(0, .w), (5, .w), (6, .w)]], [], 0⟩]
abbrev A2 : Type := Int × Int × Int × Unit
abbrev B2 : Type := (Int × Int × Int × Unit)
def b2 (self : A2 -> Option B2) : A2 -> Option B2 := fun v_ => match v_ with
| (n, y, m, ()) =>
 (MN.run m_ (y, m, 1, ())).bind fun r =>
 bif decide (r > n) then
  self (n, y, (IntKind.i64.wrap (m - 1)), ())
 else
  some (n, y, m, ())
theorem k2 : KQ 17 (O m_) [] e2 x2 [] (b2 m_) := fun _ _ => by kernel_rfl
def l2 := loop m_ (b2 m_)
theorem q2 (v) : l2 .lim v = b2 .lim (l2 .lim) v := KS.q (k2 .lim) v
def s2 := so m_ (k2 m_)
def run : Int × Unit -> Option (Int × Int × Int × Unit) := fun v_ => match v_ with
| (n, ()) =>
 (Md.l0 m_ (n, (IntKind.i64.wrap ((IntKind.i64.wrap ((IntKind.i64.wrap (n * 400)).tdiv 146097)) + 1)), ())).bind fun (n1, y, ()) =>
 (Md.l1 m_ (n1, y, ())).bind fun (n2, y1, ()) =>
 (Md.l2 m_ (n2, y1, 12, ())).bind fun (n3, y2, m, ()) =>
 (MN.run m_ (y2, m, 1, ())).bind fun r =>
 some (y2, m, (IntKind.i64.wrap ((IntKind.i64.wrap (n3 - r)) + 1)), ())
theorem k : KT (O m_) [] ⟨17, [.one (.int .i64)], .iC [.sh (.one (.int .i64)), .sh (.one (.int .i64)), .sh (.one (.int .i64))], run m_⟩ [s0 m_, s1 m_, s2 m_] := fun _ => by kernel_rfl
def c := co (k m_)
end Md

namespace strconv_Itoa
def run (_ : CQ) : Int × Unit -> Option (List Int) := FC
def c (m_ : CQ) : CO P := ⟨⟨29, [.one (.int .i64)], .one (.sh (.one .str)), run m_⟩, JV (by kernel_rfl) (fun _ h => h) fun n w h0 h1 ht => Go.Proofs.Any.strconv_Itoa Go.Proofs.Tryd.laysM171 n h0 h1 w ht⟩
end strconv_Itoa

namespace strings_Repeat
def run (_ : CQ) : (List Int) × Int × Unit -> Option (List Int) := KC
def c (m_ : CQ) : CO P := ⟨⟨24, [.one .str, .one (.int .i64)], .one (.sh (.one .str)), run m_⟩, Je (by kernel_rfl) fun s c w hc hl => Go.Proofs.Any.strings_Repeat Go.Proofs.Tryd.lays105 Go.Proofs.Tryd.Builder_Extra_105 s c w hc hl⟩
end strings_Repeat

namespace MI
def O : OO P := lD [strings_Repeat.c m_, strconv_Itoa.c m_]
def run : Int × Int × Unit -> Option (List Int) := fun v_ => match v_ with
| (n, size, ()) =>
 (strconv_Itoa.run m_ (n, ())).bind fun r =>
 bif vG (r.length : Int) then
 (strings_Repeat.run m_ (([48] : List Int), (IntKind.i64.wrap (size - (r.length : Int))), ())).bind fun r1 =>
 bif decide (r1.length + r.length <= maxStr) then
 some (r1 ++ r) else none else none
theorem k : KT (O m_) [] ⟨18, [.one (.int .i64), .one (.int .i64)], .one (.sh (.one .str)), run m_⟩ [] := fun _ => by kernel_rfl
def c := co (k m_)
end MI

namespace MC
def O : OO P := lD [Md.c m_, MI.c m_]
def run : Int × Unit -> Option ((List Int) × Int × Unit) := fun v_ => match v_ with
| (t, ()) =>
 bif ((decide (t < (-62135596800))) || (decide (t > 253402300799))) then
  some (([] : List Int), 13, ())
 else
  (Md.run m_ ((IntKind.i64.wrap ((IntKind.i64.wrap (t - (-62135596800))).tdiv 86400)), ())).bind fun (r, r1, r2, ()) =>
  (MI.run m_ (r, 4, ())).bind fun r3 =>
  (MI.run m_ (r1, 2, ())).bind fun r4 =>
  bif decide (r3.length + r4.length <= maxStr) then
  (MI.run m_ (r2, 2, ())).bind fun r5 =>
  bif decide ((r3 ++ r4).length + r5.length <= maxStr) then
  (MI.run m_ ((IntKind.i64.wrap (((IntKind.i64.wrap (t - (-62135596800))).tmod 86400).tdiv 3600)), 2, ())).bind fun r6 =>
  bif decide (((r3 ++ r4) ++ r5).length + r6.length <= maxStr) then
  (MI.run m_ (((IntKind.i64.wrap (((IntKind.i64.wrap (t - (-62135596800))).tmod 86400).tdiv 60)).tmod 60), 2, ())).bind fun r7 =>
  bif decide ((((r3 ++ r4) ++ r5) ++ r6).length + r7.length <= maxStr) then
  (MI.run m_ ((((IntKind.i64.wrap (t - (-62135596800))).tmod 86400).tmod 60), 2, ())).bind fun r8 =>
  bif decide (((((r3 ++ r4) ++ r5) ++ r6) ++ r7).length + r8.length <= maxStr) then
  bif decide ((((((r3 ++ r4) ++ r5) ++ r6) ++ r7) ++ r8).length + ([90] : List Int).length <= maxStr) then
  some (((((((r3 ++ r4) ++ r5) ++ r6) ++ r7) ++ r8) ++ ([90] : List Int)), 0, ()) else none else none else none else none else none else none
theorem k : KT (O m_) [] ⟨6, [.one (.int .i64)], .iC [.sh (.one .str), .sh (.one (.int .i64))], run m_⟩ [] := fun _ => by kernel_rfl
def c := co (k m_)
end MC

namespace MH
def O (m_ : CQ) : OO P := lD []
def o0 : dJ := .c [.dat (.arr 32 (.int .u8))]
def e0 : Spec := ⟨[fs 35 [.q 116, .z 116, .b 0, .q 15] [(1, .ptr 0 0), (3, .ptr 1 0), (5, .w)]], [(0, .c [.dat Qr]), (1, o0)], 2⟩
def x0 : List Spec := [⟨[fs 35 [.q 15] [(3, .ptr 0 0)]], [(0, o0)], 1⟩]
abbrev A0 : Type := Int × LI × LI × Unit
abbrev B0 : Type := (LI × Unit)
def b0 (m_ : CQ) (self : A0 -> Option B0) : A0 -> Option B0 := fun v_ => match v_ with
| (t, m, m1, ()) =>
 bif decide (t < 32) then
  bif inB (IntKind.i64.wrap (t.tdiv 8)) 4 then
  bif decide (0 <= (IntKind.i64.wrap (8 * (t.tmod 8)))) then
  bif inB t 32 then
  self ((IntKind.i64.wrap (t + 1)), m, (m1.set t.toNat (IntKind.u8.wrap (IK .u64 (rd 0 m (IntKind.i64.wrap (t.tdiv 8))) (IntKind.i64.wrap (8 * (t.tmod 8)))))), ()) else none else none else none
 else
  some (m1, ())
theorem k0 : KQ 35 (O m_) [] e0 x0 [] (b0 m_) := fun _ _ => by kernel_rfl
def l0 := loop m_ (b0 m_)
theorem q0 (v) : l0 .lim v = b0 .lim (l0 .lim) v := KS.q (k0 .lim) v
def s0 := so m_ (k0 m_)
def run : (List Int) × Unit -> Option (List Int) := fun v_ => match v_ with
| (n, ()) =>
 (MH.l0 m_ (0, n, (List.replicate 32 (0 : Int)), ())).bind fun (m, ()) =>
 some ((m.drop 0).take 32)
theorem k : KT (O m_) [] ⟨35, [.one Qr], .one (.sh (.one .str)), run m_⟩ [s0 m_] := fun _ => by kernel_rfl
def c := co (k m_)
end MH

namespace ML
def O (m_ : CQ) : OO P := lD []
def f0 : gq := fs 34 [.v 14 [1], .q 15] [(3, .oy 0)]
def e0 : Spec := ⟨[fs 25 [.q 12, .z 12, .b 0] [(0, .oy 0), (2, .w), (3, .w)], f0], [(0, .c [.ry])], 1⟩
def x0 : List Spec := [⟨[fs 25 [] [], f0], [(0, .c [.ry])], 1⟩]
abbrev A0 : Type := Int × Int × LI × Unit
abbrev B0 : Type := (LI × Unit)
def b0 (m_ : CQ) (self : A0 -> Option B0) : A0 -> Option B0 := fun v_ => match v_ with
| (i, j, m, ()) =>
 bif decide (i < j) then
  bif inB j (m.length : Int) then
  bif inB i (m.length : Int) then
  bif inB i (m.length : Int) then
  bif inB j ((m.set i.toNat (rd 0 m j)).length : Int) then
  self ((IntKind.i64.wrap (i + 1)), (IntKind.i64.wrap (j - 1)), ((m.set i.toNat (rd 0 m j)).set j.toNat (rd 0 m i)), ()) else none else none else none else none
 else
  some (m, ())
theorem k0 : KQ 34 (O m_) [25] e0 x0 [] (b0 m_) := fun _ _ => by kernel_rfl
def l0 := loop m_ (b0 m_)
theorem q0 (v) : l0 .lim v = b0 .lim (l0 .lim) v := KS.q (k0 .lim) v
def s0 := so m_ (k0 m_)
def run : (List Int) × Unit -> Option (List Int) := fun v_ => match v_ with
| (s, ()) =>
 bif vG (s.length : Int) then
 (ML.l0 m_ (0, (IntKind.i64.wrap ((s.length : Int) - 1)), s, ())).bind fun (m, ()) =>
 some m else none
theorem k : KT (O m_) [25] ⟨34, [.one .str], .one (.sh (.one .str)), run m_⟩ [s0 m_] := fun _ => by kernel_rfl
def c := co (k m_)
end ML

namespace Nv
def O : OO P := lD [ML.c m_, MH.c m_]
def run : (List Int) × Unit -> Option (List Int) := fun v_ => match v_ with
| (n, ()) =>
 (MH.run m_ (n, ())).bind fun r =>
 (ML.run m_ (r, ())).bind fun r1 =>
 some r1
theorem k : KT (O m_) [] ⟨20, [.one Qr], .one (.sh (.one .str)), run m_⟩ [] := fun _ => by kernel_rfl
def c := co (k m_)
end Nv

namespace MQ
def run (_ : CQ) : (List Int) × (List Int) × Unit -> Option (List Int) := CB
def c (m_ : CQ) : CO P := ⟨⟨19, [.one .str, .one .str], .one (.sh (.one .str)), run m_⟩, Ig (by kernel_rfl) fun s c w h1 h2 => Go.Proofs.Any.strings_TrimLeft_laid Go.Proofs.Tryd.lays161 (by kernel_rfl) s c w h1 h2⟩
end MQ

namespace MW
def O : OO P := lD [MQ.c m_, Nv.c m_]
def run : (List Int) × Unit -> Option (List Int) := fun v_ => match v_ with
| (n, ()) =>
 (Nv.run m_ (n, ())).bind fun r =>
 (MQ.run m_ (r, ([0] : List Int), ())).bind fun r1 =>
 bif ((!(!(decide (r1 = ([] : List Int))))) || (inB 0 (r1.length : Int))) then
 bif ((decide (r1 = ([] : List Int))) || (decide ((rd 0 r1 0) > 127))) then
  bif decide (([0] : List Int).length + r1.length <= maxStr) then
  some (([0] : List Int) ++ r1) else none
 else
  some r1 else none
theorem k : KT (O m_) [] ⟨7, [.one Qr], .one (.sh (.one .str)), run m_⟩ [] := fun _ => by kernel_rfl
def c := co (k m_)
end MW

namespace L6
def O : OO P := lD [MC.c m_, MW.c m_, Nr.c m_, L8.c m_]
def run : Unit -> Option (Bool) := fun v_ => match v_ with
| (()) =>
 (Nr.run m_ ((2, ([5] : List Int)), ())).bind fun (r, r1, ()) =>
 (L8.run m_ (([1, 2, 840, 10045] : List Int), ())).bind fun (r2, r3, ()) =>
 (MC.run m_ (0, ())).bind fun (r4, r5, ()) =>
 ((bif ((decide (r = ([2, 1, 5] : List Int))) && (decide (r1 = 0))) then MW.run m_ (((List.replicate 4 (0 : Int) : List Int).set 0 200), ()) else some ([] : List Int))).bind fun r6 =>
 some (((((((decide (r = ([2, 1, 5] : List Int))) && (decide (r1 = 0))) && (decide (r6 = ([0, 200] : List Int)))) && (decide (r2 = ([42, 134, 72, 206, 61] : List Int)))) && (decide (r3 = 0))) && (decide (r4 = ([49, 57, 55, 48, 48, 49, 48, 49, 48, 48, 48, 48, 48, 48, 90] : List Int)))) && (decide (r5 = 0)))
theorem k : KT (O m_) [] ⟨9, [], .one (.sh (.one .bool)), run m_⟩ [] := fun _ => by kernel_rfl
def c := co (k m_)
end L6

namespace Me
def O (m_ : CQ) : OO P := lD []
def run (m_ : CQ) : (List Int) × (List Int) × Unit -> Option (Bool) := fun v_ => match v_ with
| (s, MO, ()) =>
 bif vG (s.length : Int) then
 bif vG (MO.length : Int) then
 bif ((!(decide ((s.length : Int) >= (MO.length : Int)))) || (vG (MO.length : Int))) then
 bif ((!(decide ((s.length : Int) >= (MO.length : Int)))) || (rZ 0 (MO.length : Int) (s.length : Int))) then
 some ((decide ((s.length : Int) >= (MO.length : Int))) && (decide ((cut s 0 (MO.length : Int)) = MO))) else none else none else none else none
theorem k : KT (O m_) [] ⟨54, [.one .str, .one .str], .one (.sh (.one .bool)), run m_⟩ [] := fun _ => by kernel_rfl
def c := co (k m_)
end Me

namespace MG
def O : OO P := lD [Me.c m_]
def run : (List Int) × (List Int) × Unit -> Option (List Int) := fun v_ => match v_ with
| (s, MO, ()) =>
 (Me.run m_ (s, MO, ())).bind fun r =>
 bif r then
  bif vG (MO.length : Int) then
  bif rZ (MO.length : Int) (s.length : Int) (s.length : Int) then
  some (cut s (MO.length : Int) (s.length : Int)) else none else none
 else
  some s
theorem k : KT (O m_) [] ⟨36, [.one .str, .one .str], .one (.sh (.one .str)), run m_⟩ [] := fun _ => by kernel_rfl
def c := co (k m_)
end MG

namespace strings_TrimPrefix
def O : OO P := lD [MG.c m_]
def run : (List Int) × (List Int) × Unit -> Option (List Int) := fun v_ => match v_ with
| (s, MO, ()) =>
 (MG.run m_ (s, MO, ())).bind fun r =>
 some r
theorem k : KT (O m_) [] ⟨22, [.one .str, .one .str], .one (.sh (.one .str)), run m_⟩ [] := fun _ => by kernel_rfl
def c := co (k m_)
end strings_TrimPrefix

namespace Ns
def O (m_ : CQ) : OO P := lD []
def run (m_ : CQ) : (List Int) × Int × Unit -> Option (Int) := fun v_ => match v_ with
| (s, n, ()) =>
 bif vG (s.length : Int) then
 bif decide ((s.length : Int) < n) then
  some 11
 else
  bif vG (s.length : Int) then
  bif decide ((s.length : Int) > n) then
   some 12
  else
   some 0 else none else none
theorem k : KT (O m_) [] ⟨55, [.one .str, .one (.int .i64)], .one (.sh (.one (.int .i64))), run m_⟩ [] := fun _ => by kernel_rfl
def c := co (k m_)
end Ns

namespace MB
def O : OO P := lD [Ns.c m_]
def o0 : dJ := .c [.dat Qr]
def e0 : Spec := ⟨[fs 37 [.q 244, .z 244, .b 0, .q 31] [(0, .s), (2, .ptr 0 0), (5, .ptr 1 0), (13, .w)]], [(0, o0), (1, o0)], 2⟩
def x0 : List Spec := [⟨[fs 37 [.q 31] [(2, .ptr 0 0), (5, .ptr 1 0)]], [(0, o0), (1, o0)], 2⟩]
abbrev A0 : Type := LI × Int × LI × LI × Unit
abbrev B0 : Type := (LI × LI × Unit)
def b0 (m_ : CQ) (self : A0 -> Option B0) : A0 -> Option B0 := fun v_ => match v_ with
| (s, t, m, m1, ()) =>
 bif decide (t < 32) then
  bif inB (IntKind.i64.wrap (t.tdiv 8)) 4 then
  bif inB t (s.length : Int) then
  bif decide (0 <= (IntKind.i64.wrap (8 * (t.tmod 8)))) then
  bif inB (IntKind.i64.wrap (t.tdiv 8)) 4 then
  self (s, (IntKind.i64.wrap (t + 1)), m, (m1.set ((IntKind.i64.wrap (t.tdiv 8)).toNat) (Kv .u64 (rd 0 m1 (IntKind.i64.wrap (t.tdiv 8))) (IJ .u64 (IntKind.u64.wrap (rd 0 s t)) (IntKind.i64.wrap (8 * (t.tmod 8)))))), ()) else none else none else none else none
 else
  some (m, m1, ())
theorem k0 : KQ 37 (O m_) [] e0 x0 [] (b0 m_) := fun _ _ => by kernel_rfl
def l0 := loop m_ (b0 m_)
theorem q0 (v) : l0 .lim v = b0 .lim (l0 .lim) v := KS.q (k0 .lim) v
def s0 := so m_ (k0 m_)
def run : (List Int) × Unit -> Option ((List Int) × Int × Unit) := fun v_ => match v_ with
| (s, ()) =>
 (Ns.run m_ (s, 32, ())).bind fun r =>
 bif !(decide (r = 0)) then
  some ((List.replicate 4 (0 : Int) : List Int), r, ())
 else
  (MB.l0 m_ (s, 0, (List.replicate 4 (0 : Int)), (List.replicate 4 (0 : Int)), ())).bind fun (m, m1, ()) =>
  some (m1, 0, ())
theorem k : KT (O m_) [] ⟨37, [.one .str], .iC [.sh (.one Qr), .sh (.one (.int .i64))], run m_⟩ [s0 m_] := fun _ => by kernel_rfl
def c := co (k m_)
end MB

namespace Nc
def O : OO P := lD [ML.c m_, MB.c m_]
def run : (List Int) × Unit -> Option ((List Int) × Int × Unit) := fun v_ => match v_ with
| (s, ()) =>
 (ML.run m_ (s, ())).bind fun r =>
 (MB.run m_ (r, ())).bind fun (r1, r2, ()) =>
 some (r1, r2, ())
theorem k : KT (O m_) [] ⟨23, [.one .str], .iC [.sh (.one Qr), .sh (.one (.int .i64))], run m_⟩ [] := fun _ => by kernel_rfl
def c := co (k m_)
end Nc

namespace MP
def O : OO P := lD [strings_TrimPrefix.c m_, Nc.c m_, strings_Repeat.c m_]
def run : (List Int) × Unit -> Option ((List Int) × Int × Unit) := fun v_ => match v_ with
| (s, ()) =>
 bif decide (s = ([] : List Int)) then
  some ((List.replicate 4 (0 : Int) : List Int), 11, ())
 else
  bif inB 0 (s.length : Int) then
  bif ((!(!(decide ((rd 0 s 0) > 127)))) || (vG (s.length : Int))) then
  bif ((!((!(decide ((rd 0 s 0) > 127))) && (decide ((s.length : Int) > 1)))) || (inB 0 (s.length : Int))) then
  bif ((!((!(decide ((rd 0 s 0) > 127))) && ((decide ((s.length : Int) > 1)) && (decide ((rd 0 s 0) = 0))))) || (inB 1 (s.length : Int))) then
  bif ((decide ((rd 0 s 0) > 127)) || (((decide ((s.length : Int) > 1)) && (decide ((rd 0 s 0) = 0))) && (decide ((rd 0 s 1) < 128)))) then
   some ((List.replicate 4 (0 : Int) : List Int), 10, ())
  else
   (strings_TrimPrefix.run m_ (s, ([0] : List Int), ())).bind fun r =>
   bif vG (r.length : Int) then
   bif decide ((r.length : Int) > 32) then
    some ((List.replicate 4 (0 : Int) : List Int), 13, ())
   else
    bif vG (r.length : Int) then
    (strings_Repeat.run m_ (([0] : List Int), (IntKind.i64.wrap (32 - (r.length : Int))), ())).bind fun r1 =>
    bif decide (r1.length + r.length <= maxStr) then
    (Nc.run m_ ((r1 ++ r), ())).bind fun (r2, r3, ()) =>
    some (r2, r3, ()) else none else none else none else none else none else none else none
theorem k : KT (O m_) [] ⟨12, [.one .str], .iC [.sh (.one Qr), .sh (.one (.int .i64))], run m_⟩ [] := fun _ => by kernel_rfl
def c := co (k m_)
end MP

namespace MJ
def O (m_ : CQ) : OO P := lD []
def e0 : Spec := ⟨[fs 14 [.q 1012, .z 1012, .b 1, .q 127] [(5, .own 0 (.int .u32)), (6, .u), (7, .b), (32, .oy 1), (33, .w), (34, .w)]], [(0, .c [.row (.int .u32)]), (1, .c [.ry])], 2⟩
def x0 : List Spec := [⟨[fs 14 [.q 518549, .q 64819, .b 2, .q 8103, .z 1012, .b 1, .q 127] [(2, .BO), (3, .w)]], [], 0⟩, ⟨[fs 14 [.q 2074221, .q 129639, .b 2, .q 8103, .z 1012, .b 1, .q 127] [(2, .BO), (3, .w)]], [], 0⟩, ⟨[fs 14 [.q 4148469, .q 518559, .b 2, .q 8103, .z 1012, .b 1, .q 127] [(2, .BO), (3, .w)]], [], 0⟩, ⟨[fs 14 [.q 127] [(5, .own 0 (.int .u32)), (7, .b)]], [(0, .c [.row (.int .u32)])], 1⟩]
abbrev A0 : Type := Int × Bool × Int × Int × LI × LI × Unit
abbrev B0 : Type := (Int × Unit) ⊕ (Int × Unit) ⊕ (Int × Unit) ⊕ (Bool × LI × Unit)
def b0 (m_ : CQ) (self : A0 -> Option B0) : A0 -> Option B0 := fun v_ => match v_ with
| (n, Px, t, t1, m, m1, ()) =>
 bif decide (t1 < t) then
  bif inB t1 (m1.length : Int) then
  bif (!Px && (decide ((rd 0 m1 t1) = 128))) then
   some (.inl (10, ()))
  else
   bif decide ((IK .u64 (Kv .u64 (IJ .u64 n 7) (IntKind.u64.wrap (II .u8 (rd 0 m1 t1) 127))) 32) > 0) then
    some (.inr (.inl (13, ())))
   else
    bif decide ((rd 0 m1 t1) > 127) then
     self ((Kv .u64 (IJ .u64 n 7) (IntKind.u64.wrap (II .u8 (rd 0 m1 t1) 127))), decide ((rd 0 m1 t1) > 127), t, (IntKind.i64.wrap (t1 + 1)), m, m1, ())
    else
     bif vG (m.length : Int) then
     bif decide ((m.length : Int) = 16) then
      some (.inr (.inr (.inl (18, ()))))
     else
      bif decide (m.length + ([(IntKind.u32.wrap (Kv .u64 (IJ .u64 n 7) (IntKind.u64.wrap (II .u8 (rd 0 m1 t1) 127))))] : List Int).length < 17592186044416) then
      self (0, decide ((rd 0 m1 t1) > 127), t, (IntKind.i64.wrap (t1 + 1)), (m ++ ([(IntKind.u32.wrap (Kv .u64 (IJ .u64 n 7) (IntKind.u64.wrap (II .u8 (rd 0 m1 t1) 127))))] : List Int)), m1, ()) else none else none else none
 else
  some (.inr (.inr (.inr (Px, m, ()))))
theorem k0 : KQ 14 (O m_) [] e0 x0 [] (b0 m_) := fun _ _ => by kernel_rfl
def l0 := loop m_ (b0 m_)
theorem q0 (v) : l0 .lim v = b0 .lim (l0 .lim) v := KS.q (k0 .lim) v
def s0 := so m_ (k0 m_)
def run : (List Int) × Unit -> Option ((List Int) × Int × Unit) := fun v_ => match v_ with
| (s, ()) =>
 bif decide (s = ([] : List Int)) then
  some (([] : List Int), 11, ())
 else
  bif inB 0 (s.length : Int) then
  bif decide ((rd 0 s 0) > 127) then
   some (([] : List Int), 10, ())
  else
   bif inB 0 (s.length : Int) then
   bif inB 0 (s.length : Int) then
   bif rZ 1 (s.length : Int) (s.length : Int) then
   bif vG ((cut s 1 (s.length : Int)).length : Int) then
   (MJ.l0 m_ (0, false, ((cut s 1 (s.length : Int)).length : Int), 0, ([(mn (IntKind.u32.wrap ((IntKind.u32.wrap (rd 0 s 0)).tdiv 40)) 2), (IntKind.u32.wrap ((IntKind.u32.wrap (rd 0 s 0)) - (IntKind.u32.wrap (40 * (mn (IntKind.u32.wrap ((IntKind.u32.wrap (rd 0 s 0)).tdiv 40)) 2)))))] : List Int), (cut s 1 (s.length : Int)), ())).bind fun g_ => match g_ with
   | .inl (t, ()) =>
    some (([] : List Int), t, ())
   | .inr (.inl (t1, ())) =>
    some (([] : List Int), t1, ())
   | .inr (.inr (.inl (t2, ()))) =>
    some (([] : List Int), t2, ())
   | .inr (.inr (.inr (Px, m, ()))) =>
    bif Px then
     some (([] : List Int), 11, ())
    else
     some (m, 0, ()) else none else none else none else none else none
theorem k : KT (O m_) [] ⟨14, [.one .str], .iC [.own (.int .u32), .sh (.one (.int .i64))], run m_⟩ [s0 m_] := fun _ => by kernel_rfl
def c := co (k m_)
end MJ

namespace L9
def O (m_ : CQ) : OO P := lD []
def e0 : Spec := ⟨[fs 15 [.q 116, .z 116, .b 0, .q 15] [(0, .dat Qd), (1, .dat Qd), (12, .w), (13, .w)]], [], 0⟩
def x0 : List Spec := [⟨[fs 15 [.q 29901, .b 1, .q 935, .z 116, .b 0, .q 15] [(4, .b)]], [], 0⟩, ⟨[fs 15 [.q 15] []], [], 0⟩]
abbrev A0 : Type := LI × LI × Int × Int × Unit
abbrev B0 : Type := (Bool × Unit) ⊕ (Unit)
def b0 (m_ : CQ) (self : A0 -> Option B0) : A0 -> Option B0 := fun v_ => match v_ with
| (a, b, t, t1, ()) =>
 bif decide (t1 < t) then
  bif inB t1 (a.length : Int) then
  bif inB t1 (b.length : Int) then
  bif !(decide ((rd 0 a t1) = (rd 0 b t1))) then
   some (.inl (false, ()))
  else
   self (a, b, t, (IntKind.i64.wrap (t1 + 1)), ()) else none else none
 else
  some (.inr (()))
theorem k0 : KQ 15 (O m_) [] e0 x0 [] (b0 m_) := fun _ _ => by kernel_rfl
def l0 := loop m_ (b0 m_)
theorem q0 (v) : l0 .lim v = b0 .lim (l0 .lim) v := KS.q (k0 .lim) v
def s0 := so m_ (k0 m_)
def run : (List Int) × (List Int) × Unit -> Option (Bool) := fun v_ => match v_ with
| (a, b, ()) =>
 bif vG (a.length : Int) then
 bif vG (b.length : Int) then
 bif !(decide ((a.length : Int) = (b.length : Int))) then
  some false
 else
  bif vG (a.length : Int) then
  (L9.l0 m_ (a, b, (a.length : Int), 0, ())).bind fun g_ => match g_ with
  | .inl (t, ()) =>
   some t
  | .inr (()) =>
   some true else none else none else none
theorem k : KT (O m_) [] ⟨15, [.one Qd, .one Qd], .one (.sh (.one .bool)), run m_⟩ [s0 m_] := fun _ => by kernel_rfl
def c := co (k m_)
end L9

namespace MX
def run (_ : CQ) : (List Int) × (List Int) × Unit -> Option (List Int) := trimF
def c (m_ : CQ) : CO P := ⟨⟨26, [.one .str, .one .str], .one (.sh (.one .str)), run m_⟩, JY (by kernel_rfl) fun s c w h0 h1 h2 => Go.Proofs.Any.strings_Trim_laid Go.Proofs.Tryd.lays160 (by kernel_rfl) s c w h0 h1 h2⟩
end MX

namespace strconv_Atoi
def run (_ : CQ) : (List Int) × Unit -> Option (Int × Unit × Unit) := ET
def c (m_ : CQ) : CO P := ⟨⟨27, [.one .str], .iC [.sh (.one (.int .i64)), .vU], run m_⟩, JL (by kernel_rfl) fun s n w h1 h2 => Go.Proofs.Any.strconv_Atoi Go.Proofs.Tryd.lays172 s n h1 h2 w⟩
end strconv_Atoi

namespace L_
def O : OO P := lD [Md.c m_, MX.c m_, strconv_Atoi.c m_, MN.c m_]
def o0 : dJ := .c [.dat (.arr 7 (.int .i64))]
def e0 : Spec := ⟨[fs 16 [.q 244, .z 244, .b 0, .q 31] [(0, .s), (4, .ptr 0 0), (25, .w)]], [(0, o0)], 1⟩
def x0 : List Spec := [⟨[fs 16 [.q 31] [(4, .ptr 0 0)]], [(0, o0)], 1⟩]
abbrev A0 : Type := LI × Int × LI × Unit
abbrev B0 : Type := (LI × Unit)
def b0 (self : A0 -> Option B0) : A0 -> Option B0 := fun v_ => match v_ with
| (s, t, m, ()) =>
 bif decide (t < 7) then
  bif rZ (IntKind.i64.wrap (2 * t)) (IntKind.i64.wrap ((IntKind.i64.wrap (2 * t)) + 2)) (s.length : Int) then
  (strconv_Atoi.run m_ ((cut s (IntKind.i64.wrap (2 * t)) (IntKind.i64.wrap ((IntKind.i64.wrap (2 * t)) + 2))), ())).bind fun (r, r1, ()) =>
  bif inB t 7 then
  self (s, (IntKind.i64.wrap (t + 1)), (m.set t.toNat r), ()) else none else none
 else
  some (m, ())
theorem k0 : KQ 16 (O m_) [] e0 x0 [] (b0 m_) := fun _ _ => by kernel_rfl
def l0 := loop m_ (b0 m_)
theorem q0 (v) : l0 .lim v = b0 .lim (l0 .lim) v := KS.q (k0 .lim) v
def s0 := so m_ (k0 m_)
def run : (List Int) × Unit -> Option (Int × Int × Unit) := fun v_ => match v_ with
| (s, ()) =>
 bif vG (s.length : Int) then
 bif ((!(!(!(decide ((s.length : Int) = 15))))) || (inB 14 (s.length : Int))) then
 bif ((!(!((!(decide ((s.length : Int) = 15))) || (!(decide ((rd 0 s 14) = 90)))))) || (rZ 0 14 (s.length : Int))) then
 ((bif !((!(decide ((s.length : Int) = 15))) || (!(decide ((rd 0 s 14) = 90)))) then MX.run m_ ((cut s 0 14), ([48, 49, 50, 51, 52, 53, 54, 55, 56, 57] : List Int), ()) else some ([] : List Int))).bind fun r =>
 bif (((!(decide ((s.length : Int) = 15))) || (!(decide ((rd 0 s 14) = 90)))) || (!(decide (r = ([] : List Int))))) then
  some (0, 10, ())
 else
  (L_.l0 m_ (s, 0, (List.replicate 7 (0 : Int)), ())).bind fun (m, ()) =>
  bif ((!(!(decide ((IntKind.i64.wrap ((IntKind.i64.wrap (100 * (rd 0 m 0))) + (rd 0 m 1))) < 1)))) || true) then
  bif ((!(!((decide ((IntKind.i64.wrap ((IntKind.i64.wrap (100 * (rd 0 m 0))) + (rd 0 m 1))) < 1)) || (decide ((rd 0 m 2) < 1))))) || true) then
  bif ((!(!(((decide ((IntKind.i64.wrap ((IntKind.i64.wrap (100 * (rd 0 m 0))) + (rd 0 m 1))) < 1)) || (decide ((rd 0 m 2) < 1))) || (decide ((rd 0 m 2) > 12))))) || true) then
  bif ((!(!((((decide ((IntKind.i64.wrap ((IntKind.i64.wrap (100 * (rd 0 m 0))) + (rd 0 m 1))) < 1)) || (decide ((rd 0 m 2) < 1))) || (decide ((rd 0 m 2) > 12))) || (decide ((rd 0 m 3) < 1))))) || true) then
  bif ((!(!(((((decide ((IntKind.i64.wrap ((IntKind.i64.wrap (100 * (rd 0 m 0))) + (rd 0 m 1))) < 1)) || (decide ((rd 0 m 2) < 1))) || (decide ((rd 0 m 2) > 12))) || (decide ((rd 0 m 3) < 1))) || (decide ((rd 0 m 4) > 23))))) || true) then
  bif ((!(!((((((decide ((IntKind.i64.wrap ((IntKind.i64.wrap (100 * (rd 0 m 0))) + (rd 0 m 1))) < 1)) || (decide ((rd 0 m 2) < 1))) || (decide ((rd 0 m 2) > 12))) || (decide ((rd 0 m 3) < 1))) || (decide ((rd 0 m 4) > 23))) || (decide ((rd 0 m 5) > 59))))) || true) then
  bif (((((((decide ((IntKind.i64.wrap ((IntKind.i64.wrap (100 * (rd 0 m 0))) + (rd 0 m 1))) < 1)) || (decide ((rd 0 m 2) < 1))) || (decide ((rd 0 m 2) > 12))) || (decide ((rd 0 m 3) < 1))) || (decide ((rd 0 m 4) > 23))) || (decide ((rd 0 m 5) > 59))) || (decide ((rd 0 m 6) > 59))) then
   some (0, 10, ())
  else
   (MN.run m_ ((IntKind.i64.wrap ((IntKind.i64.wrap (100 * (rd 0 m 0))) + (rd 0 m 1))), (rd 0 m 2), (rd 0 m 3), ())).bind fun r1 =>
   (Md.run m_ (r1, ())).bind fun (r2, r3, r4, ()) =>
   bif ((!(!(!(decide (r2 = (IntKind.i64.wrap ((IntKind.i64.wrap (100 * (rd 0 m 0))) + (rd 0 m 1)))))))) || true) then
   bif ((!(!((!(decide (r2 = (IntKind.i64.wrap ((IntKind.i64.wrap (100 * (rd 0 m 0))) + (rd 0 m 1)))))) || (!(decide (r3 = (rd 0 m 2))))))) || true) then
   bif (((!(decide (r2 = (IntKind.i64.wrap ((IntKind.i64.wrap (100 * (rd 0 m 0))) + (rd 0 m 1)))))) || (!(decide (r3 = (rd 0 m 2))))) || (!(decide (r4 = (rd 0 m 3))))) then
    some (0, 10, ())
   else
    some ((IntKind.i64.wrap ((IntKind.i64.wrap ((-62135596800) + (IntKind.i64.wrap (r1 * 86400)))) + (IntKind.i64.wrap ((IntKind.i64.wrap ((IntKind.i64.wrap ((rd 0 m 4) * 3600)) + (IntKind.i64.wrap ((rd 0 m 5) * 60)))) + (rd 0 m 6))))), 0, ()) else none else none else none else none else none else none else none else none else none else none else none
theorem k : KT (O m_) [] ⟨16, [.one .str], .iC [.sh (.one (.int .i64)), .sh (.one (.int .i64))], run m_⟩ [s0 m_] := fun v_ => match v_ with | (s, ()) => by kernel_rfl
def c := co (k m_)
end L_

namespace MK
def O : OO P := lD [MC.c m_, MW.c m_, L6.c m_, MP.c m_, L8.c m_, MJ.c m_, L9.c m_, L_.c m_]
def run : (List Int) × (List Int) × Int × (List Int) × Unit -> Option (Bool) := fun v_ => match v_ with
| (n, l, t, s, ()) =>
 (MW.run m_ (n, ())).bind fun r =>
 (MP.run m_ (r, ())).bind fun (r1, r2, ()) =>
 bif ((!((List.range 4).all fun i => decide ((rd 0 r1 (i : Int)) = (rd 0 n (i : Int))))) || (!(decide (r2 = 0)))) then
  some false
 else
  (MP.run m_ (s, ())).bind fun (r3, r4, ()) =>
  ((bif decide (r4 = 0) then MW.run m_ (r3, ()) else some ([] : List Int))).bind fun r5 =>
  bif ((decide (r4 = 0)) && (!(decide (r5 = s)))) then
   some false
  else
   (L8.run m_ (l, ())).bind fun (r6, r7, ()) =>
   bif decide (r7 = 0) then
    (MJ.run m_ (r6, ())).bind fun (r8, r9, ()) =>
    (L9.run m_ (r8, l, ())).bind fun r10 =>
    bif (!r10 || (!(decide (r9 = 0)))) then
     some false
    else
     (MJ.run m_ (s, ())).bind fun (r11, r12, ()) =>
     bif decide (r12 = 0) then
      (L8.run m_ (r11, ())).bind fun (r13, RG, ()) =>
      bif ((!(decide (r13 = s))) || (!(decide (RG = 0)))) then
       some false
      else
       (MC.run m_ (t, ())).bind fun (RH, r16, ()) =>
       bif decide (r16 = 0) then
        (L_.run m_ (RH, ())).bind fun (RI, RJ, ()) =>
        bif ((!(decide (RI = t))) || (!(decide (RJ = 0)))) then
         some false
        else
         (L_.run m_ (s, ())).bind fun (RN, RP, ()) =>
         bif decide (RP = 0) then
          (MC.run m_ (RN, ())).bind fun (RQ, r22, ()) =>
          bif ((!(decide (RQ = s))) || (!(decide (r22 = 0)))) then
           some false
          else
           (L6.run m_ (())).bind fun RU =>
           some RU
         else
          (L6.run m_ (())).bind fun RV =>
          some RV
       else
        (L_.run m_ (s, ())).bind fun (r25, RX, ()) =>
        bif decide (RX = 0) then
         (MC.run m_ (r25, ())).bind fun (r27, r28, ()) =>
         bif ((!(decide (r27 = s))) || (!(decide (r28 = 0)))) then
          some false
         else
          (L6.run m_ (())).bind fun RY =>
          some RY
        else
         (L6.run m_ (())).bind fun RZ =>
         some RZ
     else
      (MC.run m_ (t, ())).bind fun (R_, r32, ()) =>
      bif decide (r32 = 0) then
       (L_.run m_ (R_, ())).bind fun (Si, Sj, ()) =>
       bif ((!(decide (Si = t))) || (!(decide (Sj = 0)))) then
        some false
       else
        (L_.run m_ (s, ())).bind fun (Sm, Sr, ()) =>
        bif decide (Sr = 0) then
         (MC.run m_ (Sm, ())).bind fun (Sv, SA, ()) =>
         bif ((!(decide (Sv = s))) || (!(decide (SA = 0)))) then
          some false
         else
          (L6.run m_ (())).bind fun SB =>
          some SB
        else
         (L6.run m_ (())).bind fun SC =>
         some SC
      else
       (L_.run m_ (s, ())).bind fun (SE, SG, ()) =>
       bif decide (SG = 0) then
        (MC.run m_ (SE, ())).bind fun (SH, SI, ()) =>
        bif ((!(decide (SH = s))) || (!(decide (SI = 0)))) then
         some false
        else
         (L6.run m_ (())).bind fun SL =>
         some SL
       else
        (L6.run m_ (())).bind fun SN =>
        some SN
   else
    (MJ.run m_ (s, ())).bind fun (SQ, SS, ()) =>
    bif decide (SS = 0) then
     (L8.run m_ (SQ, ())).bind fun (SV, SX, ()) =>
     bif ((!(decide (SV = s))) || (!(decide (SX = 0)))) then
      some false
     else
      (MC.run m_ (t, ())).bind fun (SY, S9, ()) =>
      bif decide (S9 = 0) then
       (L_.run m_ (SY, ())).bind fun (S_, Tc, ()) =>
       bif ((!(decide (S_ = t))) || (!(decide (Tc = 0)))) then
        some false
       else
        (L_.run m_ (s, ())).bind fun (Td, Tf, ()) =>
        bif decide (Tf = 0) then
         (MC.run m_ (Td, ())).bind fun (Ti, Tj, ()) =>
         bif ((!(decide (Ti = s))) || (!(decide (Tj = 0)))) then
          some false
         else
          (L6.run m_ (())).bind fun Tn =>
          some Tn
        else
         (L6.run m_ (())).bind fun Tq =>
         some Tq
      else
       (L_.run m_ (s, ())).bind fun (Tt, Tv, ()) =>
       bif decide (Tv = 0) then
        (MC.run m_ (Tt, ())).bind fun (Tz, r64, ()) =>
        bif ((!(decide (Tz = s))) || (!(decide (r64 = 0)))) then
         some false
        else
         (L6.run m_ (())).bind fun TA =>
         some TA
       else
        (L6.run m_ (())).bind fun TB =>
        some TB
    else
     (MC.run m_ (t, ())).bind fun (TD, TF, ()) =>
     bif decide (TF = 0) then
      (L_.run m_ (TD, ())).bind fun (TG, TI, ()) =>
      bif ((!(decide (TG = t))) || (!(decide (TI = 0)))) then
       some false
      else
       (L_.run m_ (s, ())).bind fun (TJ, TK, ()) =>
       bif decide (TK = 0) then
        (MC.run m_ (TJ, ())).bind fun (TL, TM, ()) =>
        bif ((!(decide (TL = s))) || (!(decide (TM = 0)))) then
         some false
        else
         (L6.run m_ (())).bind fun TN =>
         some TN
       else
        (L6.run m_ (())).bind fun TP =>
        some TP
     else
      (L_.run m_ (s, ())).bind fun (TQ, TR, ()) =>
      bif decide (TR = 0) then
       (MC.run m_ (TQ, ())).bind fun (TS, TT, ()) =>
       bif ((!(decide (TS = s))) || (!(decide (TT = 0)))) then
        some false
       else
        (L6.run m_ (())).bind fun TU =>
        some TU
      else
       (L6.run m_ (())).bind fun TV =>
       some TV
theorem k : KT (O m_) [] ⟨5, [.one Qr, .one Qd, .one (.int .i64), .one .str], .one (.sh (.one .bool)), run m_⟩ [] := fun v_ => match v_ with | (n, l, t, s, ()) => by kernel_rfl
def c := co (k m_)
end MK
end
end Go.AM
end
section
namespace Go.AM
theorem wrap64 {n : Int} (h1 : -9223372036854775808 <= n) (h2 : n < 9223372036854775808) : IntKind.i64.wrap n = n := by unfold IntKind.wrap; simp [IntKind.signed, IntKind.bits]; omega
theorem cond_pos {α : Type} {c : Bool} {a b : α} (h : c = true) : (bif c then a else b) = a := by rw [h]; rfl
theorem cond_neg {α : Type} {c : Bool} {a b : α} (h : c = false) : (bif c then a else b) = b := by rw [h]; rfl
theorem Oc {α : Type} {p : Prop} {i : Decidable p} {a b : α} : (bif @decide p i then a else b) = if p then a else b := by by_cases h : p <;> simp [h]
theorem NP {n : Int} (h : n < 9223372036854775808) : vG n = true := by unfold vG; rw [Nat.blt_eq]; omega
theorem MR {i n : Int} (h1 : 0 <= i) (h2 : i < n) : inB i n = true := by simp [inB, h1, h2]
theorem NK {α β : Type} {f : α -> Option β} (st : Nat -> α) {n : Nat} (h : ∀ k, k < n -> f (st k) = f (st (k + 1))) : f (st 0) = f (st n) := by
 induction n with
 | zero => rfl
 | succ n ih => exact (ih fun k hk => h k (by omega)).trans (h n (by omega))
def acc (g : Nat -> Int) : Nat -> Int
 | 0 => 0
 | k + 1 => acc g k + g k
theorem NG {α : Type} {d : α} {xs : List α} {i : Int} (h1 : 0 <= i) (h2 : i < xs.length) : rd d xs i ∈ xs := by unfold rd; rw [List.getD_eq_getElem?_getD, List.getElem?_eq_getElem (show i.toNat < xs.length by omega), Option.getD_some]; exact List.getElem_mem _
theorem P7 (x y : Int) : mx x y = max x y := by unfold mx; split <;> omega
theorem Pq (x y : Int) : mn x y = min x y := by unfold mn; split <;> omega
theorem Mc {p : Prop} {i : Decidable p} (h : p) : @decide p i = true := decide_eq_true h
theorem MF {p : Prop} {i : Decidable p} (h : ¬p) : @decide p i = false := decide_eq_false h
theorem dec_not {p : Prop} {i : Decidable p} : (!@decide p i) = decide (¬p) := by by_cases h : p <;> simp [h]
theorem dec_and {p q : Prop} {i : Decidable p} {j : Decidable q} : (@decide p i && @decide q j) = decide (p /\ q) := by by_cases h : p <;> simp [h]
theorem OZ {p q : Prop} {i : Decidable p} {j : Decidable q} : (@decide p i || @decide q j) = decide (p \/ q) := by by_cases h : p <;> simp [h]
theorem Nu {l h n : Int} (h1 : 0 <= l) (h2 : l <= h) (h3 : h <= n) : rZ l h n = true := by simp [rZ, h1, h2, h3]
theorem NU {α : Type} {d : α} {xs : List α} {k : Nat} (h : k < xs.length) : rd d xs (k : Int) = xs[k] := by unfold rd; rw [Int.toNat_natCast, List.getD_eq_getElem?_getD, List.getElem?_eq_getElem h, Option.getD_some]
theorem Qq {α : Type} {d : α} {xs : List α} {n k : Nat} (hk : k < n) : rd d (xs.take n) (k : Int) = rd d xs (k : Int) := by unfold rd; rw [Int.toNat_natCast, List.getD_eq_getElem?_getD, List.getD_eq_getElem?_getD, List.getElem?_take_of_lt hk]
theorem N8 {α : Type} {d : α} {xs : List α} {k : Nat} (h : k < xs.length) : xs.take (k + 1) = xs.take k ++ [rd d xs (k : Int)] := by rw [NU h, List.take_succ_eq_append_getElem h]
end Go.AM
end
section
namespace Go.AM
theorem Qc {α : Type} {d : α} {a b : List α} (hl : a.length = b.length) (h : ∀ k : Nat, k < a.length -> rd d a (k : Int) = rd d b (k : Int)) : a = b := by
 apply List.ext_getElem hl
 intro k h1 h2;have := h k h1
 rwa [NU h1, NU h2] at this
theorem Na {n : Nat} (h : n < 9223372036854775808) : vG (n : Int) = true := NP (by omega)
theorem Oo (n : Int) : IntKind.u8.wrap n = n % 256 := by unfold IntKind.wrap; simp [IntKind.signed, IntKind.bits]
end Go.AM
end
section
namespace Go.AM
abbrev B8 (x : Int) : Prop := 0 <= x /\ x < 256
def tab (n : Nat) (g : Nat -> Int) : List Int := (List.range n).map g
@[simp] theorem NQ {n : Nat} {g : Nat -> Int} : (tab n g).length = n := by simp [tab]
theorem Nh {n : Nat} {g : Nat -> Int} {k : Nat} (h : k < n) : rd 0 (tab n g) (k : Int) = g k := by rw [NU (by simpa using h)]; simp [tab]
theorem Nj {n : Nat} {g h : Nat -> Int} (e : ∀ k, k < n -> g k = h k) : tab n g = tab n h := by unfold tab; exact List.map_congr_left fun k hk => e k (List.mem_range.1 hk)
theorem N7 {n : Nat} {g : Nat -> Int} {k : Nat} {v : Int} : (tab n g).set k v = tab n fun i => if i = k then v else g i := by
 unfold tab;apply List.ext_getElem (by simp)
 intro i h1 h2;simp only [List.getElem_set, List.getElem_map, List.getElem_range];by_cases h : k = i
 ·rw [if_pos h, if_pos h.symm]
 ·rw [if_neg h, if_neg (Ne.symm h)]
theorem Qe {m : List Int} {n : Nat} (h : m.length = n) : m = tab n fun i => rd 0 m (i : Int) := by
 apply Qc (d := 0) (by simp [h])
 intro k hk;rw [Nh (by omega)]
def Om (n k : Nat) (g : Nat -> Int) : List Int := tab n fun i => if i < k then g i else 0
@[simp] theorem Rf {n k : Nat} {g : Nat -> Int} : (Om n k g).length = n := NQ
theorem Ov {n : Nat} {g : Nat -> Int} : Om n 0 g = List.replicate n 0 := by
 unfold Om tab;rw [List.eq_replicate_iff];exact ⟨by simp, fun b hb => by obtain ⟨i, _, rfl⟩ := List.mem_map.1 hb; simp⟩
theorem OJ {n : Nat} {g : Nat -> Int} : Om n n g = tab n g := Nj fun k hk => by rw [if_pos hk]
theorem OL {n k : Nat} {g : Nat -> Int} {v : Int} (h : v = g k) : (Om n k g).set k v = Om n (k + 1) g := by
 unfold Om;rw [N7];refine Nj fun i _ => ?_
 by_cases h1 : i = k
 ·subst h1; rw [if_pos rfl, if_pos (by omega), h]
 ·rw [if_neg h1];by_cases h2 : i < k
  ·rw [if_pos h2, if_pos (by omega)]
  ·rw [if_neg h2, if_neg (by omega)]
theorem QJ (k : Nat) (h : k < 4611686018427387904) : IntKind.i64.wrap ((k : Int) + 1) = ((k + 1 : Nat) : Int) := by rw [wrap64 (by omega) (by omega)]; omega
end Go.AM
end
section
namespace Go.AM
theorem Nb (n : Int) : IntKind.u32.wrap n = n % 4294967296 := by unfold IntKind.wrap; simp [IntKind.signed, IntKind.bits]
theorem NH (n : Int) : IntKind.u64.wrap n = n % 18446744073709551616 := by unfold IntKind.wrap; simp [IntKind.signed, IntKind.bits]
theorem O5 {w x y : Nat} (hx : x < 2 ^ w) (hy : y < 2 ^ w) : (BitVec.ofInt w (x : Int) ||| BitVec.ofInt w (y : Int)).toNat = x ||| y := by
 rw [BitVec.toNat_or, BitVec.toNat_ofInt, BitVec.toNat_ofInt];have e : ∀ z : Nat, z < 2 ^ w -> ((z : Int) % ((2 ^ w : Nat) : Int)).toNat = z := fun z hz => by rw [<- Int.natCast_emod, Int.toNat_natCast, Nat.mod_eq_of_lt hz]
 rw [e x hx, e y hy]
theorem O4 {a b m : Nat} (h : b < 2 ^ m) : 2 ^ m * a ||| b = 2 ^ m * a + b := (Nat.two_pow_add_eq_or_of_lt h a).symm
theorem PS {a : Int} (h : B8 a) : ∃ n : Nat, a = (n : Int) /\ n < 256 := ⟨a.toNat, by have := h.1; omega, by have := h.1; have := h.2; omega⟩
theorem OA (x : Int) (k m : Nat) (K : IntKind) (hm : m <= K.bits) : IK K x (m : Int) = x / 2 ^ m := by
 show x.fdiv (2 ^ min ((m : Int).toNat) K.bits) = _;rw [Int.toNat_natCast, Nat.min_eq_left hm, Int.fdiv_eq_ediv_of_nonneg _ (by exact Int.le_of_lt (Int.pow_pos (by decide)))]
end Go.AM
end
section
namespace Go.AM
abbrev Bs (s : List Int) : Prop := ∀ x ∈ s, B8 x
theorem PW {α : Type} {s : List α} {a b : Nat} {i j : Int} (hi : i = (a : Int)) (hj : j = (b : Int)) : cut s i j = (s.take b).drop a := by subst hi; subst hj; rfl
theorem Oz {α : Type} {s : List α} {a : Nat} {i : Int} (hi : i = (a : Int)) : cut s i (s.length : Int) = s.drop a := by subst hi; unfold cut; rw [Int.toNat_natCast, Int.toNat_natCast, List.take_length]
def Po {α β : Type} (b : (α -> Option β) -> α -> Option β) (l : α -> Option β) : Nat -> α -> Option β
 | 0 => l
 | n + 1 => b (Po b l n)
theorem Qk {α β : Type} {b : (α -> Option β) -> α -> Option β} {l : α -> Option β} (q : ∀ v, l v = b l v) : ∀ n v, l v = Po b l n v
 | 0, _ => rfl
 | n + 1, v => by
  have e : l = Po b l n := funext (Qk q n);show l v = b (Po b l n) v;rw [<- e]; exact q v
theorem Ru : Nr.run .lim ((2, [5]), ()) = some ([2, 1, 5], 0, ()) := by kernel_rfl
theorem QL : L8.l0 .lim (6, [840, 10045], 2, 0, [42], [72], ()) = some ([840, 10045], 2, 0, [42], [72, 134], ()) := (Qk L8.q0 2 _).trans (by kernel_rfl)
theorem QM : L8.l1 .lim (0, 1, [840, 10045], 2, 0, [72, 134], [42], ()) = some ([840, 10045], 2, 0, [42], [134, 72], ()) := (Qk L8.q1 2 _).trans (by kernel_rfl)
theorem QN : L8.l0 .lim (78, [840, 10045], 2, 1, [42, 134, 72], [61], ()) = some ([840, 10045], 2, 1, [42, 134, 72], [61, 206], ()) := (Qk L8.q0 2 _).trans (by kernel_rfl)
theorem QO : L8.l1 .lim (0, 1, [840, 10045], 2, 1, [61, 206], [42, 134, 72], ()) = some ([840, 10045], 2, 1, [42, 134, 72], [206, 61], ()) := (Qk L8.q1 2 _).trans (by kernel_rfl)
theorem Ri : L8.l2 .lim ([840, 10045], 2, 0, [42], ()) = some ([42, 134, 72, 206, 61], ()) := by
 rw [L8.q2];show (L8.l0 .lim (6, [840, 10045], 2, 0, [42], [72], ())).bind _ = _;rw [QL];show (L8.l1 .lim (0, 1, [840, 10045], 2, 0, [72, 134], [42], ())).bind _ = _;rw [QM];show L8.l2 .lim ([840, 10045], 2, 1, [42, 134, 72], ()) = _;rw [L8.q2];show (L8.l0 .lim (78, [840, 10045], 2, 1, [42, 134, 72], [61], ())).bind _ = _;rw [QN];show (L8.l1 .lim (0, 1, [840, 10045], 2, 1, [61, 206], [42, 134, 72], ())).bind _ = _;rw [QO];show L8.l2 .lim ([840, 10045], 2, 2, [42, 134, 72, 206, 61], ()) = _;rw [L8.q2];rfl
theorem Ro : L8.run .lim ([1, 2, 840, 10045], ()) = some ([42, 134, 72, 206, 61], 0, ()) := by
 show (L8.l2 .lim ([840, 10045], 2, 0, [42], ())).bind _ = _;rw [Ri];rfl
theorem Rj : Md.run .lim (719162, ()) = some (1970, 1, 1, ()) := by
 show (Md.l0 .lim (719162, 1969, ())).bind _ = _;rw [show Md.l0 .lim (719162, 1969, ()) = some (719162, 1970, ()) from (Qk Md.q0 2 _).trans (by kernel_rfl)];show (Md.l1 .lim (719162, 1970, ())).bind _ = _;rw [show Md.l1 .lim (719162, 1970, ()) = some (719162, 1970, ()) from (Qk Md.q1 1 _).trans (by kernel_rfl)];show (Md.l2 .lim (719162, 1970, 12, ())).bind _ = _;rw [show Md.l2 .lim (719162, 1970, 12, ()) = some (719162, 1970, 1, ()) from (Qk Md.q2 12 _).trans (by kernel_rfl)];rfl
theorem QU : MI.run .lim (1970, 4, ()) = some [49, 57, 55, 48] := by kernel_rfl
theorem QT : MI.run .lim (1, 2, ()) = some [48, 49] := by kernel_rfl
theorem QS : MI.run .lim (0, 2, ()) = some [48, 48] := by kernel_rfl
theorem Rt : MC.run .lim (0, ()) = some ([49, 57, 55, 48, 48, 49, 48, 49, 48, 48, 48, 48, 48, 48, 90], 0, ()) := by
 have e1 : IntKind.i64.wrap (((IntKind.i64.wrap (0 - -62135596800)).tmod 86400).tdiv 3600) = 0 := by kernel_rfl
 have e2 : (IntKind.i64.wrap (((IntKind.i64.wrap (0 - -62135596800)).tmod 86400).tdiv 60)).tmod 60 = 0 := by kernel_rfl
 have e3 : ((IntKind.i64.wrap (0 - -62135596800)).tmod 86400).tmod 60 = 0 := by kernel_rfl
 have e4 : IntKind.i64.wrap ((IntKind.i64.wrap (0 - -62135596800)).tdiv 86400) = 719162 := by kernel_rfl
 have e5 : ((decide ((0 : Int) < -62135596800)) || (decide ((0 : Int) > 253402300799))) = false := by kernel_rfl
 simp only [MC.run, e1, e2, e3, e4, e5, Rj, QU, QT, QS, Option.bind_some, cond_false];rfl
theorem Rn : MH.l0 .lim (0, [200, 0, 0, 0], List.replicate 32 0, ()) = some (200 :: List.replicate 31 0, ()) := (Qk MH.q0 33 _).trans (by kernel_rfl)
theorem Rq : ML.l0 .lim (0, 31, 200 :: List.replicate 31 0, ()) = some (List.replicate 31 0 ++ [200], ()) := (Qk ML.q0 17 _).trans (by kernel_rfl)
theorem Rl : MW.run .lim ([200, 0, 0, 0], ()) = some [0, 200] := by
 have h : Nv.run .lim ([200, 0, 0, 0], ()) = some (List.replicate 31 0 ++ [200]) := by
  show ((MH.l0 .lim (0, [200, 0, 0, 0], List.replicate 32 0, ())).bind _).bind _ = _;rw [Rn];show ((ML.l0 .lim (0, 31, 200 :: List.replicate 31 0, ())).bind _).bind _ = _;rw [Rq];rfl
 show (Nv.run .lim ([200, 0, 0, 0], ())).bind _ = _;rw [h];kernel_rfl
theorem Ql : L6.run .lim () = some true := by
 show (Nr.run .lim ((2, [5]), ())).bind _ = _;rw [Ru];show (L8.run .lim ([1, 2, 840, 10045], ())).bind _ = _;rw [Ro];show (MC.run .lim (0, ())).bind _ = _;rw [Rt];show (MW.run .lim ([200, 0, 0, 0], ())).bind _ = _;rw [Rl];rfl
def er (e : Int) : (Int × List Int) × List Int × Int × Unit := ((0, []), [], e, ())
end Go.AM
end
section
namespace Go.AM
theorem Nw {a b : Int} (h : 0 <= a) : a.tdiv b = a / b := Int.tdiv_eq_ediv_of_nonneg h
theorem NR {a b : Int} (h : 0 <= a) : a.tmod b = a % b := Int.tmod_eq_emod_of_nonneg h
def dN (y m d : Int) : Int := (y - (14 - m) / 12) * 365 + (y - (14 - m) / 12) / 4 - (y - (14 - m) / 12) / 100 + (y - (14 - m) / 12) / 400 + ((m + 9) % 12 * 306 + 5) / 10 + d - 307
theorem Oh {a b : Int} (ha : 0 <= a) (ha2 : a < 4611686018427387904) (hb : b = 4 \/ b = 100 \/ b = 400) : MZ.run .lim (a, b, ()) = some (a / b) := by
 simp only [MZ.run, Nw ha, NR ha];rcases hb with rfl | rfl | rfl
 ·simp (disch := omega) only [NP, MR, Nu, wrap64, Mc, MF, dec_not, dec_and, OZ, Oc, cond_true, cond_false, Option.bind_some, Option.bind_none, Bool.or_true, Bool.true_or, Bool.and_true, Bool.true_and, Bool.and_false, Bool.false_and, Bool.or_false, Bool.false_or, Bool.not_true, Bool.not_false, Bool.or_self, Bool.and_self, Bool.not_not, if_true, if_false, and_self, true_and, and_true, and_false, false_and, or_true, true_or, or_false, false_or, not_true_eq_false, not_false_eq_true, decide_true, decide_false, eq_self, if_pos, if_neg, P7, Pq, show ¬ a % 4 < 0 by omega, show ¬ (4 : Int) = 0 by decide]
 ·simp (disch := omega) only [NP, MR, Nu, wrap64, Mc, MF, dec_not, dec_and, OZ, Oc, cond_true, cond_false, Option.bind_some, Option.bind_none, Bool.or_true, Bool.true_or, Bool.and_true, Bool.true_and, Bool.and_false, Bool.false_and, Bool.or_false, Bool.false_or, Bool.not_true, Bool.not_false, Bool.or_self, Bool.and_self, Bool.not_not, if_true, if_false, and_self, true_and, and_true, and_false, false_and, or_true, true_or, or_false, false_or, not_true_eq_false, not_false_eq_true, decide_true, decide_false, eq_self, if_pos, if_neg, P7, Pq, show ¬ a % 100 < 0 by omega, show ¬ (100 : Int) = 0 by decide]
 ·simp (disch := omega) only [NP, MR, Nu, wrap64, Mc, MF, dec_not, dec_and, OZ, Oc, cond_true, cond_false, Option.bind_some, Option.bind_none, Bool.or_true, Bool.true_or, Bool.and_true, Bool.true_and, Bool.and_false, Bool.false_and, Bool.or_false, Bool.false_or, Bool.not_true, Bool.not_false, Bool.or_self, Bool.and_self, Bool.not_not, if_true, if_false, and_self, true_and, and_true, and_false, false_and, or_true, true_or, or_false, false_or, not_true_eq_false, not_false_eq_true, decide_true, decide_false, eq_self, if_pos, if_neg, P7, Pq, show ¬ a % 400 < 0 by omega, show ¬ (400 : Int) = 0 by decide]
theorem number_eq {y m d : Int} (hy : 1 <= y) (hy2 : y <= 20000) (hm : 1 <= m) (hm2 : m <= 12) (hd : 0 <= d) (hd2 : d <= 1000) : MN.run .lim (y, m, d, ()) = some (dN y m d) := by
 unfold dN;have e1 : IntKind.i64.wrap (y - IntKind.i64.wrap ((IntKind.i64.wrap (14 - m)).tdiv 12)) = y - (14 - m) / 12 := by rw [wrap64 (n := 14 - m) (by omega) (by omega), Nw (by omega), wrap64 (n := (14 - m) / 12) (by omega) (by omega), wrap64 (by omega) (by omega)]
 have hy' : 0 <= y - (14 - m) / 12 /\ y - (14 - m) / 12 <= 20000 := by omega
 simp only [MN.run, e1];generalize y - (14 - m) / 12 = z at hy';rw [Oh hy'.1 (by omega) (.inl rfl), Option.bind_some, Oh hy'.1 (by omega) (.inr (.inl rfl)), Option.bind_some, Oh hy'.1 (by omega) (.inr (.inr rfl)), Option.bind_some];rw [wrap64 (n := m + 9) (by omega) (by omega), NR (a := m + 9) (by omega)];have hm' : 0 <= (m + 9) % 12 /\ (m + 9) % 12 < 12 := by omega
 generalize (m + 9) % 12 = k at hm';rw [wrap64 (n := k * 306) (by omega) (by omega), wrap64 (n := k * 306 + 5) (by omega) (by omega), Nw (a := k * 306 + 5) (by omega), wrap64 (n := (k * 306 + 5) / 10) (by omega) (by omega)];rw [wrap64 (n := z * 365) (by omega) (by omega), wrap64 (n := z * 365 + z / 4) (by omega) (by omega), wrap64 (n := z * 365 + z / 4 - z / 100) (by omega) (by omega), wrap64 (n := z * 365 + z / 4 - z / 100 + z / 400) (by omega) (by omega),
  wrap64 (n := z * 365 + z / 4 - z / 100 + z / 400 + (k * 306 + 5) / 10) (by omega) (by omega), wrap64 (n := z * 365 + z / 4 - z / 100 + z / 400 + (k * 306 + 5) / 10 + d) (by omega) (by omega), wrap64 (by omega) (by omega)]
theorem NT {y m d : Int} (h : 1 <= m) (h2 : m <= 2) : dN y m d = (y - 1) * 365 + (y - 1) / 4 - (y - 1) / 100 + (y - 1) / 400 + ((m + 9) * 306 + 5) / 10 + d - 307 := by
 unfold dN;rw [show (14 - m) / 12 = 1 by omega, show (m + 9) % 12 = m + 9 by omega]
theorem Oe {y m d : Int} (h : 3 <= m) (h2 : m <= 12) : dN y m d = y * 365 + y / 4 - y / 100 + y / 400 + ((m - 3) * 306 + 5) / 10 + d - 307 := by
 unfold dN;rw [show (14 - m) / 12 = 0 by omega, show (m + 9) % 12 = m - 3 by omega, Int.sub_zero]
theorem PX {y m d : Int} : dN y m d = dN y m 1 + d - 1 := by unfold dN; omega
theorem NY {a b : Int} (h : a <= b) : dN a 1 1 <= dN b 1 1 := by rw [NT (by omega) (by omega), NT (by omega) (by omega)]; omega
theorem NS {y a b : Int} (h1 : 1 <= a) (h : a <= b) (h2 : b <= 12) : dN y a 1 <= dN y b 1 := by
 by_cases ha : a <= 2
 ·rw [NT h1 ha];by_cases hb : b <= 2
  ·rw [NT (by omega) hb]; omega
  ·rw [Oe (by omega) h2]; omega
 ·rw [Oe (by omega) (by omega), Oe (by omega) h2]; omega
theorem OX {y : Int} : dN (y + 1) 1 1 = dN y 12 1 + 31 := by
 rw [NT (by omega) (by omega), Oe (by omega) (by omega), show y + 1 - 1 = y by omega];have e1 : ((1 + 9) * 306 + 5) / 10 = (306 : Int) := by decide
 have e2 : ((12 - 3) * 306 + 5) / 10 = (275 : Int) := by decide
 rw [e1, e2]; omega
def dX (y m : Int) : Int := if m = 12 then dN (y + 1) 1 1 else dN y (m + 1) 1
theorem PZ {y m : Int} (h1 : 1 <= m) (h2 : m <= 12) : dX y m <= dN (y + 1) 1 1 := by
 unfold dX;split
 ·exact Int.le_refl _
 ·have := NS (y := y) (a := m + 1) (b := 12) (by omega) (by omega) (by omega);rw [OX]; omega
theorem PY {y m : Int} (h1 : 1 <= m) (h2 : m <= 12) : dX y m <= dN y m 1 + 31 := by
 unfold dX;split
 ·rename_i h; subst h; rw [OX]; omega
 ·by_cases h3 : m <= 1
  ·rw [NT (by omega) (by omega), NT (by omega) (by omega)]; omega
  ·by_cases h4 : m = 2
   ·subst h4;rw [NT (y := y) (m := 2) (by omega) (by omega), Oe (by omega) (by omega)];have e1 : ((2 + 9) * 306 + 5) / 10 = (337 : Int) := by decide
    have e2 : ((2 + 1 - 3) * 306 + 5) / 10 = (0 : Int) := by decide
    rw [e1, e2]; omega
   ·rw [Oe (by omega) (by omega), Oe (by omega) (by omega)]; omega
structure Dt (n y m d : Int) : Prop where
 y1 : 1 <= y
 y2 : y <= 10000
 m1 : 1 <= m
 m2 : m <= 12
 lo : dN y m 1 <= n
 hi : n < dX y m
 d : d = n - dN y m 1 + 1
theorem Dt.d1 {n y m d : Int} (h : Dt n y m d) : 1 <= d /\ d <= 31 := by have := h.lo; have := h.hi; have := h.d; have := PY (y := y) h.m1 h.m2; omega
theorem Dt.num {n y m d : Int} (h : Dt n y m d) : dN y m d = n := by have := h.d; rw [PX]; omega
theorem Dt.le {n y m d n' y' m' d' : Int} (h : Dt n y m d) (h' : Dt n' y' m' d') (hn : n <= n') : y < y' \/ (y = y' /\ (m < m' \/ (m = m' /\ d <= d'))) := by
 have a1 := h.lo; have a2 := h'.hi;have b1 := NS (y := y) (a := 1) (b := m) (by omega) h.m1 h.m2;have b2 := PZ (y := y') h'.m1 h'.m2;by_cases hy : y' < y
 ·have := NY (a := y' + 1) (b := y) (by omega);omega
 ·by_cases hy2 : y < y'
  ·exact .inl hy2
  ·obtain rfl : y = y' := by omega
   refine .inr ⟨rfl, ?_⟩;by_cases hm : m' < m
   ·have e : dX y m' = dN y (m' + 1) 1 := by unfold dX; rw [if_neg (by have := h.m2; omega)]
    have := NS (y := y) (a := m' + 1) (b := m) (by have := h'.m1; omega) (by omega) h.m2;omega
   ·by_cases hm2 : m < m'
    ·exact .inl hm2
    ·obtain rfl : m = m' := by omega
     have := h.d; have := h'.d;exact .inr ⟨rfl, by omega⟩
theorem Dt.eq {n y m d y' m' d' : Int} (h : Dt n y m d) (h' : Dt n y' m' d') : y = y' /\ m = m' /\ d = d' := by
 have a := h.le h' (Int.le_refl _);have b := h'.le h (Int.le_refl _);omega
theorem y0 : dN 1 1 1 = 0 := by decide
theorem RD : dN 10000 1 1 = 3652059 := by decide
theorem TY : dN 10001 1 1 = 3652425 := by decide
theorem O_ {n : Int} (h0 : 0 <= n) (h1 : n <= 3652300) : ∀ (k : Nat) (y : Int), 1 <= y -> y + k = 10000 -> ∃ y', Md.l0 .lim (n, y, ()) = some (n, y', ()) /\ 1 <= y' /\ y' <= 10000 /\ n < dN (y' + 1) 1 1
 | k, y, hy, hk => by
  rw [Md.q0];simp only [Md.b0, wrap64 (n := y + 1) (by omega) (by omega), number_eq (y := y + 1) (m := 1) (d := 1) (by omega) (by omega) (by omega) (by omega) (by omega) (by omega), Option.bind_some];by_cases h : dN (y + 1) 1 1 <= n
  ·rw [cond_pos (Mc h)]
   match k, hk with
   | 0, hk =>
    obtain rfl : y = 10000 := by omega
    have : dN (10000 + 1) 1 1 = 3652425 := TY;omega
   | k + 1, hk => exact O_ h0 h1 k (y + 1) (by omega) (by omega)
  ·rw [cond_neg (MF h)];exact ⟨y, rfl, hy, by omega, by omega⟩
theorem Pg {n : Int} (h0 : 0 <= n) : ∀ (k : Nat) (y : Int), y = k + 1 -> y <= 10000 -> n < dN (y + 1) 1 1 -> ∃ y', Md.l1 .lim (n, y, ()) = some (n, y', ()) /\ 1 <= y' /\ y' <= 10000 /\ dN y' 1 1 <= n /\ n < dN (y' + 1) 1 1
 | k, y, hk, hy, hn => by
  rw [Md.q1];simp only [Md.b1, number_eq (y := y) (m := 1) (d := 1) (by omega) (by omega) (by omega) (by omega) (by omega) (by omega), Option.bind_some];by_cases h : dN y 1 1 > n
  ·rw [cond_pos (Mc h), wrap64 (n := y - 1) (by omega) (by omega)]
   match k, hk with
   | 0, hk =>
    obtain rfl : y = 1 := by omega
    have := y0;omega
   | k + 1, hk => exact Pg h0 k (y - 1) (by omega) (by omega) (by rw [show y - 1 + 1 = y by omega]; exact h)
  ·rw [cond_neg (MF h)];exact ⟨y, rfl, by omega, hy, by omega, hn⟩
theorem Ph {n y : Int} (hy1 : 1 <= y) (hy2 : y <= 10000) (h0 : dN y 1 1 <= n) : ∀ (k : Nat) (m : Int), m = k + 1 -> m <= 12 -> n < dX y m -> ∃ m', Md.l2 .lim (n, y, m, ()) = some (n, y, m', ()) /\ 1 <= m' /\ m' <= 12 /\ dN y m' 1 <= n /\ n < dX y m'
 | k, m, hk, hm, hn => by
  rw [Md.q2];simp only [Md.b2, number_eq (y := y) (m := m) (d := 1) (by omega) (by omega) (by omega) (by omega) (by omega) (by omega), Option.bind_some];by_cases h : dN y m 1 > n
  ·rw [cond_pos (Mc h), wrap64 (n := m - 1) (by omega) (by omega)]
   match k, hk with
   | 0, hk =>
    obtain rfl : m = 1 := by omega
    omega
   | k + 1, hk => exact Ph hy1 hy2 h0 k (m - 1) (by omega) (by omega) (by unfold dX; rw [if_neg (by omega), show m - 1 + 1 = m by omega]; exact h)
  ·rw [cond_neg (MF h)];exact ⟨m, rfl, by omega, hm, by omega, hn⟩
theorem O9 {n : Int} (h0 : 0 <= n) (h1 : n <= 3652300) : ∃ y m d, Md.run .lim (n, ()) = some (y, m, d, ()) /\ Dt n y m d := by
 simp only [Md.run];rw [wrap64 (n := n * 400) (by omega) (by omega), Nw (by omega), wrap64 (n := n * 400 / 146097) (by omega) (by omega), wrap64 (n := n * 400 / 146097 + 1) (by omega) (by omega)];obtain ⟨y, e1, a1, a2, a3⟩ := O_ h0 h1 (10000 - (n * 400 / 146097 + 1)).toNat (n * 400 / 146097 + 1) (by omega) (by omega);rw [e1, Option.bind_some];obtain ⟨y, e2, b1, b2, b3, b4⟩ := Pg h0 (y - 1).toNat y (by omega) a2 a3;simp only [e2, Option.bind_some];obtain ⟨m, e3, c1, c2, c3, c4⟩ := Ph b1 b2 b3 11 12 (by omega) (by omega) (by unfold dX; rw [if_pos rfl]; exact b4);simp only [e3, Option.bind_some, number_eq (y := y) (m := m) (d := 1) (by omega) (by omega) (by omega) (by omega) (by omega) (by omega)];have hX := PY (y := y) c1 c2;rw [wrap64 (n := n - dN y m 1) (by omega) (by omega), wrap64 (n := n - dN y m 1 + 1) (by omega) (by omega)];exact ⟨_, _, _, rfl, b1, b2, c1, c2, c3, c4, rfl⟩
def OH (n : Int) : List Int := [48 + n / 10, 48 + n % 10]
def Qo (n : Int) : List Int := [48 + n / 1000, 48 + n / 100 % 10, 48 + n / 10 % 10, 48 + n % 10]
theorem M_ {n size : Int} {l : List Int} {k : Nat} (h0 : 0 <= n) (h1 : n < 10000) (hl : GX n = l) (hll : l.length <= 4) (hk : size = k + l.length) (hk4 : k <= 4) : MI.run .lim (n, size, ()) = some (Ew [48] k ++ l) := by
 have e1 : strconv_Itoa.run .lim (n, ()) = some l := by
  show FC (n, ()) = _;unfold FC;rw [show (decide ((n, ()).1 >= 0) && decide ((n, ()).1 < 10000)) = true from by rw [Mc h0, Mc h1]; rfl];show some (GX n) = _;rw [hl]
 have e2 : strings_Repeat.run .lim ([48], (k : Int), ()) = some (Ew [48] k) := by
  show KC ([48], (k : Int), ()) = _;unfold KC;rw [show (decide (0 <= (([48] : List Int), (k : Int), ()).2.1) && Nat.ble ((([48] : List Int), (k : Int), ()).1.length * (([48] : List Int), (k : Int), ()).2.1.toNat) 140737488355328) = true from by
   rw [Mc (by show (0 : Int) <= (k : Int); omega)];show Nat.ble (1 * (k : Int).toNat) 140737488355328 = true;exact Nat.ble_eq_true_of_le (by omega)]
  rfl
 have hr : (Ew ([48] : List Int) k).length = k := by
  clear e2 hk hk4
  induction k with
  | zero => rfl
  | succ k ih => show ([48] ++ Ew [48] k).length = _; rw [List.length_append, ih]; simp; omega
 simp only [MI.run, e1, Option.bind_some, Na (show l.length < 9223372036854775808 by omega), cond_true, wrap64 (n := size - (l.length : Int)) (by omega) (by omega), show size - (l.length : Int) = (k : Int) by omega, wrap64 (n := (k : Int)) (by omega) (by omega), e2, Option.bind_some];rw [cond_pos (Mc (by rw [hr]; show _ <= 9223372036854775807; omega))]
theorem NM {n : Int} (h0 : 0 <= n) (h1 : n < 100) : MI.run .lim (n, 2, ()) = some (OH n) := by
 by_cases h : n < 10
 ·rw [M_ (size := 2) (l := [48 + n]) (k := 1) h0 (by omega) (by unfold GX; rw [Mc h]; rfl) (by simp) rfl (by omega)];show some [48, 48 + n] = some [48 + n / 10, 48 + n % 10];rw [show n / 10 = 0 by omega, show n % 10 = n by omega]; rfl
 ·rw [M_ (size := 2) (l := OH n) (k := 0) h0 (by omega) (by unfold GX; rw [MF h, Mc h1]; rfl) (by simp [OH]) rfl (by omega)];rfl
theorem Qp {n : Int} (h0 : 0 <= n) (h1 : n < 10000) : MI.run .lim (n, 4, ()) = some (Qo n) := by
 by_cases h : n < 10
 ·rw [M_ (size := 4) (l := [48 + n]) (k := 3) h0 (by omega) (by unfold GX; rw [Mc h]; rfl) (by simp) rfl (by omega)];show some [48, 48, 48, 48 + n] = some [48 + n / 1000, 48 + n / 100 % 10, 48 + n / 10 % 10, 48 + n % 10];rw [show n / 1000 = 0 by omega, show n / 100 % 10 = 0 by omega, show n / 10 % 10 = 0 by omega, show n % 10 = n by omega]; rfl
 ·by_cases h2 : n < 100
  ·rw [M_ (size := 4) (l := [48 + n / 10, 48 + n % 10]) (k := 2) h0 (by omega) (by unfold GX; rw [MF h, Mc h2]; rfl) (by simp) rfl (by omega)];show some [48, 48, 48 + n / 10, 48 + n % 10] = some [48 + n / 1000, 48 + n / 100 % 10, 48 + n / 10 % 10, 48 + n % 10];rw [show n / 1000 = 0 by omega, show n / 100 % 10 = 0 by omega, show n / 10 % 10 = n / 10 by omega]; rfl
  ·by_cases h3 : n < 1000
   ·rw [M_ (size := 4) (l := [48 + n / 100, 48 + n / 10 % 10, 48 + n % 10]) (k := 1) h0 (by omega) (by unfold GX; rw [MF h, MF h2, Mc h3]; rfl) (by simp) rfl (by omega)];show some [48, 48 + n / 100, 48 + n / 10 % 10, 48 + n % 10] = some [48 + n / 1000, 48 + n / 100 % 10, 48 + n / 10 % 10, 48 + n % 10];rw [show n / 1000 = 0 by omega, show n / 100 % 10 = n / 100 by omega]; rfl
   ·rw [M_ (size := 4) (l := Qo n) (k := 0) h0 h1 (by unfold GX; rw [MF h, MF h2, MF h3]; rfl) (by simp [Qo]) rfl (by omega)];rfl
def Np (y m d s : Int) : List Int := Qo y ++ OH m ++ OH d ++ OH (s / 3600) ++ OH (s / 60 % 60) ++ OH (s % 60) ++ [90]
theorem Qu {t : Int} (h : t < -62135596800 \/ t > 253402300799) : MC.run .lim (t, ()) = some ([], 13, ()) := by
 simp only [MC.run];rw [cond_pos (by rw [Bool.or_eq_true, decide_eq_true_eq, decide_eq_true_eq]; exact h)]
theorem Py {t : Int} (h0 : -62135596800 <= t) (h1 : t <= 253402300799) : ∃ y m d, Dt ((t + 62135596800) / 86400) y m d /\ y <= 9999 /\ MC.run .lim (t, ()) = some (Np y m d ((t + 62135596800) % 86400), 0, ()) := by
 obtain ⟨y, m, d, e, D⟩ := O9 (n := (t + 62135596800) / 86400) (by omega) (by omega);have hy : y <= 9999 := by
  by_cases hc : y <= 9999
  ·exact hc
  ·obtain rfl : y = 10000 := by have := D.y2; omega
   have := D.lo; have := NS (y := 10000) (a := 1) (b := m) (by omega) D.m1 D.m2; have := RD;omega
 refine ⟨y, m, d, D, hy, ?_⟩;have hd := D.d1;have := D.y1; have := D.m1; have := D.m2;have ew : IntKind.i64.wrap (t - -62135596800) = t + 62135596800 := by rw [wrap64 (by omega) (by omega)]; omega
 have ed : IntKind.i64.wrap ((t + 62135596800).tdiv 86400) = (t + 62135596800) / 86400 := by rw [Nw (by omega), wrap64 (by omega) (by omega)]
 have em : (t + 62135596800).tmod 86400 = (t + 62135596800) % 86400 := NR (by omega);simp only [MC.run, ew, ed, em, e, Option.bind_some];rw [cond_neg (by rw [MF (show ¬ t < -62135596800 by omega), MF (show ¬ t > 253402300799 by omega)]; rfl)];have hs : 0 <= (t + 62135596800) % 86400 /\ (t + 62135596800) % 86400 < 86400 := by omega
 generalize (t + 62135596800) % 86400 = s at hs;have e3 : IntKind.i64.wrap (s.tdiv 3600) = s / 3600 := by rw [Nw (by omega), wrap64 (by omega) (by omega)]
 have e4 : (IntKind.i64.wrap (s.tdiv 60)).tmod 60 = s / 60 % 60 := by rw [Nw (by omega), wrap64 (by omega) (by omega), NR (by omega)]
 have e5 : s.tmod 60 = s % 60 := NR (by omega);simp only [e3, e4, e5, Qp (n := y) (by omega) (by omega), NM (n := m) (by omega) (by omega), NM (n := d) (by omega) (by omega), NM (n := s / 3600) (by omega) (by omega), NM (n := s / 60 % 60) (by omega) (by omega), NM (n := s % 60) (by omega) (by omega), Option.bind_some];rfl
end Go.AM
end
section
namespace Go.AM
end Go.AM
end
section
namespace Go.AM
abbrev Qw (x : Int) : Prop := 0 <= x /\ x < 18446744073709551616
structure Nm (n : List Int) : Prop where
 len : n.length = 4
 u : ∀ x ∈ n, Qw x
def Nz (s : List Int) (k : Nat) : List Int := tab s.length fun x => if x < k \/ s.length - k <= x then rd 0 s ((s.length - 1 - x : Nat) : Int) else rd 0 s (x : Int)
theorem OI {β : Type} {l : Int -> Int -> List Int -> Option β} {e : List Int -> Option β}
  (q : ∀ i j m, l i j m = bif decide (i < j) then bif inB j (m.length : Int) then bif inB i (m.length : Int) then bif inB i (m.length : Int) then bif inB j ((m.set i.toNat (rd 0 m j)).length : Int) then
   l (IntKind.i64.wrap (i + 1)) (IntKind.i64.wrap (j - 1)) ((m.set i.toNat (rd 0 m j)).set j.toNat (rd 0 m i)) else none else none else none else none else e m) {s : List Int} (hs : s.length < 4611686018427387904) :
  l 0 (IntKind.i64.wrap ((s.length : Int) - 1)) s = e s.reverse := by
 have h0 : s = Nz s 0 := by
  unfold Nz
  conv => lhs; rw [Qe (m := s) rfl]
  exact Nj fun x hx => by rw [if_neg (by omega)]
 have hstep : ∀ k : Nat, 2 * k + 1 < s.length -> l (k : Int) ((s.length : Int) - 1 - k) (Nz s k) = l ((k + 1 : Nat) : Int) ((s.length : Int) - 1 - ((k + 1 : Nat) : Int)) (Nz s (k + 1)) := fun k hk => by
  have hl : (Nz s k).length = s.length := NQ;rw [q, Mc (show (k : Int) < (s.length : Int) - 1 - k by omega), cond_true, hl, MR (show (0 : Int) <= (s.length : Int) - 1 - k by omega) (by omega), cond_true, MR (show (0 : Int) <= (k : Int) by omega) (by omega), cond_true, cond_true,
   List.length_set, hl, MR (show (0 : Int) <= (s.length : Int) - 1 - k by omega) (by omega), cond_true, wrap64 (n := (k : Int) + 1) (by omega) (by omega), wrap64 (n := (s.length : Int) - 1 - k - 1) (by omega) (by omega)]
  have ej : (s.length : Int) - 1 - k = ((s.length - 1 - k : Nat) : Int) := by omega
  rw [show (k : Int) + 1 = ((k + 1 : Nat) : Int) by omega, show (s.length : Int) - 1 - k - 1 = (s.length : Int) - 1 - ((k + 1 : Nat) : Int) by omega, ej];congr 1;have r1 : rd 0 (Nz s k) ((s.length - 1 - k : Nat) : Int) = rd 0 s ((s.length - 1 - k : Nat) : Int) := by unfold Nz; rw [Nh (by omega), if_neg (by omega)]
  have r2 : rd 0 (Nz s k) (k : Int) = rd 0 s (k : Int) := by unfold Nz; rw [Nh (by omega), if_neg (by omega)]
  rw [r1, r2];unfold Nz;rw [Int.toNat_natCast, Int.toNat_natCast, N7, N7];refine Nj fun x hx => ?_
  by_cases h1 : x = s.length - 1 - k
  ·rw [if_pos h1, if_pos (by omega), show s.length - 1 - x = k by omega]
  ·rw [if_neg h1];by_cases h2 : x = k
   ·rw [if_pos h2, if_pos (by omega), h2]
   ·rw [if_neg h2];by_cases h3 : x < k \/ s.length - k <= x
    ·rw [if_pos h3, if_pos (by omega)]
    ·rw [if_neg h3, if_neg (by omega)]
 have hall : ∀ k : Nat, 2 * k <= s.length -> l 0 ((s.length : Int) - 1) s = l (k : Int) ((s.length : Int) - 1 - k) (Nz s k) := fun k => by
  induction k with
  | zero => intro _; rw [<- h0]; show _ = l 0 ((s.length : Int) - 1 - 0) s; rw [Int.sub_zero]
  | succ k ih => intro hk; rw [ih (by omega), hstep k (by omega)]
 rw [wrap64 (by omega) (by omega), hall (s.length / 2) (by omega), q, MF (show ¬ ((s.length / 2 : Nat) : Int) < (s.length : Int) - 1 - ((s.length / 2 : Nat) : Int) by omega), cond_false];congr 1;have hr : s.reverse.length = s.length := List.length_reverse;rw [Qe (m := s.reverse) hr];unfold Nz;refine Nj fun x hx => ?_
 have hrev : rd 0 s.reverse (x : Int) = rd 0 s ((s.length - 1 - x : Nat) : Int) := by rw [NU (by omega), NU (by omega), List.getElem_reverse]
 rw [hrev];split
 ·rfl
 ·rw [show s.length - 1 - x = x by omega]
theorem Oy {s : List Int} (hs : s.length < 4611686018427387904) : ML.run .lim (s, ()) = some s.reverse := by
 have h := OI (l := fun i j m => ML.l0 .lim (i, j, m, ())) (e := fun m => some (m, ())) (fun i j m => by rw [ML.q0]; rfl) hs;simp only [ML.run, Na (show s.length < 9223372036854775808 by omega), cond_true, h, Option.bind_some]
def QZ (n : List Int) (i : Nat) : Int := rd 0 n ((i / 8 : Nat) : Int) / 2 ^ (8 * (i % 8)) % 256
def leB (n : List Int) : List Int := tab 32 (QZ n)
theorem PE {n : List Int} : MH.run .lim (n, ()) = some (leB n) := by
 have e := NK (f := MH.l0 .lim) (fun k => ((k : Int), n, Om 32 k (QZ n), ())) (n := 32) (fun k hk => by
  rw [MH.q0];have e1 : IntKind.i64.wrap ((k : Int).tdiv 8) = ((k / 8 : Nat) : Int) := by rw [Int.tdiv_eq_ediv_of_nonneg (by omega), wrap64 (by omega) (by omega)]; omega
  have e2 : IntKind.i64.wrap (8 * ((k : Int).tmod 8)) = ((8 * (k % 8) : Nat) : Int) := by rw [Int.tmod_eq_emod_of_nonneg (by omega), wrap64 (by omega) (by omega)]; omega
  simp only [MH.b0, e1, e2];have hv : IntKind.u8.wrap (IK .u64 (rd 0 n ((k / 8 : Nat) : Int)) ((8 * (k % 8) : Nat) : Int)) = QZ n k := by rw [OA _ 0 _ _ (by show 8 * (k % 8) <= 64; omega), Oo]; rfl
  rw [Mc (show (k : Int) < 32 by omega), cond_true, MR (show (0 : Int) <= ((k / 8 : Nat) : Int) by omega) (by omega), cond_true, Mc (show (0 : Int) <= ((8 * (k % 8) : Nat) : Int) by omega), cond_true, MR (show (0 : Int) <= (k : Int) by omega) (by omega), cond_true, hv, Int.toNat_natCast, OL rfl, QJ k (by omega)])
 have e0 : MH.l0 .lim (0, n, List.replicate 32 0, ()) = MH.l0 .lim (32, n, Om 32 32 (QZ n), ()) := by
  have := e;rw [Ov] at this;exact this
 simp only [MH.run, e0];rw [MH.q0];simp only [MH.b0];rw [cond_neg (MF (by decide)), Option.bind_some, OJ, List.drop_zero, List.take_of_length_le (by simp)];rfl
def NI (n : List Int) : List Int := (leB n).reverse
theorem QA {n : List Int} : Nv.run .lim (n, ()) = some (NI n) := by
 simp only [Nv.run, PE, Option.bind_some];rw [Oy (by unfold leB; rw [NQ]; decide)]; rfl
def MS : List Int -> Int
 | [] => 0
 | c :: r => c + 256 * MS r
theorem Nk : ∀ a b : List Int, MS (a ++ b) = MS a + 256 ^ a.length * MS b
 | [], b => by show MS b = 0 + 256 ^ 0 * MS b; rw [Int.pow_zero, Int.one_mul, Int.zero_add]
 | c :: a, b => by
  show c + 256 * MS (a ++ b) = c + 256 * MS a + 256 ^ (a.length + 1) * MS b;rw [Nk a b, Int.pow_succ, Int.mul_add, Int.add_assoc, Int.mul_comm (256 ^ a.length) 256, Int.mul_assoc]
theorem Oa : ∀ {a : List Int}, Bs a -> 0 <= MS a /\ MS a < 256 ^ a.length
 | [], _ => by show (0 : Int) <= 0 /\ (0 : Int) < 256 ^ 0; decide
 | c :: a, h => by
  have := Oa (a := a) fun x hx => h x (.tail _ hx)
  have hc := h c (.head _);unfold B8 at hc;show 0 <= c + 256 * MS a /\ c + 256 * MS a < 256 ^ (a.length + 1);rw [Int.pow_succ];omega
theorem OV : ∀ {a b : List Int}, a.length = b.length -> Bs a -> Bs b -> MS a = MS b -> a = b
 | [], [], _, _, _, _ => rfl
 | [], _ :: _, h, _, _, _ => by cases h
 | _ :: _, [], h, _, _, _ => by cases h
 | c :: a, d :: b, h, ha, hb, e => by
  have e : c + 256 * MS a = d + 256 * MS b := e;have h1 := ha c (.head _);have h2 := hb d (.head _);unfold B8 at h1 h2;have : a = b := OV (by simpa using h) (fun x hx => ha x (.tail _ hx)) (fun x hx => hb x (.tail _ hx)) (by omega);subst this;rw [show c = d by omega]
def nV (n : List Int) : Int := rd 0 n 0 + 18446744073709551616 * (rd 0 n 1 + 18446744073709551616 * (rd 0 n 2 + 18446744073709551616 * rd 0 n 3))
theorem nm4 {n : List Int} (h : Nm n) : ∃ a b c d, n = [a, b, c, d] /\ Qw a /\ Qw b /\ Qw c /\ Qw d := by
 match n, h with
 | [a, b, c, d], h => exact ⟨a, b, c, d, rfl, h.u a (by simp), h.u b (by simp), h.u c (by simp), h.u d (by simp)⟩
 | [], h => cases h.len
 | [_], h => cases h.len
 | [_, _], h => cases h.len
 | [_, _, _], h => cases h.len
 | _ :: _ :: _ :: _ :: _ :: _, h => have := h.len; simp at this
theorem QE {n m : List Int} (h : Nm n) (k : Nm m) (e : nV n = nV m) : n = m := by
 obtain ⟨a, b, c, d, rfl, h1, h2, h3, h4⟩ := nm4 h;obtain ⟨a', b', c', d', rfl, k1, k2, k3, k4⟩ := nm4 k;have e : a + 18446744073709551616 * (b + 18446744073709551616 * (c + 18446744073709551616 * d)) = a' + 18446744073709551616 * (b' + 18446744073709551616 * (c' + 18446744073709551616 * d')) := e;unfold Qw at *;rw [show a = a' by omega, show b = b' by omega, show c = c' by omega, show d = d' by omega]
def QC (x : Int) : List Int := [x / 1 % 256, x / 256 % 256, x / 65536 % 256, x / 16777216 % 256, x / 4294967296 % 256, x / 1099511627776 % 256, x / 281474976710656 % 256, x / 72057594037927936 % 256]
theorem NZ {x : Int} (h : Qw x) : MS (QC x) = x := by
 unfold Qw at h;simp only [QC, MS];omega
theorem QX (a b c d : Int) : leB [a, b, c, d] = QC a ++ (QC b ++ (QC c ++ QC d)) := by kernel_rfl
theorem Qn {n : List Int} (h : Nm n) : MS (leB n) = nV n := by
 obtain ⟨a, b, c, d, rfl, h1, h2, h3, h4⟩ := nm4 h;have hl : ∀ x, (256 : Int) ^ (QC x).length = 18446744073709551616 := fun x => by
  show (256 : Int) ^ 8 = _;decide
 rw [QX, Nk, Nk, Nk, NZ h1, NZ h2, NZ h3, NZ h4, hl, hl, hl];unfold nV;congr 1
theorem QY {n : List Int} : Bs (leB n) := fun x hx => by
 obtain ⟨i, _, rfl⟩ := List.mem_map.1 hx;unfold QZ B8;omega
def wd (s : List Int) (t k : Nat) : Int := MS (((s.take t).drop (8 * k)).take 8)
theorem Q8 {p c : Int} {j : Nat} (hj : j <= 7) (hp : 0 <= p) (hp2 : p < 256 ^ j) (hc : B8 c) : Kv .u64 p (IJ .u64 (IntKind.u64.wrap c) ((8 * j : Nat) : Int)) = p + 256 ^ j * c := by
 obtain ⟨x, rfl⟩ := Int.eq_ofNat_of_zero_le hp;obtain ⟨y, rfl, hy⟩ := PS hc;have QV : (256 : Int) ^ j = ((2 ^ (8 * j) : Nat) : Int) := by rw [Nat.pow_mul, Int.natCast_pow]; rfl
 have hx : x < 2 ^ (8 * j) := by rw [QV] at hp2; omega
 have Ua : 2 ^ (8 * j) <= 2 ^ 56 := Nat.pow_le_pow_right (by decide) (by omega);have hyb : 2 ^ (8 * j) * y + x < 2 ^ 64 := by
  have : 2 ^ (8 * j) * y <= 2 ^ (8 * j) * 255 := Nat.mul_le_mul_left _ (by omega);omega
 have e1 : IntKind.u64.wrap (y : Int) = (y : Int) := by rw [NH]; omega
 have e2 : IJ .u64 (y : Int) ((8 * j : Nat) : Int) = ((2 ^ (8 * j) * y : Nat) : Int) := by
  show IntKind.u64.wrap ((y : Int) * 2 ^ min (((8 * j : Nat) : Int).toNat) 64) = _;rw [Int.toNat_natCast, Nat.min_eq_left (by omega), NH, show (y : Int) * 2 ^ (8 * j) = ((2 ^ (8 * j) * y : Nat) : Int) by rw [Int.natCast_mul, Int.natCast_pow, Int.mul_comm]; rfl];omega
 rw [e1, e2, QV, show (x : Int) + ((2 ^ (8 * j) : Nat) : Int) * (y : Int) = ((2 ^ (8 * j) * y + x : Nat) : Int) by rw [Int.natCast_add, Int.natCast_mul, Int.add_comm]];show IntKind.u64.wrap ((BitVec.ofInt 64 (x : Int) ||| BitVec.ofInt 64 ((2 ^ (8 * j) * y : Nat) : Int)).toNat : Int) = _;rw [BitVec.or_comm, O5 (by omega) (by omega), O4 hx, NH];generalize 2 ^ (8 * j) * y + x = z at *;omega
theorem Qv {s : List Int} {t k : Nat} (hs : s.length = 32) (ht : t < 32) : wd s (t + 1) k = if k = t / 8 then wd s t k + 256 ^ (t % 8) * rd 0 s (t : Int) else wd s t k := by
 unfold wd;rw [N8 (d := (0 : Int)) (xs := s) (k := t) (by omega)];have hlen : (s.take t).length = t := by rw [List.length_take]; omega
 by_cases h1 : k = t / 8
 ·rw [if_pos h1, List.drop_append_of_le_length (by omega)];have hl2 : ((s.take t).drop (8 * k)).length = t % 8 := by rw [List.length_drop, hlen]; omega
  rw [List.take_of_length_le (by rw [List.length_append, hl2]; simp; omega), List.take_of_length_le (l := (s.take t).drop (8 * k)) (by omega), Nk, hl2];show _ + 256 ^ (t % 8) * (rd 0 s (t : Int) + 256 * 0) = _;rw [Int.mul_zero, Int.add_zero]
 ·rw [if_neg h1];by_cases h2 : k < t / 8
  ·rw [List.drop_append_of_le_length (by omega), List.take_append_of_le_length (by rw [List.length_drop, hlen]; omega)]
  ·rw [List.drop_eq_nil_of_le (by rw [List.length_append, hlen]; simp; omega), List.drop_eq_nil_of_le (by omega)]
def Nl (s : List Int) : List Int := tab 4 (wd s 32)
theorem Oq {s : List Int} (hs : s.length = 32) (hb : Bs s) : MB.run .lim (s, ()) = some (Nl s, 0, ()) := by
 have e := NK (f := MB.l0 .lim) (fun k => (s, (k : Int), List.replicate 4 0, tab 4 (wd s k), ())) (n := 32) (fun k hk => by
  rw [MB.q0];have e1 : IntKind.i64.wrap ((k : Int).tdiv 8) = ((k / 8 : Nat) : Int) := by rw [Int.tdiv_eq_ediv_of_nonneg (by omega), wrap64 (by omega) (by omega)]; omega
  have e2 : IntKind.i64.wrap (8 * ((k : Int).tmod 8)) = ((8 * (k % 8) : Nat) : Int) := by rw [Int.tmod_eq_emod_of_nonneg (by omega), wrap64 (by omega) (by omega)]; omega
  simp only [MB.b0, e1, e2];rw [Mc (show (k : Int) < 32 by omega), cond_true, MR (show (0 : Int) <= ((k / 8 : Nat) : Int) by omega) (by omega), cond_true, MR (show (0 : Int) <= (k : Int) by omega) (by omega), cond_true, Mc (show (0 : Int) <= ((8 * (k % 8) : Nat) : Int) by omega), cond_true, cond_true, QJ k (by omega),
   Int.toNat_natCast, Nh (show k / 8 < 4 by omega)]
  have hlen : ((s.take k).drop (8 * (k / 8))).length = k % 8 := by rw [List.length_drop, List.length_take]; omega
  have hw : wd s k (k / 8) = MS ((s.take k).drop (8 * (k / 8))) := by unfold wd; rw [List.take_of_length_le (by omega)]
  have hbd := Oa (a := (s.take k).drop (8 * (k / 8))) fun x hx => hb x (List.mem_of_mem_take (List.mem_of_mem_drop hx))
  rw [hlen, <- hw] at hbd;rw [Q8 (by omega) hbd.1 hbd.2 (hb _ (NG (by omega) (by omega))), N7];have : (tab 4 fun i => if i = k / 8 then wd s k (k / 8) + 256 ^ (k % 8) * rd 0 s (k : Int) else wd s k i) = tab 4 (wd s (k + 1)) := Nj fun i _ => by
   rw [Qv hs hk];by_cases h : i = k / 8
   ·rw [if_pos h, if_pos h, h]
   ·rw [if_neg h, if_neg h]
  rw [this])
 have e0 : MB.l0 .lim (s, 0, List.replicate 4 0, List.replicate 4 0, ()) = MB.l0 .lim (s, 32, List.replicate 4 0, Nl s, ()) := by
  have h0 : tab 4 (wd s 0) = List.replicate 4 0 := by
   have : ∀ k, wd s 0 k = 0 := fun k => by unfold wd; rw [List.take_zero, List.drop_nil, List.take_nil]; rfl
   show [wd s 0 0, wd s 0 1, wd s 0 2, wd s 0 3] = _; rw [this, this, this, this]; rfl
  have := e;simp only [h0] at this;exact this
 have hz : Ns.run .lim (s, 32, ()) = some 0 := by
  simp only [Ns.run, Na (show s.length < 9223372036854775808 by omega), cond_true];rw [cond_neg (MF (by omega)), cond_neg (MF (by omega))]
 simp only [MB.run, hz, Option.bind_some, e0];rw [cond_neg (by rfl), MB.q0];simp only [MB.b0];rw [cond_neg (MF (by decide)), Option.bind_some]
theorem O1 {s : List Int} (hs : s.length = 32) (hb : Bs s) : Nc.run .lim (s, ()) = some (Nl s.reverse, 0, ()) := by simp only [Nc.run, Oy (show s.length < 4611686018427387904 by omega), Option.bind_some, Oq (s := s.reverse) (by rw [List.length_reverse, hs]) (fun x hx => hb x (List.mem_reverse.1 hx))]
theorem Qj {s : List Int} (hs : s.length = 32) (hb : Bs s) : Nm (Nl s) := by
 refine ⟨NQ, fun x hx => ?_⟩;obtain ⟨k, hk, rfl⟩ := List.mem_map.1 hx;have hk := List.mem_range.1 hk;have hbd := Oa (a := ((s.take 32).drop (8 * k)).take 8) fun x hx => hb x (List.mem_of_mem_take (List.mem_of_mem_drop (List.mem_of_mem_take hx)))
 have hl : (((s.take 32).drop (8 * k)).take 8).length = 8 := by rw [List.length_take, List.length_drop, List.length_take]; omega
 rw [hl] at hbd;exact ⟨hbd.1, hbd.2⟩
theorem PN {s : List Int} (hs : s.length = 32) : nV (Nl s) = MS s := by
 have r : ∀ k : Nat, k < 4 -> rd 0 (Nl s) (k : Int) = MS ((s.drop (8 * k)).take 8) := fun k hk => by unfold Nl; rw [Nh hk]; unfold wd; rw [List.take_of_length_le (l := s) (by omega)]
 have sp : ∀ k : Nat, k < 4 -> MS (s.drop (8 * k)) = MS ((s.drop (8 * k)).take 8) + 18446744073709551616 * MS (s.drop (8 * (k + 1))) := fun k hk => by
  conv => lhs; rw [<- List.take_append_drop 8 (s.drop (8 * k)), Nk]
  have : ((s.drop (8 * k)).take 8).length = 8 := by rw [List.length_take, List.length_drop]; omega
  rw [this, List.drop_drop, show 8 * k + 8 = 8 * (k + 1) by omega];rfl
 have r0 := r 0 (by decide); have r1 := r 1 (by decide); have r2 := r 2 (by decide); have r3 := r 3 (by decide);have s0 := sp 0 (by decide); have s1 := sp 1 (by decide); have s2 := sp 2 (by decide); have s3 := sp 3 (by decide);have s4 : MS (s.drop (8 * (3 + 1))) = 0 := by rw [List.drop_eq_nil_of_le (by omega)]; rfl
 rw [s4] at s3;show rd 0 (Nl s) ((0 : Nat) : Int) + 18446744073709551616 * (rd 0 (Nl s) ((1 : Nat) : Int) + 18446744073709551616 * (rd 0 (Nl s) ((2 : Nat) : Int) + 18446744073709551616 * rd 0 (Nl s) ((3 : Nat) : Int))) = _;rw [r0, r1, r2, r3, show MS s = MS (s.drop (8 * 0)) from rfl, s0, s1, s2, s3, Int.mul_zero, Int.add_zero]
end Go.AM
end
section
namespace Go.AM
def vB (s : List Int) : Int := MS s.reverse
theorem N9 (c : Int) (r : List Int) : vB (c :: r) = vB r + 256 ^ r.length * c := by
 unfold vB;rw [List.reverse_cons, Nk, List.length_reverse];show _ + _ * (c + 256 * 0) = _;rw [Int.mul_zero, Int.add_zero]
theorem N_ (r : List Int) : vB (0 :: r) = vB r := by rw [N9, Int.mul_zero, Int.add_zero]
theorem Qy {a : List Int} (h : Bs a) : 0 <= vB a /\ vB a < 256 ^ a.length := by
 have := Oa (a := a.reverse) fun x hx => h x (List.mem_reverse.1 hx)
 rw [List.length_reverse] at this;exact this
theorem QI {a b : List Int} (hl : a.length = b.length) (ha : Bs a) (hb : Bs b) (e : vB a = vB b) : a = b := by
 have := OV (a := a.reverse) (b := b.reverse) (by rw [List.length_reverse, List.length_reverse, hl]) (fun x hx => ha x (List.mem_reverse.1 hx)) (fun x hx => hb x (List.mem_reverse.1 hx)) e;rw [<- List.reverse_reverse a, this, List.reverse_reverse]
theorem Qb {a b : Nat} (h : a <= b) : (256 : Int) ^ a <= 256 ^ b := by
 have h1 := Nat.pow_le_pow_right (n := 256) (by decide) h;have e : ∀ k : Nat, ((256 ^ k : Nat) : Int) = (256 : Int) ^ k := fun k => by rw [Int.natCast_pow]; rfl
 rw [<- e, <- e];omega
theorem pow_pos (a : Nat) : (0 : Int) < 256 ^ a := Int.pow_pos (by decide)
def canon : List Int -> Prop
 | [] => False
 | a :: r => a < 128 /\ (a = 0 -> match r with | [] => True | b :: _ => 128 <= b)
theorem PU {s : List Int} (h : canon s) (hb : Bs s) : vB s < 128 * 256 ^ (s.length - 1) := by
 match s, h, hb with
 | a :: r, h, hb =>
  have ha := hb a (.head _);have hr := Qy (a := r) fun x hx => hb x (.tail _ hx)
  unfold B8 at ha;have h1 := h.1;rw [N9];show _ < 128 * 256 ^ r.length;have hm : (256 : Int) ^ r.length * a <= 256 ^ r.length * 127 := Int.mul_le_mul_of_nonneg_left (by omega) (by have := pow_pos r.length; omega);omega
theorem PV {s : List Int} (h : canon s) (hb : Bs s) (hl : 1 < s.length) : 128 * 256 ^ (s.length - 2) <= vB s := by
 match s, h, hb, hl with
 | a :: b :: r, h, hb, _ =>
  have ha := hb a (.head _);have hbb := hb b (.tail _ (.head _));have hr := Qy (a := r) fun x hx => hb x (.tail _ (.tail _ hx))
  unfold B8 at ha hbb;rw [N9, N9];show 128 * 256 ^ r.length <= vB r + 256 ^ r.length * b + 256 ^ (r.length + 1) * a;rw [Int.pow_succ];have hp := pow_pos r.length;generalize (256 : Int) ^ r.length = p at *;by_cases h0 : a = 0
  ·have h2 : 128 <= b := h.2 h0;have hm : p * 128 <= p * b := Int.mul_le_mul_of_nonneg_left h2 (by omega);rw [h0, Int.mul_zero];omega
  ·have hm : p * 256 * 1 <= p * 256 * a := Int.mul_le_mul_of_nonneg_left (by omega) (by omega);have hm2 : p * 0 <= p * b := Int.mul_le_mul_of_nonneg_left (by omega) (by omega);omega
theorem PD {s : List Int} (h : canon s) : 0 < s.length := by
 match s, h with
 | _ :: _, _ => simp
theorem OB {s t : List Int} (h : canon s) (hb : Bs s) (k : canon t) (kb : Bs t) (e : vB s <= vB t) : s.length <= t.length := by
 by_cases hc : s.length <= t.length
 ·exact hc
 ·exfalso
  have p1 := PD k;have h1 := PV h hb (by omega);have h2 := PU k kb;have h3 := Qb (a := t.length - 1) (b := s.length - 2) (by omega);omega
theorem Pz {s t : List Int} (h : canon s) (hb : Bs s) (k : canon t) (kb : Bs t) (e : vB s = vB t) : s = t :=
 QI (Nat.le_antisymm (OB h hb k kb (by omega)) (OB k kb h hb (by omega))) hb kb e
def Oi (n : List Int) : List Int := match Gq [0] (NI n) with | [] => [0] | a :: r => if a > 127 then 0 :: a :: r else a :: r
theorem OU : ∀ s : List Int, vB (Gq [0] s) = vB s
 | [] => rfl
 | c :: r => by
  unfold Gq;rw [List.dropWhile_cons];split
  ·rename_i h;have hc : (0 : Int) = c := by simpa [zO] using h
   rw [<- hc, N_];exact OU r
  ·rfl
theorem QH {s : List Int} (h : Bs s) : Bs (Gq [0] s) := fun x hx => h x ((List.dropWhile_suffix _).subset hx)
theorem OT (s : List Int) : (Gq [0] s).length <= s.length := (List.dropWhile_suffix _).length_le
theorem PL {s : List Int} {a : Int} {r : List Int} (e : Gq [0] s = a :: r) : a ≠ 0 := by
 intro h;subst h;have : ∀ l : List Int, Gq [0] l ≠ 0 :: r := fun l => by
  induction l with
  | nil => simp [Gq]
  | cons c l ih =>
   unfold Gq at *;rw [List.dropWhile_cons];split
   ·exact ih
   ·rename_i hc;intro q;obtain ⟨rfl, _⟩ := List.cons.inj q;simp [zO] at hc
 exact this s e
theorem Ob {n : List Int} : (NI n).length = 32 := by unfold NI leB; rw [List.length_reverse, NQ]
theorem Qz {n : List Int} : Bs (NI n) := fun x hx => QY x (List.mem_reverse.1 hx)
theorem Ot {n : List Int} (hn : Nm n) : canon (Oi n) /\ Bs (Oi n) /\ vB (Oi n) = nV n /\ ((Oi n).length <= 32 \/ ((Oi n).length <= 33 /\ ∃ r, Oi n = 0 :: r)) := by
 have hv : vB (Gq [0] (NI n)) = nV n := by rw [OU]; unfold vB NI; rw [List.reverse_reverse]; exact Qn hn
 have hB := QH (Qz (n := n));have hl := OT (NI n);rw [Ob] at hl;unfold Oi;cases e : Gq [0] (NI n) with
 | nil =>
  rw [e] at hv;refine ⟨⟨by decide, fun _ => trivial⟩, fun x hx => ?_, ?_, .inl (by simp)⟩
  ·simp at hx; subst hx; unfold B8; omega
  ·exact hv
 | cons a r =>
  rw [e] at hv hB hl;have h0 := PL e;have ha := hB a (.head _);unfold B8 at ha;simp only;split
  ·rename_i h;refine ⟨⟨by decide, fun _ => ?_⟩, fun x hx => ?_, ?_, .inr ⟨by rw [List.length_cons]; omega, _, rfl⟩⟩
   ·show 128 <= a; omega
   ·rcases List.mem_cons.1 hx with rfl | hx
    ·unfold B8; omega
    ·exact hB x hx
   ·rw [N_]; exact hv
  ·rename_i h;exact ⟨⟨by omega, fun q => (h0 q).elim⟩, hB, hv, .inl hl⟩
theorem int_eq {n : List Int} : MW.run .lim (n, ()) = some (Oi n) := by
 have ht : MQ.run .lim (NI n, [0], ()) = some (Gq [0] (NI n)) := by
  show CB (NI n, [0], ()) = _;unfold CB;have : qN (NI n, [0], ()) = true := by
   unfold qN;rw [Bool.and_eq_true, Bool.and_eq_true];refine ⟨⟨by rfl, by rfl⟩, ?_⟩;show Nat.ble (NI n).length _ = true;rw [Ob]; rfl
  rw [this]; rfl
 have hl := OT (NI n);rw [Ob] at hl;simp only [MW.run, QA, Option.bind_some, ht];unfold Oi;cases e : Gq [0] (NI n) with
 | nil => rfl
 | cons a r =>
  rw [e] at hl;rw [List.length_cons] at hl;have e0 : rd 0 (a :: r) 0 = a := rfl;have hne : ¬ a :: r = ([] : List Int) := by simp
  have hlen : ([0] : List Int).length + (a :: r).length <= maxStr := by show _ <= 9223372036854775807; rw [List.length_cons, List.length_cons]; simp; omega
  simp only [MF hne, Bool.not_false, Bool.not_true, Bool.false_or, e0, MR (show (0 : Int) <= 0 by decide) (show (0 : Int) < ((a :: r).length : Int) by rw [List.length_cons]; omega), cond_true];by_cases h : a > 127
  ·rw [cond_pos (Mc h), cond_pos (Mc hlen), if_pos h]; rfl
  ·rw [cond_neg (MF h), if_neg h]
theorem Qg {s : List Int} {a : Int} {r : List Int} (e : s = a :: r) (hl : s.length < 4611686018427387904) : strings_TrimPrefix.run .lim (s, [0], ()) = some (if a = 0 then r else s) := by
 subst e;have h1 : Me.run .lim (a :: r, [0], ()) = some (decide (a = 0)) := by
  have hc : cut (a :: r) 0 (([0] : List Int).length : Int) = [a] := rfl;have hg : ((a :: r).length : Int) >= (([0] : List Int).length : Int) := by rw [List.length_cons, List.length_cons, List.length_nil]; omega
  simp only [Me.run, Na (show (a :: r).length < 9223372036854775808 by omega), cond_true, hc, Mc hg, Bool.not_true, Bool.false_or, Bool.true_and];rw [show vG (([0] : List Int).length : Int) = true from rfl, cond_true, cond_true, Nu (by decide) (by decide) hg, cond_true];congr 1;by_cases h : a = 0
  ·subst h; rfl
  ·rw [MF h, MF (by simpa using h)]
 have hc : cut (a :: r) (([0] : List Int).length : Int) ((a :: r).length : Int) = r := Oz (a := 1) rfl;simp only [strings_TrimPrefix.run, MG.run, h1, Option.bind_some, hc];by_cases h : a = 0
 ·rw [cond_pos (Mc h), if_pos h, show vG (([0] : List Int).length : Int) = true from rfl, cond_true, Nu (by decide) (by rw [List.length_cons, List.length_cons, List.length_nil]; omega) (Int.le_refl _), cond_true, Option.bind_some]
 ·rw [cond_neg (MF h), if_neg h, Option.bind_some]
theorem Q9 : ∀ k, Ew ([0] : List Int) k = List.replicate k 0
 | 0 => rfl
 | k + 1 => by show [0] ++ Ew [0] k = _; rw [Q9 k]; rfl
theorem Qh (r : List Int) : ∀ k, vB (List.replicate k 0 ++ r) = vB r
 | 0 => rfl
 | k + 1 => by rw [List.replicate_succ, List.cons_append, N_, Qh r k]
theorem toInt_eq {s : List Int} (hs : Bs s) (hl : s.length < 4611686018427387904) : ∃ x e, MP.run .lim (s, ()) = some (x, e, ()) /\ (e = 0 -> canon s /\ Nm x /\ nV x = vB s) /\ (canon s -> (s.length <= 32 \/ (s.length <= 33 /\ ∃ r, s = 0 :: r)) -> e = 0) := by
 match s, hs, hl with
 | [], _, _ => exact ⟨_, 11, rfl, fun h => (by cases h), fun h => h.elim⟩
 | a :: r, hs, hl =>
  have ha := hs a (.head _);unfold B8 at ha;have e0 : rd 0 (a :: r) 0 = a := rfl;have hlen : ((a :: r).length : Int) = (r.length : Int) + 1 := by rw [List.length_cons]; omega
  have hne : ¬ a :: r = ([] : List Int) := by simp
  simp only [MP.run, e0, MF hne, cond_false, Qg (s := a :: r) rfl hl, Option.bind_some, Na (show (a :: r).length < 9223372036854775808 by omega), Bool.or_true, cond_true,
   MR (show (0 : Int) <= 0 by decide) (show (0 : Int) < ((a :: r).length : Int) by omega)]
  have hin : (!((!(decide (a > 127))) && ((decide (((a :: r).length : Int) > 1)) && (decide (a = 0)))) || inB 1 ((a :: r).length : Int)) = true := by
   by_cases h : ((a :: r).length : Int) > 1
   ·rw [MR (show (0 : Int) <= 1 by decide) h, Bool.or_true]
   ·rw [MF h]; simp
  rw [cond_pos hin];by_cases hc : canon (a :: r)
  ·have hbad : ((decide (a > 127)) || (((decide (((a :: r).length : Int) > 1)) && (decide (a = 0))) && (decide ((rd 0 (a :: r) 1) < 128)))) = false := by
    have h1 := hc.1;rw [MF (show ¬ a > 127 by omega), Bool.false_or];by_cases h0 : a = 0
    ·match r, hc with
     | [], _ => rfl
     | b :: r', hc =>
      have h2 : 128 <= b := hc.2 h0;rw [MF (show ¬ rd 0 (a :: b :: r') 1 < 128 by show ¬ b < 128; omega), Bool.and_false]
    ·rw [MF h0, Bool.and_false, Bool.false_and]
   rw [cond_neg hbad];have hv : vB (if a = 0 then r else a :: r) = vB (a :: r) := by
    split
    ·rename_i h; rw [h, N_]
    ·rfl
   have hB : Bs (if a = 0 then r else a :: r) := by
    split
    ·exact fun x hx => hs x (.tail _ hx)
    ·exact hs
   have Uc : (if a = 0 then r else a :: r).length <= (a :: r).length := by
    split
    ·rw [List.length_cons]; omega
    ·exact Nat.le_refl _
   have RF : ((a :: r).length <= 32 \/ ((a :: r).length <= 33 /\ ∃ r', a :: r = 0 :: r')) -> (if a = 0 then r else a :: r).length <= 32 := by
    rintro (h | ⟨h, r', e⟩)
    ·omega
    ·obtain ⟨rfl, _⟩ := List.cons.inj e;rw [if_pos rfl]; rw [List.length_cons] at h; omega
   generalize (if a = 0 then r else a :: r) = q at *;simp only [Na (show q.length < 9223372036854775808 by omega), cond_true];by_cases h32 : q.length <= 32
   ·rw [cond_neg (MF (show ¬ (q.length : Int) > 32 by omega))];have er : strings_Repeat.run .lim ([0], IntKind.i64.wrap (32 - (q.length : Int)), ()) = some (List.replicate (32 - q.length) 0) := by
     rw [wrap64 (by omega) (by omega), <- Q9];show KC ([0], 32 - (q.length : Int), ()) = _;unfold KC;have : (decide (0 <= (32 - (q.length : Int))) && Nat.ble (1 * (32 - (q.length : Int)).toNat) 140737488355328) = true := by
      rw [Mc (by omega)];exact Nat.ble_eq_true_of_le (by omega)
     show (bif (decide (0 <= (32 - (q.length : Int))) && Nat.ble (1 * (32 - (q.length : Int)).toNat) 140737488355328) then some (Ew [0] (32 - (q.length : Int)).toNat) else none) = _;rw [this, cond_true, show (32 - (q.length : Int)).toNat = 32 - q.length by omega]
    have QW : (List.replicate (32 - q.length) (0 : Int) ++ q).length = 32 := by rw [List.length_append, List.length_replicate]; omega
    have hB2 : Bs (List.replicate (32 - q.length) (0 : Int) ++ q) := fun x hx => by
     rcases List.mem_append.1 hx with hx | hx
     ·rw [List.eq_of_mem_replicate hx]; unfold B8; omega
     ·exact hB x hx
    simp only [er, Option.bind_some];rw [cond_pos (Mc (show _ <= maxStr by rw [List.length_replicate]; show _ <= 9223372036854775807; omega)), O1 QW hB2];have hrl : (List.replicate (32 - q.length) (0 : Int) ++ q).reverse.length = 32 := by rw [List.length_reverse, QW]
    refine ⟨_, _, rfl, fun _ => ⟨hc, Qj hrl fun x hx => hB2 x (List.mem_reverse.1 hx), ?_⟩, fun _ _ => rfl⟩;rw [PN hrl];show vB (List.replicate (32 - q.length) (0 : Int) ++ q) = _;rw [Qh, hv]
   ·rw [cond_pos (Mc (show (q.length : Int) > 32 by omega))];exact ⟨_, 13, rfl, fun h => (by cases h), fun _ h => (h32 (RF h)).elim⟩
  ·have hbad : ((decide (a > 127)) || (((decide (((a :: r).length : Int) > 1)) && (decide (a = 0))) && (decide ((rd 0 (a :: r) 1) < 128)))) = true := by
    by_cases h1 : a > 127
    ·rw [Mc h1]; rfl
    ·rw [MF h1, Bool.false_or];by_cases h0 : a = 0
     ·match r, hc, hlen with
      | [], hc, _ => exact (hc ⟨by omega, fun _ => trivial⟩).elim
      | b :: r', hc, hlen =>
       have h2 : ¬ 128 <= b := fun q => hc ⟨by omega, fun _ => q⟩
       rw [Mc h0, Mc (show ((a :: b :: r').length : Int) > 1 by rw [List.length_cons, List.length_cons]; omega), Mc (show rd 0 (a :: b :: r') 1 < 128 by show b < 128; omega)]; rfl
     ·exact (hc ⟨by omega, fun q => (h0 q).elim⟩).elim
   rw [cond_pos hbad];exact ⟨_, 10, rfl, fun h => (by cases h), fun h => (hc h).elim⟩
theorem P5 {n : List Int} (hn : Nm n) : MP.run .lim (Oi n, ()) = some (n, 0, ()) := by
 obtain ⟨h1, h2, h3, h4⟩ := Ot hn;obtain ⟨x, e, hr, ha, hb⟩ := toInt_eq h2 (by rcases h4 with h | ⟨h, _⟩ <;> omega);obtain rfl := hb h1 h4;obtain ⟨_, k1, k2⟩ := ha rfl;rw [hr, QE k1 hn (by rw [k2, h3])]
theorem O6 {s x : List Int} (hs : Bs s) (hl : s.length < 4611686018427387904) (h : MP.run .lim (s, ()) = some (x, 0, ())) : Oi x = s := by
 obtain ⟨y, e, hr, ha, _⟩ := toInt_eq hs hl;rw [h] at hr;obtain ⟨rfl, rfl⟩ : x = y /\ 0 = e := by simpa using hr
 obtain ⟨k0, k1, k2⟩ := ha rfl;obtain ⟨h1, h2, h3, _⟩ := Ot k1;exact Pz h1 h2 k0 hs (by rw [h3, k2])
end Go.AM
end
section
namespace Go.AM
theorem Rh {a b : List Int} (ha : Nm a) (hb : Nm b) : ((List.range 4).all fun i => decide ((rd 0 a (i : Int)) = (rd 0 b (i : Int)))) = decide (a = b) := by
 rw [Bool.eq_iff_iff, decide_eq_true_eq, List.all_eq_true];constructor
 ·intro h;refine Qc (d := 0) (by rw [ha.len, hb.len]) fun k hk => ?_
  have := h k (List.mem_range.2 (by rw [ha.len] at hk; exact hk));simpa using this
 ·rintro rfl x _
  simp
theorem Q5 {n : List Int} (h : Ty.ok (.arr 4 (.int .u64)) n) : Nm n := by
 obtain ⟨h1, h2⟩ := h;refine ⟨h1, fun x hx => ?_⟩;have := h2 x hx;have h3 : FY .u64 x := this;unfold FY at h3;have e1 : (IntKind.min .u64) = 0 := by decide
 have e2 : (IntKind.max .u64) = 18446744073709551615 := by decide
 rw [e1, e2] at h3;exact ⟨h3.1, by omega⟩
end Go.AM
end
section
namespace Go.AM
abbrev NW (x : Int) : Prop := 0 <= x /\ x < 4294967296
def more : Nat -> Int -> List Int
 | 0, _ => []
 | k + 1, n => if n > 0 then (n % 128 + 128) :: more k (n / 128) else []
def NV (n : Int) : List Int := (more 5 (n / 128)).reverse ++ [n % 128]
def NC (l : List Int) : List Int := l.flatMap NV
theorem PO {n : Int} (h : NW n) : II .u32 n 127 = n % 128 := by
 obtain ⟨x, rfl⟩ := Int.eq_ofNat_of_zero_le h.1;have hx : x < 4294967296 := by have := h.2; omega
 show IntKind.u32.wrap ((BitVec.ofInt 32 (x : Int) &&& BitVec.ofInt 32 127).toNat : Int) = _;rw [BitVec.toNat_and, BitVec.toNat_ofInt, BitVec.toNat_ofInt, Nb];have e1 : ((x : Int) % ((2 ^ 32 : Nat) : Int)).toNat = x := by omega
 have e2 : ((127 : Int) % ((2 ^ 32 : Nat) : Int)).toNat = 2 ^ 7 - 1 := by decide
 rw [e1, e2, Nat.and_two_pow_sub_one_eq_mod];omega
theorem Q7 {n : Int} (h : 0 <= n /\ n < 128) : Kv .u32 n 128 = n + 128 := by
 obtain ⟨x, rfl⟩ := Int.eq_ofNat_of_zero_le h.1;have hx : x < 128 := by have := h.2; omega
 show IntKind.u32.wrap ((BitVec.ofInt 32 (x : Int) ||| BitVec.ofInt 32 128).toNat : Int) = _;have e : (128 : Int) = ((2 ^ 7 * 1 : Nat) : Int) := by decide
 rw [e, BitVec.or_comm, O5 (by decide) (by omega), O4 (by omega), Nb];omega
theorem Q_ (n : Int) : IK .u32 n 7 = n / 128 := OA n 7 7 .u32 (by decide)
theorem Qa : ∀ (k : Nat) (n : Int) (t : List Int) (t1 t2 : Int) (m m1 : List Int), NW n -> n < 128 ^ k -> m1.length + k < 1000 ->
  L8.l0 .lim (n, t, t1, t2, m, m1, ()) = some (t, t1, t2, m, m1 ++ more k n, ())
 | k, n, t, t1, t2, m, m1, hn, hk, hl => by
  rw [L8.q0];simp only [L8.b0];by_cases h : n > 0
  ·match k, hk, hl with
   | 0, hk, _ => exfalso; have : n < 1 := hk; omega
   | k + 1, hk, hl =>
    have hb : IntKind.u8.wrap (Kv .u32 (II .u32 n 127) 128) = n % 128 + 128 := by rw [PO hn, Q7 (by omega), Oo]; omega
    have hlen : m1.length + ([n % 128 + 128] : List Int).length < 70368744177664 := by rw [List.length_cons, List.length_nil]; omega
    rw [Int.pow_succ] at hk;rw [cond_pos (Mc h), hb, cond_pos (Mc hlen), Q_, Qa k (n / 128) t t1 t2 m (m1 ++ [n % 128 + 128]) ⟨by have := hn.1; omega, by have := hn.2; omega⟩ (by omega) (by rw [List.length_append, List.length_cons, List.length_nil]; omega)];show _ = some (t, t1, t2, m, m1 ++ more (k + 1) n, ());rw [show more (k + 1) n = (n % 128 + 128) :: more k (n / 128) from by show (if n > 0 then _ else _) = _; rw [if_pos h], List.append_assoc];rfl
  ·rw [cond_neg (MF h)];have : more k n = [] := by cases k <;> simp [more, h]
   rw [this, List.append_nil]
theorem QF {t : List Int} {t1 t2 : Int} {s m : List Int} (hs : s.length < 4611686018427387904) : L8.l1 .lim (0, IntKind.i64.wrap ((s.length : Int) - 1), t, t1, t2, s, m, ()) = some (t, t1, t2, m, s.reverse, ()) :=
 OI (l := fun i j s => L8.l1 .lim (i, j, t, t1, t2, s, m, ())) (e := fun s => some (t, t1, t2, m, s, ())) (fun i j s => by rw [L8.q1]; rfl) hs
theorem Oj : ∀ k n, (more k n).length <= k
 | 0, _ => by simp [more]
 | k + 1, n => by
  unfold more;split
  ·rw [List.length_cons]; have := Oj k (n / 128); omega
  ·simp
theorem OE (n : Int) : (NV n).length <= 6 := by unfold NV; rw [List.length_append, List.length_reverse, List.length_cons, List.length_nil]; have := Oj 5 (n / 128); omega
theorem Ol : ∀ l : List Int, (NC l).length <= 6 * l.length
 | [] => by simp [NC]
 | n :: l => by
  have := Ol l; have := OE n;unfold NC at *;rw [List.flatMap_cons, List.length_append, List.length_cons]; omega
theorem QG {t : List Int} (ht : ∀ x ∈ t, NW x) (hl : t.length <= 16) {m : List Int} (hm : m.length = 1) : L8.l2 .lim (t, (t.length : Int), 0, m, ()) = some (m ++ NC t, ()) := by
 have e := NK (f := L8.l2 .lim) (fun k => (t, (t.length : Int), (k : Int), m ++ NC (t.take k), ())) (n := t.length) (fun k hk => by
  have hx := ht (rd 0 t (k : Int)) (NG (by omega) (by omega));have hB := Ol (t.take k);rw [List.length_take] at hB;rw [L8.q2];simp only [L8.b2];have hd : IntKind.u8.wrap (II .u32 (rd 0 t (k : Int)) 127) = rd 0 t (k : Int) % 128 := by rw [PO hx, Oo]; omega
  have h2 : NW (rd 0 t (k : Int) / 128) := ⟨by have := hx.1; omega, by have := hx.2; omega⟩;rw [cond_pos (Mc (show (k : Int) < (t.length : Int) by omega)), MR (by omega) (show (k : Int) < (t.length : Int) by omega), cond_true, hd, Q_,
   Qa 5 _ _ _ _ _ _ h2 (by have := hx.2; show _ < (34359738368 : Int); omega) (by rw [List.length_cons, List.length_nil]; omega), Option.bind_some]
  have Ub := Oj 5 (rd 0 t (k : Int) / 128);have hlen : ([rd 0 t (k : Int) % 128] ++ more 5 (rd 0 t (k : Int) / 128)).length < 4611686018427387904 := by rw [List.length_append, List.length_cons, List.length_nil]; omega
  simp only;rw [Na (by omega), cond_true, QF hlen, Option.bind_some];simp only;have hrev : ([rd 0 t (k : Int) % 128] ++ more 5 (rd 0 t (k : Int) / 128)).reverse = NV (rd 0 t (k : Int)) := by unfold NV; rw [List.reverse_append]; rfl
  have hel := OE (rd 0 t (k : Int));rw [hrev, cond_pos (Mc (by rw [List.length_append]; omega)), QJ k (by omega), List.append_assoc];congr 3;rw [N8 (d := (0 : Int)) hk];unfold NC;rw [List.flatMap_append];simp)
 have e0 : L8.l2 .lim (t, (t.length : Int), 0, m, ()) = L8.l2 .lim (t, (t.length : Int), (t.length : Int), m ++ NC t, ()) := by
  have := e;rw [List.take_length] at this;simp only [List.take_zero] at this;rw [show m ++ NC [] = m from List.append_nil m] at this;exact this
 rw [e0, L8.q2];simp only [L8.b2];rw [cond_neg (MF (by omega))]
def Pv (l : List Int) : Prop := 2 <= l.length /\ l.length <= 16 /\ rd 0 l 0 <= 2 /\ rd 0 l 1 <= 47 /\ (rd 0 l 0 < 2 -> rd 0 l 1 <= 39)
theorem P_ {l : List Int} (hl : ∀ x ∈ l, NW x) (hll : l.length < 4611686018427387904) : (Pv l /\ L8.run .lim (l, ()) = some ((40 * rd 0 l 0 + rd 0 l 1) :: NC (l.drop 2), 0, ())) \/ (¬ Pv l /\ ∃ e, e ≠ 0 /\ L8.run .lim (l, ()) = some ([], e, ())) := by
 simp only [L8.run, Na (show l.length < 9223372036854775808 by omega), cond_true];by_cases h1 : l.length < 2
 ·rw [cond_pos (Mc (by omega))];exact .inr ⟨fun h => by have := h.1; omega, 11, by decide, rfl⟩
 ·rw [cond_neg (MF (by omega))];by_cases h2 : l.length > 16
  ·rw [cond_pos (Mc (by omega))];exact .inr ⟨fun h => by have := h.2.1; omega, 18, by decide, rfl⟩
  ·rw [cond_neg (MF (by omega))];have i0 : inB 0 (l.length : Int) = true := MR (by decide) (by omega);have i1 : inB 1 (l.length : Int) = true := MR (by decide) (by omega);simp only [i0, i1, Bool.or_true, cond_true];have u0 := hl (rd 0 l 0) (NG (by decide) (by omega));have u1 := hl (rd 0 l 1) (NG (by decide) (by omega));by_cases h3 : rd 0 l 0 <= 2 /\ rd 0 l 1 <= 47 /\ (rd 0 l 0 < 2 -> rd 0 l 1 <= 39)
   ·have hb : (((decide ((rd 0 l 0) > 2)) || (decide ((rd 0 l 1) > 47))) || ((decide ((rd 0 l 0) < 2)) && (decide ((rd 0 l 1) > 39)))) = false := by
     rw [Bool.or_eq_false_iff, Bool.or_eq_false_iff, Bool.and_eq_false_iff, decide_eq_false_iff_not, decide_eq_false_iff_not, decide_eq_false_iff_not, decide_eq_false_iff_not];omega
    refine .inl ⟨⟨by omega, by omega, h3⟩, ?_⟩;have hc : cut l 2 (l.length : Int) = l.drop 2 := Oz (a := 2) rfl;have hdl : (l.drop 2).length = l.length - 2 := List.length_drop;have hw : IntKind.u8.wrap (IntKind.u32.wrap (IntKind.u32.wrap (40 * rd 0 l 0) + rd 0 l 1)) = 40 * rd 0 l 0 + rd 0 l 1 := by rw [Nb, Nb, Oo]; have := u0.1; have := u1.1; omega
    rw [cond_neg hb, Nu (by decide) (by omega) (Int.le_refl _), cond_true, hc, Na (show (l.drop 2).length < 9223372036854775808 by omega), cond_true, hw, QG (fun x hx => hl x (List.mem_of_mem_drop hx)) (by omega) rfl, Option.bind_some];rfl
   ·have hb : (((decide ((rd 0 l 0) > 2)) || (decide ((rd 0 l 1) > 47))) || ((decide ((rd 0 l 0) < 2)) && (decide ((rd 0 l 1) > 39)))) = true := by
     rw [Bool.or_eq_true, Bool.or_eq_true, Bool.and_eq_true, decide_eq_true_eq, decide_eq_true_eq, decide_eq_true_eq, decide_eq_true_eq];omega
    rw [cond_pos hb];exact .inr ⟨fun h => h3 h.2.2, 13, by decide, rfl⟩
theorem Rz {n : Int} (h : 0 <= n /\ n < 4294967296) {c : Int} (hc : B8 c) : Kv .u64 (IJ .u64 n 7) (IntKind.u64.wrap (II .u8 c 127)) = n * 128 + c % 128 := by
 obtain ⟨x, rfl⟩ := Int.eq_ofNat_of_zero_le h.1;obtain ⟨y, rfl, hy⟩ := PS hc;have hx : x < 4294967296 := by have := h.2; omega
 have ea : II .u8 (y : Int) 127 = ((y % 128 : Nat) : Int) := by
  show IntKind.u8.wrap ((BitVec.ofInt 8 (y : Int) &&& BitVec.ofInt 8 127).toNat : Int) = _;rw [BitVec.toNat_and, BitVec.toNat_ofInt, BitVec.toNat_ofInt, Oo];have e1 : ((y : Int) % ((2 ^ 8 : Nat) : Int)).toNat = y := by omega
  have e2 : ((127 : Int) % ((2 ^ 8 : Nat) : Int)).toNat = 2 ^ 7 - 1 := by decide
  rw [e1, e2, Nat.and_two_pow_sub_one_eq_mod];omega
 have es : IJ .u64 (x : Int) 7 = ((2 ^ 7 * x : Nat) : Int) := by
  show IntKind.u64.wrap ((x : Int) * 2 ^ 7) = _;rw [NH]; omega
 have ew : IntKind.u64.wrap ((y % 128 : Nat) : Int) = ((y % 128 : Nat) : Int) := by rw [NH]; omega
 rw [ea, es, ew];show IntKind.u64.wrap ((BitVec.ofInt 64 ((2 ^ 7 * x : Nat) : Int) ||| BitVec.ofInt 64 ((y % 128 : Nat) : Int)).toNat : Int) = _;rw [O5 (by omega) (by omega), O4 (by omega), NH];omega
def Nq (n : Int) (o : Bool) (acc : List Int) : List Int -> List Int × Int
 | [] => if o then ([], 11) else (acc, 0)
 | c :: r =>
  if o = false /\ c = 128 then ([], 10) else if n * 128 + c % 128 >= 4294967296 then ([], 13) else if c > 127 then Nq (n * 128 + c % 128) true acc r else
  if acc.length = 16 then ([], 18) else Nq 0 false (acc ++ [n * 128 + c % 128]) r
def pick : (Int × Unit) ⊕ (Int × Unit) ⊕ (Int × Unit) ⊕ (Bool × List Int × Unit) -> List Int × Int
 | .inl (t, ()) => ([], t)
 | .inr (.inl (t, ())) => ([], t)
 | .inr (.inr (.inl (t, ()))) => ([], t)
 | .inr (.inr (.inr (o, m, ()))) => if o then ([], 11) else (m, 0)
theorem OY {s : List Int} (hs : Bs s) (hl : s.length < 4611686018427387904) : ∀ (r : List Int) (i : Nat) (n : Int) (o : Bool) (acc : List Int), s.drop i = r -> i + r.length = s.length -> NW n -> acc.length <= 16 ->
  ∃ x, MJ.l0 .lim (n, o, (s.length : Int), (i : Int), acc, s, ()) = some x /\ pick x = Nq n o acc r
 | [], i, n, o, acc, hd, hi, hn, ha => by
  rw [MJ.q0];simp only [MJ.b0];rw [cond_neg (MF (by rw [List.length_nil] at hi; omega))];exact ⟨_, rfl, rfl⟩
 | c :: r, i, n, o, acc, hd, hi, hn, ha => by
  rw [List.length_cons] at hi;have hc : rd 0 s (i : Int) = c := by
   have : s[i]? = some c := by
    have := congrArg (·[0]?) hd;simpa using this
   rw [NU (by omega)];rw [List.getElem?_eq_getElem (by omega)] at this;exact Option.some.inj this
  have hcB := hs (rd 0 s (i : Int)) (NG (by omega) (by omega));rw [hc] at hcB;have hd' : s.drop (i + 1) = r := by rw [show i + 1 = i + 1 from rfl, <- List.drop_drop, hd]; rfl
  rw [MJ.q0];simp only [MJ.b0, hc, Rz hn hcB];have hcB' := hcB;unfold B8 at hcB';have hn' := hn;unfold NW at hn';rw [cond_pos (Mc (show (i : Int) < (s.length : Int) by omega)), MR (by omega) (by omega), cond_true];unfold Nq;by_cases h1 : o = false /\ c = 128
  ·rw [if_pos h1, cond_pos (by rw [h1.1, Mc h1.2]; rfl)];exact ⟨_, rfl, rfl⟩
  ·rw [if_neg h1, cond_neg (by cases o <;> simp_all)];rw [show IK .u64 (n * 128 + c % 128) 32 = (n * 128 + c % 128) / 4294967296 from OA _ 32 32 .u64 (by decide)];by_cases h2 : n * 128 + c % 128 >= 4294967296
   ·rw [if_pos h2, cond_pos (Mc (by omega))];exact ⟨_, rfl, rfl⟩
   ·rw [if_neg h2, cond_neg (MF (by omega))];have hn2 : NW (n * 128 + c % 128) := ⟨by omega, by omega⟩;by_cases h3 : c > 127
    ·rw [if_pos h3, cond_pos (Mc h3), Mc h3, QJ i (by omega)];exact OY hs hl r (i + 1) _ true acc hd' (by omega) hn2 ha
    ·rw [if_neg h3, cond_neg (MF h3), Na (by omega), cond_true];by_cases h4 : acc.length = 16
     ·rw [if_pos h4, cond_pos (Mc (by omega))];exact ⟨_, rfl, rfl⟩
     ·have hw : IntKind.u32.wrap (n * 128 + c % 128) = n * 128 + c % 128 := by rw [Nb]; omega
      rw [if_neg h4, cond_neg (MF (by omega)), hw, cond_pos (Mc (by rw [List.length_cons, List.length_nil]; omega)), MF h3, QJ i (by omega)];exact OY hs hl r (i + 1) 0 false _ hd' (by omega) ⟨by decide, by decide⟩ (by rw [List.length_append, List.length_cons, List.length_nil]; omega)
def Ny : List Int -> List Int × Int
 | [] => ([], 11)
 | c :: r => if c > 127 then ([], 10) else Nq 0 false [min (c / 40) 2, c - 40 * min (c / 40) 2] r
theorem OM {s : List Int} (hs : Bs s) (hl : s.length < 4611686018427387904) : MJ.run .lim (s, ()) = some ((Ny s).1, (Ny s).2, ()) := by
 match s, hs, hl with
 | [], _, _ => rfl
 | c :: r, hs, hl =>
  have hc := hs c (.head _);unfold B8 at hc;have hne : ¬ c :: r = ([] : List Int) := by simp
  have e0 : rd 0 (c :: r) 0 = c := rfl;have i0 : inB 0 ((c :: r).length : Int) = true := MR (by decide) (by rw [List.length_cons]; omega);unfold Ny;simp only [MJ.run, MF hne, cond_false, i0, cond_true, e0];by_cases h : c > 127
  ·rw [cond_pos (Mc h), if_pos h]
  ·have hcut : cut (c :: r) 1 ((c :: r).length : Int) = r := Oz (a := 1) rfl;rw [List.length_cons] at hl;have e1 : mn (IntKind.u32.wrap ((IntKind.u32.wrap c).tdiv 40)) 2 = min (c / 40) 2 := by rw [Pq, Nb, Nb, show c % 4294967296 = c by omega, Int.tdiv_eq_ediv_of_nonneg hc.1]; omega
   have e2 : IntKind.u32.wrap (IntKind.u32.wrap c - IntKind.u32.wrap (40 * min (c / 40) 2)) = c - 40 * min (c / 40) 2 := by rw [Nb, Nb, Nb]; omega
   rw [cond_neg (MF h), if_neg h, Nu (by decide) (by rw [List.length_cons]; omega) (Int.le_refl _), cond_true, hcut, Na (by omega), cond_true, e1, e2];obtain ⟨x, hx, hp⟩ := OY (s := r) (fun y hy => hs y (.tail _ hy)) (by omega) r 0 0 false [min (c / 40) 2, c - 40 * min (c / 40) 2] rfl (by omega) ⟨by decide, by decide⟩ (by simp);have hx : MJ.l0 .lim (0, false, (r.length : Int), 0, [min (c / 40) 2, c - 40 * min (c / 40) 2], r, ()) = some x := hx;rw [hx, Option.bind_some, <- hp];rcases x with ⟨t, ⟨⟩⟩ | ⟨t, ⟨⟩⟩ | ⟨t, ⟨⟩⟩ | ⟨o, m, ⟨⟩⟩
   ·rfl
   ·rfl
   ·rfl
   ·cases o <;> rfl
theorem ND {k : Nat} {n : Int} (h : n > 0) : more (k + 1) n = (n % 128 + 128) :: more k (n / 128) := by
 show (if n > 0 then _ else _) = _;rw [if_pos h]
theorem MV {k : Nat} : more k 0 = [] := by cases k <;> simp [more]
theorem Ou : ∀ (k : Nat) (n : Int), 0 <= n -> n < 128 ^ k -> more (k + 1) n = more k n
 | 0, n, h0, h => by
  have h : n < 1 := h;rw [show n = 0 by omega, MV, MV]
 | k + 1, n, h0, h => by
  by_cases hp : n > 0
  ·rw [Int.pow_succ] at h;rw [ND hp, ND hp, Ou k (n / 128) (by omega) (by omega)]
  ·rw [show n = 0 by omega, MV, MV]
theorem OC : ∀ (k : Nat) (n : Int) (acc rest : List Int), NW n -> n < 128 ^ k -> Nq 0 false acc ((more k n).reverse ++ rest) = Nq n (decide (n > 0)) acc rest
 | 0, n, acc, rest, hn, h => by
  have h : n < 1 := h;have := hn.1;obtain rfl : n = 0 := by omega
  rfl
 | k + 1, n, acc, rest, hn, h => by
  have hn' := hn;unfold NW at hn';by_cases hp : n > 0
  ·rw [Int.pow_succ] at h;rw [ND hp, List.reverse_cons, List.append_assoc, OC k (n / 128) acc _ ⟨by omega, by omega⟩ (by omega), Mc hp];show Nq (n / 128) (decide (n / 128 > 0)) acc ((n % 128 + 128) :: rest) = _
   conv => lhs; unfold Nq
   rw [if_neg (by
    rintro ⟨h1, h2⟩
    rw [decide_eq_false_iff_not] at h1;omega), show n / 128 * 128 + (n % 128 + 128) % 128 = n by omega, if_neg (by omega), if_pos (by omega)]
  ·rw [show n = 0 by omega, MV]; rfl
theorem Qm {n : Int} (hn : NW n) {acc : List Int} (ha : acc.length < 16) (rest : List Int) : Nq 0 false acc (NV n ++ rest) = Nq 0 false (acc ++ [n]) rest := by
 have hn' := hn;unfold NW at hn';unfold NV;rw [List.append_assoc, OC 5 (n / 128) acc _ ⟨by omega, by omega⟩ (by show _ < (34359738368 : Int); omega)];show Nq (n / 128) (decide (n / 128 > 0)) acc ((n % 128) :: rest) = _
 conv => lhs; unfold Nq
 rw [if_neg (by rintro ⟨_, h2⟩; omega), show n / 128 * 128 + n % 128 % 128 = n by omega, if_neg (by omega), if_neg (by omega), if_neg (by omega)]
theorem Pj : ∀ (t acc : List Int), (∀ x ∈ t, NW x) -> acc.length + t.length <= 16 -> Nq 0 false acc (NC t) = (acc ++ t, 0)
 | [], acc, _, _ => by rw [List.append_nil]; rfl
 | n :: t, acc, ht, hl => by
  rw [List.length_cons] at hl;show Nq 0 false acc (NV n ++ NC t) = _;rw [Qm (ht n (.head _)) (by omega), Pj t (acc ++ [n]) (fun x hx => ht x (.tail _ hx)) (by rw [List.length_append, List.length_cons, List.length_nil]; omega), List.append_assoc];rfl
theorem PG {l : List Int} (hl : ∀ x ∈ l, NW x) (ho : Pv l) : Ny ((40 * rd 0 l 0 + rd 0 l 1) :: NC (l.drop 2)) = (l, 0) := by
 match l, hl, ho with
 | a :: b :: t, hl, ho =>
  have ha := hl a (.head _);have hb := hl b (.tail _ (.head _));unfold NW at ha hb;obtain ⟨h1, h2, h3, h4, h5⟩ := ho;have h3 : a <= 2 := h3;have h4 : b <= 47 := h4;have h5 : a < 2 -> b <= 39 := h5;rw [List.length_cons, List.length_cons] at h2;show (if 40 * a + b > 127 then _ else Nq 0 false [min ((40 * a + b) / 40) 2, 40 * a + b - 40 * min ((40 * a + b) / 40) 2] (NC t)) = _;have e : min ((40 * a + b) / 40) 2 = a := by omega
  rw [if_neg (by omega), e, show 40 * a + b - 40 * a = b by omega, Pj t _ (fun x hx => hl x (.tail _ (.tail _ hx))) (by rw [List.length_cons, List.length_cons, List.length_nil]; omega)];rfl
 | [], _, ho => have := ho.1; simp at this
 | [_], _, ho => have := ho.1; simp at this
theorem Og : ∀ (r : List Int) (n : Int) (o : Bool) (acc m : List Int), Bs r -> NW n -> (o = false -> n = 0) -> (o = true -> n > 0) -> acc.length <= 16 -> Nq n o acc r = (m, 0) ->
  ∃ t, m = acc ++ t /\ (more 5 n).reverse ++ r = NC t /\ (∀ x ∈ t, NW x) /\ m.length <= 16
 | [], n, o, acc, m, _, hn, h0, h1, ha, h => by
  unfold Nq at h;cases o with
  | true => simp at h
  | false =>
   obtain rfl : acc = m := by simpa using h
   rw [h0 rfl, MV];exact ⟨[], (List.append_nil _).symm, rfl, fun x hx => (by cases hx), ha⟩
 | c :: r, n, o, acc, m, hb, hn, h0, h1, ha, h => by
  have hc := hb c (.head _);have hb' : Bs r := fun x hx => hb x (.tail _ hx)
  have hn' := hn;unfold B8 at hc;unfold NW at hn';unfold Nq at h;split at h
  ·simp at h
  ·rename_i g1;split at h
   ·simp at h
   ·rename_i g2;have hn2 : NW (n * 128 + c % 128) := ⟨by omega, by omega⟩;have hf : more 5 n = more 4 n := Ou 4 n hn'.1 (by show n < (268435456 : Int); omega);split at h
    ·rename_i g3;have hpos : n * 128 + c % 128 > 0 := by
      cases o with
      | true => have := h1 rfl; omega
      | false =>
       have : c ≠ 128 := fun q => g1 ⟨rfl, q⟩
       omega
     obtain ⟨t, e1, e2, e3, e4⟩ := Og r _ true acc m hb' hn2 (fun q => by cases q) (fun _ => hpos) ha h;refine ⟨t, e1, ?_, e3, e4⟩;rw [<- e2, ND hpos, show (n * 128 + c % 128) % 128 + 128 = c by omega, show (n * 128 + c % 128) / 128 = n by omega, hf, List.reverse_cons, List.append_assoc];rfl
    ·rename_i g3;split at h
     ·simp at h
     ·rename_i g4;obtain ⟨t, e1, e2, e3, e4⟩ := Og r 0 false _ m hb' ⟨by decide, by decide⟩ (fun _ => rfl) (fun q => by cases q) (by rw [List.length_append, List.length_cons, List.length_nil]; omega) h;refine ⟨(n * 128 + c % 128) :: t, by rw [e1, List.append_assoc]; rfl, ?_, fun x hx => ?_, e4⟩
      ·show _ = NV (n * 128 + c % 128) ++ NC t;rw [<- e2, MV];unfold NV;rw [show (n * 128 + c % 128) / 128 = n by omega, show (n * 128 + c % 128) % 128 = c by omega, List.append_assoc];rfl
      ·rcases List.mem_cons.1 hx with rfl | hx
       ·exact hn2
       ·exact e3 x hx
theorem P8 {s m : List Int} (hs : Bs s) (h : Ny s = (m, 0)) : Pv m /\ (∀ x ∈ m, NW x) /\ (40 * rd 0 m 0 + rd 0 m 1) :: NC (m.drop 2) = s := by
 match s, hs, h with
 | [], _, h => simp [Ny] at h
 | c :: r, hs, h =>
  have hc := hs c (.head _);unfold B8 at hc;have h : (if c > 127 then ([], 10) else Nq 0 false [min (c / 40) 2, c - 40 * min (c / 40) 2] r) = (m, 0) := h;split at h
  ·simp at h
  ·rename_i h1;obtain ⟨t, e1, e2, e3, e4⟩ := Og r 0 false _ m (fun x hx => hs x (.tail _ hx)) ⟨by decide, by decide⟩ (fun _ => rfl) (fun q => by cases q) (by simp) h;subst e1;have e2 : r = NC t := by rw [<- e2, MV]; rfl
   refine ⟨⟨by simp, e4, ?_, ?_, ?_⟩, fun x hx => ?_, ?_⟩
   ·show min (c / 40) 2 <= 2; omega
   ·show c - 40 * min (c / 40) 2 <= 47; omega
   ·show min (c / 40) 2 < 2 -> c - 40 * min (c / 40) 2 <= 39; omega
   ·rcases List.mem_append.1 hx with hx | hx
    ·simp only [List.mem_cons, List.not_mem_nil, or_false] at hx;unfold NW;rcases hx with rfl | rfl <;> omega
    ·exact e3 x hx
   ·show (40 * min (c / 40) 2 + (c - 40 * min (c / 40) 2)) :: NC t = _;rw [e2, show 40 * min (c / 40) 2 + (c - 40 * min (c / 40) 2) = c by omega]
end Go.AM
end
section
namespace Go.AM
def digits : List Int := [48, 49, 50, 51, 52, 53, 54, 55, 56, 57]
theorem OG (b : Int) : zO digits b = Ja b := by
 rw [Bool.eq_iff_iff];unfold zO digits Ja;simp only [List.any_cons, List.any_nil, Bool.or_false, Bool.or_eq_true, decide_eq_true_eq, Bool.and_eq_true];omega
theorem drop_nil {p : Int -> Bool} : ∀ {l : List Int}, (l.dropWhile p = [] ↔ ∀ b ∈ l, p b = true)
 | [] => by simp
 | c :: l => by
  have := drop_nil (p := p) (l := l);rw [List.dropWhile_cons];split
  ·rename_i h;rw [this];constructor
   ·intro k b hb;rcases List.mem_cons.1 hb with rfl | hb
    ·exact h
    ·exact k b hb
   ·exact fun k b hb => k b (.tail _ hb)
  ·rename_i h;constructor
   ·intro q; cases q
   ·intro k; exact (h (k c (.head _))).elim
theorem PK {c l : List Int} : Gp c l = [] ↔ ∀ b ∈ l, zO c b = true := by
 unfold Gp Gq;constructor
 ·intro h;rw [drop_nil] at h;have h2 : l.reverse.dropWhile (zO c) = [] := by
   cases e : l.reverse.dropWhile (zO c) with
   | nil => rfl
   | cons a r =>
    exfalso
    have h1 := h a (List.mem_reverse.2 (by rw [e]; exact .head _));have h3 := List.head?_dropWhile_not (zO c) l.reverse;rw [e] at h3;simp only [List.head?_cons] at h3;rw [h1] at h3;cases h3
  rw [drop_nil] at h2;exact fun b hb => h2 b (List.mem_reverse.2 hb)
 ·intro h;have h2 : l.reverse.dropWhile (zO c) = [] := drop_nil.2 fun b hb => h b (List.mem_reverse.1 hb)
  rw [h2]; rfl
def two (s : List Int) (k : Nat) : Int := 10 * (rd 0 s ((2 * k : Nat) : Int) - 48) + (rd 0 s ((2 * k + 1 : Nat) : Int) - 48)
theorem Rw {s : List Int} {k : Nat} (h : 2 * k + 2 <= s.length) : cut s ((2 * k : Nat) : Int) ((2 * k + 2 : Nat) : Int) = [rd 0 s ((2 * k : Nat) : Int), rd 0 s ((2 * k + 1 : Nat) : Int)] := by
 rw [PW (a := 2 * k) (b := 2 * k + 2) rfl rfl, N8 (d := (0 : Int)) (xs := s) (k := 2 * k + 1) (by omega), N8 (d := (0 : Int)) (xs := s) (k := 2 * k) (by omega)];have hl : (s.take (2 * k)).length = 2 * k := by rw [List.length_take]; omega
 rw [List.append_assoc, List.drop_append_of_le_length (by omega), List.drop_eq_nil_of_le (by omega)];rfl
def Pm (s : List Int) : Prop := ∀ k : Nat, k < 14 -> 48 <= rd 0 s (k : Int) /\ rd 0 s (k : Int) <= 57
theorem Qx {s : List Int} : cut s 0 14 = s.take 14 := by
 have := PW (s := s) (a := 0) (b := 14) (i := 0) (j := 14) rfl rfl
 rwa [List.drop_zero] at this
theorem Pn {s : List Int} (hs : s.length = 15) : Gp digits (cut s 0 14) = [] ↔ Pm s := by
 rw [PK, Qx];constructor
 ·intro h k hk;have hm : rd 0 s (k : Int) ∈ s.take 14 := by
   rw [<- Qq (n := 14) hk];exact NG (by omega) (by rw [List.length_take]; omega)
  have := h _ hm;rw [OG] at this;unfold Ja at this;simpa using this
 ·intro h b hb;obtain ⟨k, hk, rfl⟩ := List.getElem_of_mem hb;rw [List.length_take] at hk;have := h k (by omega);rw [OG];unfold Ja;rw [List.getElem_take, <- NU (d := (0 : Int)) (by omega)];simpa using this
theorem Qs {s : List Int} (hs : s.length = 15) (hd : Pm s) : L_.l0 .lim (s, 0, List.replicate 7 0, ()) = some (tab 7 (two s), ()) := by
 have e := NK (f := L_.l0 .lim) (fun k => (s, (k : Int), Om 7 k (two s), ())) (n := 7) (fun k hk => by
  rw [L_.q0];have e1 : IntKind.i64.wrap (2 * (k : Int)) = ((2 * k : Nat) : Int) := by rw [wrap64 (by omega) (by omega)]; omega
  have e2 : IntKind.i64.wrap (((2 * k : Nat) : Int) + 2) = ((2 * k + 2 : Nat) : Int) := by rw [wrap64 (by omega) (by omega)]; omega
  have d1 := hd (2 * k) (by omega);have d2 := hd (2 * k + 1) (by omega);have ea : strconv_Atoi.run .lim ([rd 0 s ((2 * k : Nat) : Int), rd 0 s ((2 * k + 1 : Nat) : Int)], ()) = some (two s k, (), ()) := by
   show ET ([rd 0 s ((2 * k : Nat) : Int), rd 0 s ((2 * k + 1 : Nat) : Int)], ()) = _;show (bif Ja (rd 0 s ((2 * k : Nat) : Int)) && Ja (rd 0 s ((2 * k + 1 : Nat) : Int)) then _ else _) = _;rw [show Ja (rd 0 s ((2 * k : Nat) : Int)) = true by unfold Ja; rw [Mc d1.1, Mc d1.2]; rfl, show Ja (rd 0 s ((2 * k + 1 : Nat) : Int)) = true by unfold Ja; rw [Mc d2.1, Mc d2.2]; rfl];rfl
  simp only [L_.b0, e1, e2];rw [cond_pos (Mc (show (k : Int) < 7 by omega)), Nu (by omega) (by omega) (by omega), cond_true, Rw (by omega), ea, Option.bind_some];simp only;rw [MR (by omega) (show (k : Int) < 7 by omega), cond_true, Int.toNat_natCast, OL rfl, QJ k (by omega)])
 have e0 : L_.l0 .lim (s, 0, List.replicate 7 0, ()) = L_.l0 .lim (s, 7, Om 7 7 (two s), ()) := by
  have := e;rw [Ov] at this;exact this
 rw [e0, L_.q0];simp only [L_.b0];rw [cond_neg (MF (by decide)), OJ]
theorem QD {s : List Int} (h : s.length = 15) : s = [rd 0 s 0, rd 0 s 1, rd 0 s 2, rd 0 s 3, rd 0 s 4, rd 0 s 5, rd 0 s 6, rd 0 s 7, rd 0 s 8, rd 0 s 9, rd 0 s 10, rd 0 s 11, rd 0 s 12, rd 0 s 13, rd 0 s 14] := by
 match s, h with
 | [a0, a1, a2, a3, a4, a5, a6, a7, a8, a9, a10, a11, a12, QK, T_], _ => rfl
structure Tm (s : List Int) (n y m d c : Int) : Prop where
 D : Dt n y m d
 y9 : y <= 9999
 n0 : 0 <= n
 c0 : 0 <= c
 c1 : c < 86400
 e : s = Np y m d c
theorem NJ {s : List Int} (hd : Pm s) {k : Nat} (hk : k < 7) : 0 <= two s k /\ two s k < 100 := by
 have d1 := hd (2 * k) (by omega);have d2 := hd (2 * k + 1) (by omega);unfold two;omega
theorem Ox {s : List Int} (hl : s.length < 4611686018427387904) : ∃ x e, L_.run .lim (s, ()) = some (x, e, ()) /\ (e = 0 -> ∃ n y m d c, Tm s n y m d c /\ x = -62135596800 + n * 86400 + c) /\ (∀ n y m d c, Tm s n y m d c -> x = -62135596800 + n * 86400 + c /\ e = 0) := by
 simp only [L_.run, Na (show s.length < 9223372036854775808 by omega), cond_true];by_cases h15 : s.length = 15 /\ rd 0 s 14 = 90
 ·obtain ⟨h1, h2⟩ := h15;have hcut : rZ 0 14 (s.length : Int) = true := Nu (by decide) (by decide) (by omega);have hin : inB 14 (s.length : Int) = true := MR (by decide) (by omega);have f1 : ((!(decide ((s.length : Int) = 15))) || (!(decide ((rd 0 s 14) = 90)))) = false := by rw [Mc (show (s.length : Int) = 15 by omega), Mc h2]; rfl
  have ht : MX.run .lim ((cut s 0 14), digits, ()) = some (Gp digits (cut s 0 14)) := by
   show trimF (cut s 0 14, digits, ()) = _;unfold trimF;have : qN (cut s 0 14, digits, ()) = true := by
    unfold qN;rw [Bool.and_eq_true, Bool.and_eq_true];refine ⟨⟨by rfl, by rfl⟩, Nat.ble_eq_true_of_le ?_⟩;show (cut s 0 14).length <= _;rw [Qx, List.length_take]; omega
   rw [this]; rfl
  have ht : MX.run .lim ((cut s 0 14), ([48, 49, 50, 51, 52, 53, 54, 55, 56, 57] : List Int), ()) = some (Gp digits (cut s 0 14)) := ht;simp only [hcut, hin, Bool.or_true, cond_true, f1, Bool.not_false, ht, Option.bind_some, Bool.false_or];by_cases hd : Pm s
  ·rw [cond_neg (by rw [Mc ((Pn h1).2 hd)]; rfl), Qs h1 hd, Option.bind_some];have g0 := NJ hd (k := 0) (by decide); have g1 := NJ hd (k := 1) (by decide); have g2 := NJ hd (k := 2) (by decide); have g3 := NJ hd (k := 3) (by decide);have g4 := NJ hd (k := 4) (by decide); have g5 := NJ hd (k := 5) (by decide); have g6 := NJ hd (k := 6) (by decide);have r0 : rd 0 (tab 7 (two s)) 0 = two s 0 := Nh (k := 0) (by decide);have r1 : rd 0 (tab 7 (two s)) 1 = two s 1 := Nh (k := 1) (by decide);have r2 : rd 0 (tab 7 (two s)) 2 = two s 2 := Nh (k := 2) (by decide);have r3 : rd 0 (tab 7 (two s)) 3 = two s 3 := Nh (k := 3) (by decide);have r4 : rd 0 (tab 7 (two s)) 4 = two s 4 := Nh (k := 4) (by decide);have r5 : rd 0 (tab 7 (two s)) 5 = two s 5 := Nh (k := 5) (by decide);have r6 : rd 0 (tab 7 (two s)) 6 = two s 6 := Nh (k := 6) (by decide);simp only [r0, r1, r2, r3, r4, r5, r6]
   -- the text by its numbers
   have htx : s = Np (100 * two s 0 + two s 1) (two s 2) (two s 3) (two s 4 * 3600 + two s 5 * 60 + two s 6) \/ ¬ (two s 4 <= 23 /\ two s 5 <= 59 /\ two s 6 <= 59) := by
    by_cases hr : two s 4 <= 23 /\ two s 5 <= 59 /\ two s 6 <= 59
    ·left
     have a : ∀ k : Nat, k < 14 -> 48 <= rd 0 s (k : Int) /\ rd 0 s (k : Int) <= 57 := hd;have a0 := a 0 (by decide); have a1 := a 1 (by decide); have a2 := a 2 (by decide); have a3 := a 3 (by decide); have a4 := a 4 (by decide); have a5 := a 5 (by decide); have a6 := a 6 (by decide);have a7 := a 7 (by decide); have a8 := a 8 (by decide); have a9 := a 9 (by decide); have a10 := a 10 (by decide); have a11 := a 11 (by decide); have a12 := a 12 (by decide); have QK := a 13 (by decide);have e3 : (two s 4 * 3600 + two s 5 * 60 + two s 6) / 3600 = two s 4 := by omega
     have e4 : (two s 4 * 3600 + two s 5 * 60 + two s 6) / 60 % 60 = two s 5 := by omega
     have e5 : (two s 4 * 3600 + two s 5 * 60 + two s 6) % 60 = two s 6 := by omega
     unfold Np;rw [e3, e4, e5]
     conv => lhs; rw [QD h1]
     show _ = [48 + (100 * two s 0 + two s 1) / 1000, 48 + (100 * two s 0 + two s 1) / 100 % 10, 48 + (100 * two s 0 + two s 1) / 10 % 10, 48 + (100 * two s 0 + two s 1) % 10, 48 + two s 2 / 10, 48 + two s 2 % 10, 48 + two s 3 / 10, 48 + two s 3 % 10,
      48 + two s 4 / 10, 48 + two s 4 % 10, 48 + two s 5 / 10, 48 + two s 5 % 10, 48 + two s 6 / 10, 48 + two s 6 % 10, 90]
     simp only [List.cons.injEq, and_true];clear g0 g1 g2 g3 g4 g5 g6 e3 e4 e5 hr r0 r1 r2 r3 r4 r5 r6;have t0 : two s 0 = 10 * (rd 0 s ((0 : Nat) : Int) - 48) + (rd 0 s ((1 : Nat) : Int) - 48) := rfl;have t1 : two s 1 = 10 * (rd 0 s ((2 : Nat) : Int) - 48) + (rd 0 s ((3 : Nat) : Int) - 48) := rfl;have t2 : two s 2 = 10 * (rd 0 s ((4 : Nat) : Int) - 48) + (rd 0 s ((5 : Nat) : Int) - 48) := rfl;have t3 : two s 3 = 10 * (rd 0 s ((6 : Nat) : Int) - 48) + (rd 0 s ((7 : Nat) : Int) - 48) := rfl;have t4 : two s 4 = 10 * (rd 0 s ((8 : Nat) : Int) - 48) + (rd 0 s ((9 : Nat) : Int) - 48) := rfl;have t5 : two s 5 = 10 * (rd 0 s ((10 : Nat) : Int) - 48) + (rd 0 s ((11 : Nat) : Int) - 48) := rfl;have t6 : two s 6 = 10 * (rd 0 s ((12 : Nat) : Int) - 48) + (rd 0 s ((13 : Nat) : Int) - 48) := rfl;rw [t0, t1, t2, t3, t4, t5, t6];clear t0 t1 t2 t3 t4 t5 t6;refine ⟨?_, ?_, ?_, ?_, ?_, ?_, ?_, ?_, ?_, ?_, ?_, ?_, ?_, ?_, h2⟩
     ·clear a4 a5 a6 a7 a8 a9 a10 a11 a12 QK; show rd 0 s ((0 : Nat) : Int) = _; omega
     ·clear a4 a5 a6 a7 a8 a9 a10 a11 a12 QK; show rd 0 s ((1 : Nat) : Int) = _; omega
     ·clear a4 a5 a6 a7 a8 a9 a10 a11 a12 QK; show rd 0 s ((2 : Nat) : Int) = _; omega
     ·clear a4 a5 a6 a7 a8 a9 a10 a11 a12 QK; show rd 0 s ((3 : Nat) : Int) = _; omega
     ·show rd 0 s ((4 : Nat) : Int) = _; omega
     ·show rd 0 s ((5 : Nat) : Int) = _; omega
     ·show rd 0 s ((6 : Nat) : Int) = _; omega
     ·show rd 0 s ((7 : Nat) : Int) = _; omega
     ·show rd 0 s ((8 : Nat) : Int) = _; omega
     ·show rd 0 s ((9 : Nat) : Int) = _; omega
     ·show rd 0 s ((10 : Nat) : Int) = _; omega
     ·show rd 0 s ((11 : Nat) : Int) = _; omega
     ·show rd 0 s ((12 : Nat) : Int) = _; omega
     ·show rd 0 s ((13 : Nat) : Int) = _; omega
    ·exact .inr hr
   -- what a text of a time has
   have Rx : ∀ n y m d c, Tm s n y m d c -> 100 * two s 0 + two s 1 = y /\ two s 2 = m /\ two s 3 = d /\ two s 4 = c / 3600 /\ two s 5 = c / 60 % 60 /\ two s 6 = c % 60 := by
    intro n y m d c T;have y1 := T.D.y1; have y2 := T.y9; have m1 := T.D.m1; have m2 := T.D.m2; have d1 := T.D.d1; have c0 := T.c0; have c1 := T.c1;have q : ∀ k : Nat, rd 0 s (k : Int) = rd 0 (Np y m d c) (k : Int) := fun k => by rw [<- T.e]
    have w : ∀ k : Nat, two s k = two (Np y m d c) k := fun k => by unfold two; rw [q, q]
    have w0 : two (Np y m d c) 0 = 10 * (48 + y / 1000 - 48) + (48 + y / 100 % 10 - 48) := rfl;have w1 : two (Np y m d c) 1 = 10 * (48 + y / 10 % 10 - 48) + (48 + y % 10 - 48) := rfl;have w2 : two (Np y m d c) 2 = 10 * (48 + m / 10 - 48) + (48 + m % 10 - 48) := rfl;have w3 : two (Np y m d c) 3 = 10 * (48 + d / 10 - 48) + (48 + d % 10 - 48) := rfl;have w4 : two (Np y m d c) 4 = 10 * (48 + c / 3600 / 10 - 48) + (48 + c / 3600 % 10 - 48) := rfl;have w5 : two (Np y m d c) 5 = 10 * (48 + c / 60 % 60 / 10 - 48) + (48 + c / 60 % 60 % 10 - 48) := rfl;have w6 : two (Np y m d c) 6 = 10 * (48 + c % 60 / 10 - 48) + (48 + c % 60 % 10 - 48) := rfl;rw [w 0, w 1, w 2, w 3, w 4, w 5, w 6, w0, w1, w2, w3, w4, w5, w6];omega
   generalize two s 0 = z0 at *; generalize two s 1 = z1 at *; generalize two s 2 = z2 at *; generalize two s 3 = z3 at *; generalize two s 4 = z4 at *; generalize two s 5 = z5 at *; generalize two s 6 = z6 at *;have ey : IntKind.i64.wrap (IntKind.i64.wrap (100 * z0) + z1) = 100 * z0 + z1 := by rw [wrap64 (n := 100 * z0) (by omega) (by omega), wrap64 (by omega) (by omega)]
   simp only [ey];have hy : 0 <= 100 * z0 + z1 /\ 100 * z0 + z1 <= 9999 := by omega
   generalize 100 * z0 + z1 = y at *;by_cases hr : y < 1 \/ z2 < 1 \/ z2 > 12 \/ z3 < 1 \/ z4 > 23 \/ z5 > 59 \/ z6 > 59
   ·rw [cond_pos (by simp only [Bool.or_eq_true, decide_eq_true_eq]; omega)];refine ⟨0, 10, rfl, fun h => (by cases h), fun n y' m d c T => ?_⟩
    exfalso
    have := Rx n y' m d c T;have := T.D.y1; have := T.D.m1; have := T.D.m2; have := T.D.d1; have := T.c0; have := T.c1;omega
   ·rw [cond_neg (by simp only [Bool.or_eq_false_iff, decide_eq_false_iff_not]; omega)];rw [number_eq (by omega) (by omega) (by omega) (by omega) (by omega) (by omega), Option.bind_some];have hn : 0 <= dN y z2 z3 /\ dN y z2 z3 <= 3652300 := by
     have a1 := PX (y := y) (m := z2) (d := z3);have a2 := NS (y := y) (a := 1) (b := z2) (by omega) (by omega) (by omega);have a3 := NY (a := 1) (b := y) (by omega);have a4 := PZ (y := y) (m := z2) (by omega) (by omega);have a5 := NY (a := y + 1) (b := 10000) (by omega);have a6 : dN y z2 1 <= dN (y + 1) 1 1 := by
      have := NS (y := y) (a := z2) (b := 12) (by omega) (by omega) (by omega);rw [OX]; omega
     have := y0; have := RD;omega
    obtain ⟨y', m', d', e, D⟩ := O9 hn.1 hn.2;rw [e, Option.bind_some];simp only;by_cases hq : y' = y /\ m' = z2 /\ d' = z3
    ·obtain ⟨rfl, rfl, rfl⟩ := hq;rw [cond_neg (by rw [Mc rfl, Mc rfl, Mc rfl]; rfl)];generalize dN y' m' d' = n at *;have ev : IntKind.i64.wrap (IntKind.i64.wrap ((-62135596800) + IntKind.i64.wrap (n * 86400)) + IntKind.i64.wrap (IntKind.i64.wrap (IntKind.i64.wrap (z4 * 3600) + IntKind.i64.wrap (z5 * 60)) + z6)) = -62135596800 + n * 86400 + (z4 * 3600 + z5 * 60 + z6) := by rw [wrap64 (n := n * 86400) (by omega) (by omega), wrap64 (n := -62135596800 + n * 86400) (by omega) (by omega), wrap64 (n := z4 * 3600) (by omega) (by omega), wrap64 (n := z5 * 60) (by omega) (by omega), wrap64 (n := z4 * 3600 + z5 * 60) (by omega) (by omega), wrap64 (n := z4 * 3600 + z5 * 60 + z6) (by omega) (by omega), wrap64 (by omega) (by omega)]
     rw [ev];have hT : Tm s n y' m' d' (z4 * 3600 + z5 * 60 + z6) := by
      rcases htx with htx | htx
      ·exact ⟨D, by omega, hn.1, by omega, by omega, htx⟩
      ·omega
     refine ⟨_, 0, rfl, fun _ => ⟨n, y', m', d', _, hT, rfl⟩, fun n2 y2 m2 d2 c2 T => ⟨?_, rfl⟩⟩;obtain ⟨rfl, rfl, rfl, k4, k5, k6⟩ := Rx n2 y2 m2 d2 c2 T;have : n = n2 := by rw [<- D.num, <- T.D.num]
     have := T.c0;omega
    ·rw [cond_pos (by
      simp only [Bool.or_eq_true, Bool.not_eq_true', decide_eq_false_iff_not];omega)]
     refine ⟨0, 10, rfl, fun h => (by cases h), fun n2 y2 m2 d2 c2 T => ?_⟩
     exfalso
     obtain ⟨rfl, rfl, rfl, _, _, _⟩ := Rx n2 y2 m2 d2 c2 T;have hD := T.D;rw [<- T.D.num] at hD;have := D.eq hD;exact hq ⟨this.1, this.2.1, this.2.2⟩
  ·rw [cond_pos (by rw [MF fun q => hd ((Pn h1).1 q)]; rfl)];refine ⟨0, 10, rfl, fun h => (by cases h), fun n y m d c T => ?_⟩
   exfalso
   apply hd
   have y1 := T.D.y1; have y2 := T.y9; have m1 := T.D.m1; have m2 := T.D.m2; have d1 := T.D.d1; have c0 := T.c0; have c1 := T.c1;rw [T.e];intro k hk
   match k, hk with
   | 0, _ => show 48 <= 48 + y / 1000 /\ 48 + y / 1000 <= 57; omega
   | 1, _ => show 48 <= 48 + y / 100 % 10 /\ 48 + y / 100 % 10 <= 57; omega
   | 2, _ => show 48 <= 48 + y / 10 % 10 /\ 48 + y / 10 % 10 <= 57; omega
   | 3, _ => show 48 <= 48 + y % 10 /\ 48 + y % 10 <= 57; omega
   | 4, _ => show 48 <= 48 + m / 10 /\ 48 + m / 10 <= 57; omega
   | 5, _ => show 48 <= 48 + m % 10 /\ 48 + m % 10 <= 57; omega
   | 6, _ => show 48 <= 48 + d / 10 /\ 48 + d / 10 <= 57; omega
   | 7, _ => show 48 <= 48 + d % 10 /\ 48 + d % 10 <= 57; omega
   | 8, _ => show 48 <= 48 + c / 3600 / 10 /\ 48 + c / 3600 / 10 <= 57; omega
   | 9, _ => show 48 <= 48 + c / 3600 % 10 /\ 48 + c / 3600 % 10 <= 57; omega
   | 10, _ => show 48 <= 48 + c / 60 % 60 / 10 /\ 48 + c / 60 % 60 / 10 <= 57; omega
   | 11, _ => show 48 <= 48 + c / 60 % 60 % 10 /\ 48 + c / 60 % 60 % 10 <= 57; omega
   | 12, _ => show 48 <= 48 + c % 60 / 10 /\ 48 + c % 60 / 10 <= 57; omega
   | 13, _ => show 48 <= 48 + c % 60 % 10 /\ 48 + c % 60 % 10 <= 57; omega
 ·have f1 : ((!(decide ((s.length : Int) = 15))) || (!(decide ((rd 0 s 14) = 90)))) = true := by
   by_cases h1 : s.length = 15
   ·rw [MF (show ¬ rd 0 s 14 = 90 from fun q => h15 ⟨h1, q⟩), Bool.not_false, Bool.or_true]
   ·rw [MF (show ¬ (s.length : Int) = 15 by omega)]; rfl
  have f2 : ((!(!(!(decide ((s.length : Int) = 15))))) || (inB 14 (s.length : Int))) = true := by
   by_cases h1 : s.length = 15
   ·rw [MR (by decide) (by omega), Bool.or_true]
   ·rw [MF (show ¬ (s.length : Int) = 15 by omega)]; rfl
  simp only [f2, f1, cond_true, Bool.not_true, Bool.not_false, Bool.true_or, cond_false, Option.bind_some];refine ⟨0, 10, rfl, fun h => (by cases h), fun n y m d c T => ?_⟩;exact (h15 ⟨by rw [T.e]; rfl, by rw [T.e]; rfl⟩).elim
end Go.AM
end
section
namespace Go.AM
theorem Qi {l : List Int} (hl : l.length < 4611686018427387904) : L9.run .lim (l, l, ()) = some true := by
 have e := NK (f := L9.l0 .lim) (fun k => (l, l, (l.length : Int), (k : Int), ())) (n := l.length) (fun k hk => by
  rw [L9.q0];simp only [L9.b0];rw [cond_pos (Mc (by omega)), MR (by omega) (by omega), cond_true, cond_true, cond_neg (by rfl), QJ k (by omega)])
 have e0 : L9.l0 .lim (l, l, (l.length : Int), 0, ()) = L9.l0 .lim (l, l, (l.length : Int), (l.length : Int), ()) := e;simp only [L9.run, Na (show l.length < 9223372036854775808 by omega), cond_true, e0];rw [cond_neg (by rfl), L9.q0];simp only [L9.b0];rw [cond_neg (MF (by omega))]; rfl
theorem P6 : ∀ k n, Bs (more k n)
 | 0, _ => fun x hx => by simp [more] at hx
 | k + 1, n => fun x hx => by
  by_cases h : n > 0
  ·rw [ND h] at hx;rcases List.mem_cons.1 hx with rfl | hx
   ·unfold B8; omega
   ·exact P6 k _ x hx
  ·have : more (k + 1) n = [] := by show (if n > 0 then _ else _) = _; rw [if_neg h]
   rw [this] at hx; cases hx
theorem QB (n : Int) : Bs (NV n) := fun x hx => by
 unfold NV at hx;rcases List.mem_append.1 hx with hx | hx
 ·exact P6 _ _ x (List.mem_reverse.1 hx)
 ·simp only [List.mem_singleton] at hx;subst hx; unfold B8; omega
theorem P9 {l : List Int} (hl : ∀ x ∈ l, NW x) (hll : l.length < 4611686018427387904) : (∃ o, L8.run .lim (l, ()) = some (o, 0, ()) /\ MJ.run .lim (o, ()) = some (l, 0, ())) \/ ∃ e, e ≠ 0 /\ L8.run .lim (l, ()) = some ([], e, ()) := by
 rcases P_ hl hll with ⟨ho, h⟩ | ⟨_, h⟩
 ·refine .inl ⟨_, h, ?_⟩;have hlen := Ol (l.drop 2);rw [List.length_drop] at hlen;have h16 := ho.2.1;rw [OM, PG hl ho]
  ·intro x hx;rcases List.mem_cons.1 hx with rfl | hx
   ·obtain ⟨h1, _, h3, h4, h5⟩ := ho;have u0 := (hl (rd 0 l 0) (NG (by decide) (by omega))).1;have u1 := (hl (rd 0 l 1) (NG (by decide) (by omega))).1;unfold B8; omega
   ·obtain ⟨n, _, hx⟩ := List.mem_flatMap.1 hx;exact QB n x hx
  ·rw [List.length_cons]; omega
 ·exact .inr h
theorem O8 {s : List Int} (hs : Bs s) (hl : s.length < 4611686018427387904) : (∃ m, MJ.run .lim (s, ()) = some (m, 0, ()) /\ L8.run .lim (m, ()) = some (s, 0, ())) \/ ∃ m e, e ≠ 0 /\ MJ.run .lim (s, ()) = some (m, e, ()) := by
 rw [OM hs hl];by_cases h : (Ny s).2 = 0
 ·left
  obtain ⟨h1, h2, h3⟩ := P8 (m := (Ny s).1) hs (by rw [<- h]);refine ⟨(Ny s).1, by rw [h], ?_⟩;rcases P_ h2 (by have := h1.2.1; omega) with ⟨_, k⟩ | ⟨k, _⟩
  ·rw [k, h3]
  ·exact (k h1).elim
 ·exact .inr ⟨_, _, h, rfl⟩
theorem PI (t : Int) : (∃ s, MC.run .lim (t, ()) = some (s, 0, ()) /\ L_.run .lim (s, ()) = some (t, 0, ())) \/ ∃ e, e ≠ 0 /\ MC.run .lim (t, ()) = some ([], e, ()) := by
 by_cases h : t < -62135596800 \/ t > 253402300799
 ·exact .inr ⟨13, by decide, Qu h⟩
 ·obtain ⟨y, m, d, D, hy, e⟩ := Py (t := t) (by omega) (by omega);refine .inl ⟨_, e, ?_⟩;obtain ⟨x, er, hr, _, hb⟩ := Ox (s := Np y m d ((t + 62135596800) % 86400)) (by show 15 < _; decide);obtain ⟨k1, k2⟩ := hb ((t + 62135596800) / 86400) y m d ((t + 62135596800) % 86400) ⟨D, hy, by omega, by omega, by omega, rfl⟩;rw [hr, k2, k1];congr 2;omega
theorem OQ {s : List Int} (hl : s.length < 4611686018427387904) : (∃ t, L_.run .lim (s, ()) = some (t, 0, ()) /\ MC.run .lim (t, ()) = some (s, 0, ())) \/ ∃ t e, e ≠ 0 /\ L_.run .lim (s, ()) = some (t, e, ()) := by
 obtain ⟨x, e, hr, ha, _⟩ := Ox hl;by_cases h : e = 0
 ·left
  obtain ⟨n, y, m, d, c, T, hx⟩ := ha h;refine ⟨x, by rw [hr, h], ?_⟩;have hn : n <= 3652058 := by
   have := T.D.hi;have := PZ (y := y) T.D.m1 T.D.m2;have := NY (a := y + 1) (b := 10000) (by have := T.y9; omega);have := RD;omega
  have n0 := T.n0; have c0 := T.c0; have c1 := T.c1;obtain ⟨y', m', d', D, _, er⟩ := Py (t := x) (by omega) (by omega);rw [show (x + 62135596800) / 86400 = n by omega] at D;obtain ⟨rfl, rfl, rfl⟩ := T.D.eq D;rw [er, show (x + 62135596800) % 86400 = c by omega, <- T.e]
 ·exact .inr ⟨x, e, h, hr⟩
theorem O7 {s : List Int} (hs : Bs s) (hl : s.length < 4611686018427387904) : (∃ x, MP.run .lim (s, ()) = some (x, 0, ()) /\ MW.run .lim (x, ()) = some s) \/ ∃ x e, e ≠ 0 /\ MP.run .lim (s, ()) = some (x, e, ()) := by
 obtain ⟨x, e, hr, _, _⟩ := toInt_eq hs hl;by_cases h : e = 0
 ·subst h;exact .inl ⟨x, hr, by rw [int_eq, O6 hs hl hr]⟩
 ·exact .inr ⟨x, e, h, hr⟩
theorem OW {n l : List Int} {t : Int} {s : List Int} (hn : Nm n) (hl : ∀ x ∈ l, NW x) (hll : l.length < 4611686018427387904) (hs : Bs s) (hsl : s.length < 4611686018427387904) : MK.run .lim (n, l, t, s, ()) = some true := by
 have hall : ((List.range 4).all fun _ => true) = true := rfl;have d0 : decide ((0 : Int) = 0) = true := rfl;have dx : ∀ {e : Int}, e ≠ 0 -> decide (e = 0) = false := fun h => MF h
 have dr : ∀ (a : List Int), decide (a = a) = true := fun a => Mc rfl
 have di : ∀ (a : Int), decide (a = a) = true := fun a => Mc rfl
 simp only [MK.run, int_eq, Option.bind_some, P5 hn, Rh hn hn, dr, d0, Bool.not_true, Bool.or_self, cond_false];rcases O7 hs hsl with ⟨x, i1, i2⟩ | ⟨x, ie, i0, i1⟩
 all_goals rcases P9 hl hll with ⟨o, o1, o2⟩ | ⟨oe, o0, o1⟩
 all_goals rcases O8 hs hsl with ⟨m, m1, m2⟩ | ⟨m, me, m0, m1⟩
 all_goals rcases PI t with ⟨z, z1, z2⟩ | ⟨ze, z0, z1⟩
 all_goals rcases OQ hsl with ⟨w, w1, w2⟩ | ⟨w, we, w0, w1⟩
 all_goals first | rw [int_eq] at i2 | skip
 all_goals simp only [*, Qi hll, Option.bind_some, Bool.not_true, Bool.not_false, Bool.or_self, cond_true, cond_false, Bool.and_false, Bool.false_and, Bool.and_self, Bool.and_true, decide_true, decide_false, Ql, ne_eq, not_true_eq_false, not_false_eq_true]
theorem Ry {l : List Int} (h : Ty.ok (.lst (.int .u32)) l) : ∀ x ∈ l, NW x := fun x hx => by
 have h3 : FY .u32 x := h.2 x hx;unfold FY at h3;have e1 : (IntKind.min .u32) = 0 := by decide
 have e2 : (IntKind.max .u32) = 4294967295 := by decide
 rw [e1, e2] at h3;exact ⟨h3.1, by omega⟩
theorem OD : ∀ x, oks [.one (.arr 4 (.int .u64)), .one (.lst (.int .u32)), .one (.int .i64), .one .str] x -> MK.run .lim x = some true := by
 intro x h
 match x with
 | (n, l, t, s, ()) =>
  obtain ⟨h1, h2, _, h4, _⟩ := h;exact OW (Q5 h1) (Ry h2) (Nat.lt_of_le_of_lt h2.1 (by decide)) h4.2 (Nat.lt_of_le_of_lt h4.1 (by decide))
end Go.AM
end

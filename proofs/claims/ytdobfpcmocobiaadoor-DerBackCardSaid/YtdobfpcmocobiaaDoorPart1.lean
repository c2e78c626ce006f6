import Derived.Test.YtdobfpcmocobiaaDoorAm4
import Derived.Test.YtdobfpcmocobiaaDoorProg
import Derived.Shelf.Strings.Repeat

/-! The functions that the laws of this seat reach, as plain functions, and what these answer; no condition. -/
set_option linter.unusedSimpArgs false
set_option linter.unusedVariables false
set_option linter.unusedSectionVars false

section
namespace Go.Proofs
def Tryd.laysM171_ren : Go.Shelf.Ren := ⟨fun | 171 => 29 | 243 => 50 | 246 => 66 | 283 => 75 | 284 => 76 | 285 => 77 | 286 => 78 | 129 => 86 | 317 => 85 | 318 => 87 | 319 => 88 | 320 => 89 | 337 => 91 | 338 => 92 | n => n, fun | 3 => 3 | 9 => 9 | 2 => 2 | 4 => 4 | 171 => 112 | 0 => 0 | 53 => 22 | 37 => 53 | 5 => 5 | 173 => 115 | 212 => 131 | 51 => 52 | 20 => 20 | 213 => 132 | 46 => 54 | 232 => 89 | 233 => 136 | n => n, fun | 17 => 5 | 18 => 6 | 19 => 7 | n => n⟩
theorem Tryd.laysM171 : Go.Proofs.LaysM.n171 Tryd.prog Tryd.laysM171_ren := {
  mixed := by kernel_rfl
  f129 := Tryd.func86.trans (congrArg some (by kernel_rfl))
  f171 := Tryd.func29.trans (congrArg some (by kernel_rfl))
  f243 := Tryd.func50.trans (congrArg some (by kernel_rfl))
  f246 := Tryd.func66.trans (congrArg some (by kernel_rfl))
  f283 := Tryd.func75.trans (congrArg some (by kernel_rfl))
  f284 := Tryd.func76.trans (congrArg some (by kernel_rfl))
  f285 := Tryd.func77.trans (congrArg some (by kernel_rfl))
  f286 := Tryd.func78.trans (congrArg some (by kernel_rfl))
  f317 := Tryd.func85.trans (congrArg some (by kernel_rfl))
  f318 := Tryd.func87.trans (congrArg some (by kernel_rfl))
  f319 := Tryd.func88.trans (congrArg some (by kernel_rfl))
  f320 := Tryd.func89.trans (congrArg some (by kernel_rfl))
  f337 := Tryd.func91.trans (congrArg some (by kernel_rfl))
  f338 := Tryd.func92.trans (congrArg some (by kernel_rfl))
  t0 := Tryd.underlying0
  a0 := Tryd.isAgg0
  z0 := Tryd.sizeOf0
  v0 := Tryd.zeroValue0
  t2 := Tryd.underlying2
  a2 := Tryd.isAgg2
  z2 := Tryd.sizeOf2
  v2 := Tryd.zeroValue2
  t3 := Tryd.underlying3
  a3 := Tryd.isAgg3
  z3 := Tryd.sizeOf3
  v3 := Tryd.zeroValue3
  t4 := Tryd.underlying4
  a4 := Tryd.isAgg4
  z4 := Tryd.sizeOf4
  v4 := Tryd.zeroValue4
  t5 := Tryd.underlying5
  a5 := Tryd.isAgg5
  z5 := Tryd.sizeOf5
  v5 := Tryd.zeroValue5
  t9 := Tryd.underlying9
  a9 := Tryd.isAgg9
  z9 := Tryd.sizeOf9
  v9 := Tryd.zeroValue9
  t20 := Tryd.underlying20
  a20 := Tryd.isAgg20
  z20 := Tryd.sizeOf20
  v20 := Tryd.zeroValue20
  t37 := Tryd.underlying53
  a37 := Tryd.isAgg53
  z37 := Tryd.sizeOf53
  v37 := Tryd.zeroValue53
  t46 := Tryd.underlying54
  a46 := Tryd.isAgg54
  z46 := Tryd.sizeOf54
  v46 := Tryd.zeroValue54
  t51 := Tryd.underlying52
  a51 := Tryd.isAgg52
  z51 := Tryd.sizeOf52
  v51 := Tryd.zeroValue52
  t53 := Tryd.underlying22
  a53 := Tryd.isAgg22
  z53 := Tryd.sizeOf22
  v53 := Tryd.zeroValue22
  t171 := Tryd.underlying112
  a171 := Tryd.isAgg112
  z171 := Tryd.sizeOf112
  v171 := Tryd.zeroValue112
  t173 := Tryd.underlying115
  a173 := Tryd.isAgg115
  z173 := Tryd.sizeOf115
  v173 := Tryd.zeroValue115
  t212 := Tryd.underlying131
  a212 := Tryd.isAgg131
  z212 := Tryd.sizeOf131
  v212 := Tryd.zeroValue131
  t213 := Tryd.underlying132
  a213 := Tryd.isAgg132
  z213 := Tryd.sizeOf132
  t232 := Tryd.underlying89
  a232 := Tryd.isAgg89
  z232 := Tryd.sizeOf89
  v232 := Tryd.zeroValue89
  t233 := Tryd.underlying136
  a233 := Tryd.isAgg136
  z233 := Tryd.sizeOf136
  v233 := Tryd.zeroValue136
  g17 := by kernel_rfl
  g18 := by kernel_rfl
  g19 := by kernel_rfl
  i0 := by kernel_rfl
  i2 := by kernel_rfl
  i3 := by kernel_rfl
  i4 := by kernel_rfl
  i5 := by kernel_rfl
  i9 := by kernel_rfl
  i20 := by kernel_rfl
  i37 := by kernel_rfl
  i46 := by kernel_rfl
  i51 := by kernel_rfl
  i53 := by kernel_rfl
  i171 := by kernel_rfl
  i173 := by kernel_rfl
  i212 := by kernel_rfl
  i232 := by kernel_rfl
  i233 := by kernel_rfl
  m17 := by kernel_rfl
  m18 := by kernel_rfl
  m19 := by kernel_rfl }
def Tryd.lays105_ren : Go.Shelf.Ren := ⟨fun | 105 => 24 | 212 => 38 | 99 => 39 | 165 => 40 | 166 => 41 | 170 => 42 | 169 => 43 | 263 => 56 | 264 => 57 | 206 => 54 | 240 => 58 | 241 => 59 | 276 => 69 | 277 => 70 | n => n, fun | 9 => 9 | 3 => 3 | 4 => 4 | 20 => 20 | 0 => 0 | 46 => 54 | 109 => 74 | 5 => 5 | 72 => 79 | 76 => 62 | 51 => 52 | 146 => 91 | 53 => 22 | 148 => 93 | 70 => 77 | 37 => 53 | 75 => 61 | 127 => 95 | 164 => 104 | 80 => 82 | n => n, fun | n => n⟩
theorem Tryd.lays105 : Go.Proofs.Lays.n105 Tryd.prog Tryd.lays105_ren := {
  mixed := by kernel_rfl
  f99 := Tryd.func39.trans (congrArg some (by kernel_rfl))
  f105 := Tryd.func24.trans (congrArg some (by kernel_rfl))
  f165 := Tryd.func40.trans (congrArg some (by kernel_rfl))
  f166 := Tryd.func41.trans (congrArg some (by kernel_rfl))
  f169 := Tryd.func43.trans (congrArg some (by kernel_rfl))
  f170 := Tryd.func42.trans (congrArg some (by kernel_rfl))
  f206 := Tryd.func54.trans (congrArg some (by kernel_rfl))
  f212 := Tryd.func38.trans (congrArg some (by kernel_rfl))
  f240 := Tryd.func58.trans (congrArg some (by kernel_rfl))
  f241 := Tryd.func59.trans (congrArg some (by kernel_rfl))
  f263 := Tryd.func56.trans (congrArg some (by kernel_rfl))
  f264 := Tryd.func57.trans (congrArg some (by kernel_rfl))
  f276 := Tryd.func69.trans (congrArg some (by kernel_rfl))
  f277 := Tryd.func70.trans (congrArg some (by kernel_rfl))
  t0 := Tryd.underlying0
  a0 := Tryd.isAgg0
  z0 := Tryd.sizeOf0
  v0 := Tryd.zeroValue0
  t3 := Tryd.underlying3
  a3 := Tryd.isAgg3
  z3 := Tryd.sizeOf3
  v3 := Tryd.zeroValue3
  t4 := Tryd.underlying4
  a4 := Tryd.isAgg4
  z4 := Tryd.sizeOf4
  v4 := Tryd.zeroValue4
  t5 := Tryd.underlying5
  a5 := Tryd.isAgg5
  z5 := Tryd.sizeOf5
  v5 := Tryd.zeroValue5
  t9 := Tryd.underlying9
  a9 := Tryd.isAgg9
  z9 := Tryd.sizeOf9
  v9 := Tryd.zeroValue9
  t20 := Tryd.underlying20
  a20 := Tryd.isAgg20
  z20 := Tryd.sizeOf20
  v20 := Tryd.zeroValue20
  t37 := Tryd.underlying53
  a37 := Tryd.isAgg53
  z37 := Tryd.sizeOf53
  v37 := Tryd.zeroValue53
  t46 := Tryd.underlying54
  a46 := Tryd.isAgg54
  z46 := Tryd.sizeOf54
  v46 := Tryd.zeroValue54
  t51 := Tryd.underlying52
  a51 := Tryd.isAgg52
  z51 := Tryd.sizeOf52
  v51 := Tryd.zeroValue52
  t53 := Tryd.underlying22
  a53 := Tryd.isAgg22
  z53 := Tryd.sizeOf22
  v53 := Tryd.zeroValue22
  t70 := Tryd.underlying77
  a70 := Tryd.isAgg77
  z70 := Tryd.sizeOf77
  v70 := Tryd.zeroValue77
  t72 := Tryd.underlying79
  a72 := Tryd.isAgg79
  z72 := Tryd.sizeOf79
  v72 := Tryd.zeroValue79
  t75 := Tryd.underlying61
  a75 := Tryd.isAgg61
  z75 := Tryd.sizeOf61
  v75 := Tryd.zeroValue61
  t76 := Tryd.underlying62
  a76 := Tryd.isAgg62
  z76 := Tryd.sizeOf62
  v76 := Tryd.zeroValue62
  t109 := Tryd.underlying74
  a109 := Tryd.isAgg74
  z109 := Tryd.sizeOf74
  v109 := Tryd.zeroValue74
  t127 := Tryd.underlying95
  a127 := Tryd.isAgg95
  z127 := Tryd.sizeOf95
  v127 := Tryd.zeroValue95
  t146 := Tryd.underlying91
  a146 := Tryd.isAgg91
  z146 := Tryd.sizeOf91
  v146 := Tryd.zeroValue91
  t148 := Tryd.underlying93
  a148 := Tryd.isAgg93
  z148 := Tryd.sizeOf93
  v148 := Tryd.zeroValue93
  t164 := Tryd.underlying104
  a164 := Tryd.isAgg104
  z164 := Tryd.sizeOf104
  v164 := Tryd.zeroValue104 }
theorem Tryd.Builder_Extra_105 : Builder.Extra Tryd.prog Tryd.lays105_ren := {
  sizeBuilder := by kernel_rfl
  liesBuilder := by kernel_rfl
  t5 := Tryd.underlying5
  a5 := Tryd.isAgg5
  z5 := Tryd.sizeOf5
  v5 := Tryd.zeroValue5
  infoByte := by kernel_rfl
  cellsByte := by kernel_rfl
  sizeByte := by kernel_rfl
  neB5 := by decide }
def Tryd.lays161_ren : Go.Shelf.Ren := ⟨fun | 161 => 19 | 231 => 30 | 227 => 31 | 233 => 32 | 235 => 33 | 228 => 51 | 197 => 52 | 151 => 53 | 260 => 67 | 152 => 68 | 137 => 79 | 119 => 80 | 224 => 81 | 225 => 82 | 217 => 90 | 266 => 93 | n => n, fun | 9 => 9 | 4 => 4 | 3 => 3 | 5 => 5 | 117 => 69 | 116 => 68 | 0 => 0 | 124 => 72 | 105 => 86 | 21 => 21 | 119 => 117 | 46 => 54 | 139 => 120 | 138 => 119 | n => n, fun | 3 => 2 | 4 => 3 | n => n⟩
theorem Tryd.lays161 : Go.Proofs.Lays.n161 Tryd.prog Tryd.lays161_ren := {
  mixed := by kernel_rfl
  f119 := Tryd.func80.trans (congrArg some (by kernel_rfl))
  f137 := Tryd.func79.trans (congrArg some (by kernel_rfl))
  f151 := Tryd.func53.trans (congrArg some (by kernel_rfl))
  f152 := Tryd.func68.trans (congrArg some (by kernel_rfl))
  f161 := Tryd.func19.trans (congrArg some (by kernel_rfl))
  f197 := Tryd.func52.trans (congrArg some (by kernel_rfl))
  f217 := Tryd.func90.trans (congrArg some (by kernel_rfl))
  f224 := Tryd.func81.trans (congrArg some (by kernel_rfl))
  f225 := Tryd.func82.trans (congrArg some (by kernel_rfl))
  f227 := Tryd.func31.trans (congrArg some (by kernel_rfl))
  f228 := Tryd.func51.trans (congrArg some (by kernel_rfl))
  f231 := Tryd.func30.trans (congrArg some (by kernel_rfl))
  f233 := Tryd.func32.trans (congrArg some (by kernel_rfl))
  f235 := Tryd.func33.trans (congrArg some (by kernel_rfl))
  f260 := Tryd.func67.trans (congrArg some (by kernel_rfl))
  f266 := Tryd.func93.trans (congrArg some (by kernel_rfl))
  t0 := Tryd.underlying0
  a0 := Tryd.isAgg0
  z0 := Tryd.sizeOf0
  v0 := Tryd.zeroValue0
  t3 := Tryd.underlying3
  a3 := Tryd.isAgg3
  z3 := Tryd.sizeOf3
  v3 := Tryd.zeroValue3
  t4 := Tryd.underlying4
  a4 := Tryd.isAgg4
  z4 := Tryd.sizeOf4
  v4 := Tryd.zeroValue4
  t5 := Tryd.underlying5
  a5 := Tryd.isAgg5
  z5 := Tryd.sizeOf5
  v5 := Tryd.zeroValue5
  t9 := Tryd.underlying9
  a9 := Tryd.isAgg9
  z9 := Tryd.sizeOf9
  v9 := Tryd.zeroValue9
  t21 := Tryd.underlying21
  a21 := Tryd.isAgg21
  z21 := Tryd.sizeOf21
  v21 := Tryd.zeroValue21
  t46 := Tryd.underlying54
  a46 := Tryd.isAgg54
  z46 := Tryd.sizeOf54
  v46 := Tryd.zeroValue54
  t105 := Tryd.underlying86
  a105 := Tryd.isAgg86
  z105 := Tryd.sizeOf86
  v105 := Tryd.zeroValue86
  t116 := Tryd.underlying68
  a116 := Tryd.isAgg68
  z116 := Tryd.sizeOf68
  t117 := Tryd.underlying69
  a117 := Tryd.isAgg69
  z117 := Tryd.sizeOf69
  v117 := Tryd.zeroValue69
  t119 := Tryd.underlying117
  a119 := Tryd.isAgg117
  z119 := Tryd.sizeOf117
  t124 := Tryd.underlying72
  a124 := Tryd.isAgg72
  z124 := Tryd.sizeOf72
  v124 := Tryd.zeroValue72
  t138 := Tryd.underlying119
  a138 := Tryd.isAgg119
  z138 := Tryd.sizeOf119
  v138 := Tryd.zeroValue119
  t139 := Tryd.underlying120
  a139 := Tryd.isAgg120
  z139 := Tryd.sizeOf120
  v139 := Tryd.zeroValue120
  g3 := by kernel_rfl
  g4 := by kernel_rfl }
def Tryd.lays160_ren : Go.Shelf.Ren := ⟨fun | 160 => 26 | 232 => 44 | 231 => 30 | 227 => 31 | 234 => 45 | 233 => 32 | 236 => 46 | 235 => 33 | 228 => 51 | 271 => 60 | 151 => 53 | 197 => 52 | 120 => 71 | 152 => 68 | 260 => 67 | 137 => 79 | 119 => 80 | 224 => 81 | 225 => 82 | 217 => 90 | 266 => 93 | n => n, fun | 9 => 9 | 4 => 4 | 3 => 3 | 5 => 5 | 117 => 69 | 116 => 68 | 0 => 0 | 124 => 72 | 21 => 21 | 105 => 86 | 46 => 54 | 119 => 117 | 139 => 120 | 138 => 119 | n => n, fun | 3 => 2 | 4 => 3 | n => n⟩
theorem Tryd.lays160 : Go.Proofs.Lays.n160 Tryd.prog Tryd.lays160_ren := {
  mixed := by kernel_rfl
  f119 := Tryd.func80.trans (congrArg some (by kernel_rfl))
  f120 := Tryd.func71.trans (congrArg some (by kernel_rfl))
  f137 := Tryd.func79.trans (congrArg some (by kernel_rfl))
  f151 := Tryd.func53.trans (congrArg some (by kernel_rfl))
  f152 := Tryd.func68.trans (congrArg some (by kernel_rfl))
  f160 := Tryd.func26.trans (congrArg some (by kernel_rfl))
  f197 := Tryd.func52.trans (congrArg some (by kernel_rfl))
  f217 := Tryd.func90.trans (congrArg some (by kernel_rfl))
  f224 := Tryd.func81.trans (congrArg some (by kernel_rfl))
  f225 := Tryd.func82.trans (congrArg some (by kernel_rfl))
  f227 := Tryd.func31.trans (congrArg some (by kernel_rfl))
  f228 := Tryd.func51.trans (congrArg some (by kernel_rfl))
  f231 := Tryd.func30.trans (congrArg some (by kernel_rfl))
  f232 := Tryd.func44.trans (congrArg some (by kernel_rfl))
  f233 := Tryd.func32.trans (congrArg some (by kernel_rfl))
  f234 := Tryd.func45.trans (congrArg some (by kernel_rfl))
  f235 := Tryd.func33.trans (congrArg some (by kernel_rfl))
  f236 := Tryd.func46.trans (congrArg some (by kernel_rfl))
  f260 := Tryd.func67.trans (congrArg some (by kernel_rfl))
  f266 := Tryd.func93.trans (congrArg some (by kernel_rfl))
  f271 := Tryd.func60.trans (congrArg some (by kernel_rfl))
  t0 := Tryd.underlying0
  a0 := Tryd.isAgg0
  z0 := Tryd.sizeOf0
  v0 := Tryd.zeroValue0
  t3 := Tryd.underlying3
  a3 := Tryd.isAgg3
  z3 := Tryd.sizeOf3
  v3 := Tryd.zeroValue3
  t4 := Tryd.underlying4
  a4 := Tryd.isAgg4
  z4 := Tryd.sizeOf4
  v4 := Tryd.zeroValue4
  t5 := Tryd.underlying5
  a5 := Tryd.isAgg5
  z5 := Tryd.sizeOf5
  v5 := Tryd.zeroValue5
  t9 := Tryd.underlying9
  a9 := Tryd.isAgg9
  z9 := Tryd.sizeOf9
  v9 := Tryd.zeroValue9
  t21 := Tryd.underlying21
  a21 := Tryd.isAgg21
  z21 := Tryd.sizeOf21
  v21 := Tryd.zeroValue21
  t46 := Tryd.underlying54
  a46 := Tryd.isAgg54
  z46 := Tryd.sizeOf54
  v46 := Tryd.zeroValue54
  t105 := Tryd.underlying86
  a105 := Tryd.isAgg86
  z105 := Tryd.sizeOf86
  v105 := Tryd.zeroValue86
  t116 := Tryd.underlying68
  a116 := Tryd.isAgg68
  z116 := Tryd.sizeOf68
  t117 := Tryd.underlying69
  a117 := Tryd.isAgg69
  z117 := Tryd.sizeOf69
  v117 := Tryd.zeroValue69
  t119 := Tryd.underlying117
  a119 := Tryd.isAgg117
  z119 := Tryd.sizeOf117
  t124 := Tryd.underlying72
  a124 := Tryd.isAgg72
  z124 := Tryd.sizeOf72
  v124 := Tryd.zeroValue72
  t138 := Tryd.underlying119
  a138 := Tryd.isAgg119
  z138 := Tryd.sizeOf119
  v138 := Tryd.zeroValue119
  t139 := Tryd.underlying120
  a139 := Tryd.isAgg120
  z139 := Tryd.sizeOf120
  v139 := Tryd.zeroValue120
  g3 := by kernel_rfl
  g4 := by kernel_rfl }
def Tryd.lays172_ren : Go.Shelf.Ren := ⟨fun | 172 => 27 | 244 => 47 | 245 => 48 | 247 => 61 | 279 => 62 | 280 => 63 | 281 => 64 | 282 => 65 | 287 => 72 | 316 => 73 | 171 => 29 | 205 => 74 | 321 => 83 | 322 => 84 | 243 => 50 | 246 => 66 | 283 => 75 | 284 => 76 | 285 => 77 | 286 => 78 | 129 => 86 | 317 => 85 | 318 => 87 | 319 => 88 | 320 => 89 | 337 => 91 | 338 => 92 | n => n, fun | 9 => 9 | 3 => 3 | 75 => 61 | 76 => 62 | 4 => 4 | 5 => 5 | 167 => 96 | 37 => 53 | 0 => 0 | 85 => 97 | 2 => 2 | 168 => 99 | 53 => 22 | 175 => 107 | 46 => 54 | 210 => 110 | 127 => 95 | 145 => 129 | 143 => 127 | 21 => 21 | 171 => 112 | 173 => 115 | 212 => 131 | 51 => 52 | 20 => 20 | 213 => 132 | 232 => 89 | 233 => 136 | 80 => 82 | n => n, fun | 15 => 0 | 16 => 1 | 17 => 5 | 18 => 6 | 19 => 7 | n => n⟩
theorem Tryd.lays172 : Go.Proofs.Lays.n172 Tryd.prog Tryd.lays172_ren := {
  mixed := by kernel_rfl
  f129 := Tryd.func86.trans (congrArg some (by kernel_rfl))
  f171 := Tryd.func29.trans (congrArg some (by kernel_rfl))
  f172 := Tryd.func27.trans (congrArg some (by kernel_rfl))
  f205 := Tryd.func74.trans (congrArg some (by kernel_rfl))
  f243 := Tryd.func50.trans (congrArg some (by kernel_rfl))
  f244 := Tryd.func47.trans (congrArg some (by kernel_rfl))
  f245 := Tryd.func48.trans (congrArg some (by kernel_rfl))
  f246 := Tryd.func66.trans (congrArg some (by kernel_rfl))
  f247 := Tryd.func61.trans (congrArg some (by kernel_rfl))
  f279 := Tryd.func62.trans (congrArg some (by kernel_rfl))
  f280 := Tryd.func63.trans (congrArg some (by kernel_rfl))
  f281 := Tryd.func64.trans (congrArg some (by kernel_rfl))
  f282 := Tryd.func65.trans (congrArg some (by kernel_rfl))
  f283 := Tryd.func75.trans (congrArg some (by kernel_rfl))
  f284 := Tryd.func76.trans (congrArg some (by kernel_rfl))
  f285 := Tryd.func77.trans (congrArg some (by kernel_rfl))
  f286 := Tryd.func78.trans (congrArg some (by kernel_rfl))
  f287 := Tryd.func72.trans (congrArg some (by kernel_rfl))
  f316 := Tryd.func73.trans (congrArg some (by kernel_rfl))
  f317 := Tryd.func85.trans (congrArg some (by kernel_rfl))
  f318 := Tryd.func87.trans (congrArg some (by kernel_rfl))
  f319 := Tryd.func88.trans (congrArg some (by kernel_rfl))
  f320 := Tryd.func89.trans (congrArg some (by kernel_rfl))
  f321 := Tryd.func83.trans (congrArg some (by kernel_rfl))
  f322 := Tryd.func84.trans (congrArg some (by kernel_rfl))
  f337 := Tryd.func91.trans (congrArg some (by kernel_rfl))
  f338 := Tryd.func92.trans (congrArg some (by kernel_rfl))
  t0 := Tryd.underlying0
  a0 := Tryd.isAgg0
  z0 := Tryd.sizeOf0
  v0 := Tryd.zeroValue0
  t2 := Tryd.underlying2
  a2 := Tryd.isAgg2
  z2 := Tryd.sizeOf2
  v2 := Tryd.zeroValue2
  t3 := Tryd.underlying3
  a3 := Tryd.isAgg3
  z3 := Tryd.sizeOf3
  v3 := Tryd.zeroValue3
  t4 := Tryd.underlying4
  a4 := Tryd.isAgg4
  z4 := Tryd.sizeOf4
  v4 := Tryd.zeroValue4
  t5 := Tryd.underlying5
  a5 := Tryd.isAgg5
  z5 := Tryd.sizeOf5
  v5 := Tryd.zeroValue5
  t9 := Tryd.underlying9
  a9 := Tryd.isAgg9
  z9 := Tryd.sizeOf9
  v9 := Tryd.zeroValue9
  t20 := Tryd.underlying20
  a20 := Tryd.isAgg20
  z20 := Tryd.sizeOf20
  v20 := Tryd.zeroValue20
  t21 := Tryd.underlying21
  a21 := Tryd.isAgg21
  z21 := Tryd.sizeOf21
  v21 := Tryd.zeroValue21
  t37 := Tryd.underlying53
  a37 := Tryd.isAgg53
  z37 := Tryd.sizeOf53
  v37 := Tryd.zeroValue53
  t46 := Tryd.underlying54
  a46 := Tryd.isAgg54
  z46 := Tryd.sizeOf54
  v46 := Tryd.zeroValue54
  t51 := Tryd.underlying52
  a51 := Tryd.isAgg52
  z51 := Tryd.sizeOf52
  v51 := Tryd.zeroValue52
  t53 := Tryd.underlying22
  a53 := Tryd.isAgg22
  z53 := Tryd.sizeOf22
  v53 := Tryd.zeroValue22
  t75 := Tryd.underlying61
  a75 := Tryd.isAgg61
  z75 := Tryd.sizeOf61
  v75 := Tryd.zeroValue61
  t76 := Tryd.underlying62
  a76 := Tryd.isAgg62
  z76 := Tryd.sizeOf62
  v76 := Tryd.zeroValue62
  t85 := Tryd.underlying97
  a85 := Tryd.isAgg97
  z85 := Tryd.sizeOf97
  v85 := Tryd.zeroValue97
  t127 := Tryd.underlying95
  a127 := Tryd.isAgg95
  z127 := Tryd.sizeOf95
  v127 := Tryd.zeroValue95
  t143 := Tryd.underlying127
  a143 := Tryd.isAgg127
  z143 := Tryd.sizeOf127
  v143 := Tryd.zeroValue127
  t145 := Tryd.underlying129
  a145 := Tryd.isAgg129
  z145 := Tryd.sizeOf129
  v145 := Tryd.zeroValue129
  t167 := Tryd.underlying96
  a167 := Tryd.isAgg96
  z167 := Tryd.sizeOf96
  v167 := Tryd.zeroValue96
  t168 := Tryd.underlying99
  a168 := Tryd.isAgg99
  z168 := Tryd.sizeOf99
  v168 := Tryd.zeroValue99
  t171 := Tryd.underlying112
  a171 := Tryd.isAgg112
  z171 := Tryd.sizeOf112
  v171 := Tryd.zeroValue112
  t173 := Tryd.underlying115
  a173 := Tryd.isAgg115
  z173 := Tryd.sizeOf115
  v173 := Tryd.zeroValue115
  t175 := Tryd.underlying107
  a175 := Tryd.isAgg107
  z175 := Tryd.sizeOf107
  v175 := Tryd.zeroValue107
  t210 := Tryd.underlying110
  a210 := Tryd.isAgg110
  z210 := Tryd.sizeOf110
  v210 := Tryd.zeroValue110
  t212 := Tryd.underlying131
  a212 := Tryd.isAgg131
  z212 := Tryd.sizeOf131
  v212 := Tryd.zeroValue131
  t213 := Tryd.underlying132
  a213 := Tryd.isAgg132
  z213 := Tryd.sizeOf132
  t232 := Tryd.underlying89
  a232 := Tryd.isAgg89
  z232 := Tryd.sizeOf89
  v232 := Tryd.zeroValue89
  t233 := Tryd.underlying136
  a233 := Tryd.isAgg136
  z233 := Tryd.sizeOf136
  v233 := Tryd.zeroValue136
  g15 := by kernel_rfl
  g16 := by kernel_rfl
  g17 := by kernel_rfl
  g18 := by kernel_rfl
  g19 := by kernel_rfl }
end Go.Proofs
namespace Go.AM
open Go.Proofs
noncomputable abbrev P := Tryd.prog
noncomputable instance tb : Tabs := Tabs.pow P 5 (by kernel_rfl)
universe u
theorem an {α : Type u} {p : α -> Prop} : ∀ k ∈ ([] : List α), p k := fun k h => nomatch h
theorem ac {α : Type u} {p : α -> Prop} {a : α} {l : List α} (h : p a) (k : ∀ x ∈ l, p x) : ∀ x ∈ a :: l, p x := fun x hx => by
  rcases List.mem_cons.1 hx with rfl | hx
  · exact h
  · exact k x hx
set_option maxRecDepth 100000
set_option linter.unusedVariables false
noncomputable section
variable (m_ : CJ)
abbrev NP : Ty := .lst (.int .u32)
abbrev N7 : Ty := .arr 4 (.int .u64)
abbrev Oo : Ty := .pair (.int .i64) .str
namespace Md
def O (m_ : CJ) : OO P := lD []
def run (m_ : CJ) : (Int × List Int) × Unit -> Option ((List Int) × Int × Unit) := fun v_ => match v_ with
| (t, ()) =>
 bif vF (t.2.length : Int) then
 bif ((decide (t.1 < 0)) || (decide (t.1 > 255))) then
  some (([] : List Int), 13, ())
 else
  bif decide ((t.2.length : Int) > 65535) then
   some (([] : List Int), 12, ())
  else
   bif decide ((t.2.length : Int) < 128) then
    bif decide (([(IntKind.u8.wrap t.1), (IntKind.u8.wrap (t.2.length : Int))] : List Int).length + t.2.length <= maxStr) then
    some ((([(IntKind.u8.wrap t.1), (IntKind.u8.wrap (t.2.length : Int))] : List Int) ++ t.2), 0, ()) else none
   else
    bif decide ((t.2.length : Int) < 256) then
     bif decide (([(IntKind.u8.wrap t.1), 129, (IntKind.u8.wrap (t.2.length : Int))] : List Int).length + t.2.length <= maxStr) then
     some ((([(IntKind.u8.wrap t.1), 129, (IntKind.u8.wrap (t.2.length : Int))] : List Int) ++ t.2), 0, ()) else none
    else
     bif decide (([(IntKind.u8.wrap t.1), 130, (IntKind.u8.wrap (II .i64 (t.2.length : Int) 8)), (IntKind.u8.wrap (t.2.length : Int))] : List Int).length + t.2.length <= maxStr) then
     some ((([(IntKind.u8.wrap t.1), 130, (IntKind.u8.wrap (II .i64 (t.2.length : Int) 8)), (IntKind.u8.wrap (t.2.length : Int))] : List Int) ++ t.2), 0, ()) else none else none
theorem k : KT (O m_) [] ⟨10, [.ag Oo], .iC [.sh (.one .str), .sh (.one (.int .i64))], run m_⟩ [] := fun _ => by kernel_rfl
def c := co (k m_)
end Md

namespace MR
def O (m_ : CJ) : OO P := lD []
def run (m_ : CJ) : (List Int) × Unit -> Option (Int × Int × Int × Unit) := fun v_ => match v_ with
| (s, ()) =>
 bif inB 0 (s.length : Int) then
 bif decide ((IntKind.i64.wrap ((IntKind.i64.wrap (rd 0 s 0)) - 128)) < 0) then
  bif inB 0 (s.length : Int) then
  some ((IntKind.i64.wrap (rd 0 s 0)), 1, 0, ()) else none
 else
  bif ((decide ((IntKind.i64.wrap ((IntKind.i64.wrap (rd 0 s 0)) - 128)) = 0)) || (decide ((IntKind.i64.wrap ((IntKind.i64.wrap (rd 0 s 0)) - 128)) > 2))) then
   some (0, 0, 10, ())
  else
   bif vF (s.length : Int) then
   bif decide ((s.length : Int) <= (IntKind.i64.wrap ((IntKind.i64.wrap (rd 0 s 0)) - 128))) then
    some (0, 0, 11, ())
   else
    bif inB 1 (s.length : Int) then
    bif decide ((IntKind.i64.wrap ((IntKind.i64.wrap (rd 0 s 0)) - 128)) = 2) then
     bif inB 2 (s.length : Int) then
     bif ((decide ((Kt .i64 (IG .i64 (IntKind.i64.wrap (rd 0 s 1)) 8) (IntKind.i64.wrap (rd 0 s 2))) < 128)) || ((decide ((IntKind.i64.wrap ((IntKind.i64.wrap (rd 0 s 0)) - 128)) = 2)) && (decide ((Kt .i64 (IG .i64 (IntKind.i64.wrap (rd 0 s 1)) 8) (IntKind.i64.wrap (rd 0 s 2))) < 256)))) then
      some (0, 0, 10, ())
     else
      some ((Kt .i64 (IG .i64 (IntKind.i64.wrap (rd 0 s 1)) 8) (IntKind.i64.wrap (rd 0 s 2))), (IntKind.i64.wrap ((IntKind.i64.wrap ((IntKind.i64.wrap (rd 0 s 0)) - 128)) + 1)), 0, ()) else none
    else
     bif ((decide ((IntKind.i64.wrap (rd 0 s 1)) < 128)) || ((decide ((IntKind.i64.wrap ((IntKind.i64.wrap (rd 0 s 0)) - 128)) = 2)) && (decide ((IntKind.i64.wrap (rd 0 s 1)) < 256)))) then
      some (0, 0, 10, ())
     else
      some ((IntKind.i64.wrap (rd 0 s 1)), (IntKind.i64.wrap ((IntKind.i64.wrap ((IntKind.i64.wrap (rd 0 s 0)) - 128)) + 1)), 0, ()) else none else none else none
theorem k : KT (O m_) [] ⟨21, [.one .str], .iC [.sh (.one (.int .i64)), .sh (.one (.int .i64)), .sh (.one (.int .i64))], run m_⟩ [] := fun _ => by kernel_rfl
def c := co (k m_)
end MR

namespace MI
def O : OO P := lD [MR.c m_]
def run : (List Int) × Unit -> Option ((Int × List Int) × (List Int) × Int × Unit) := fun v_ => match v_ with
| (s, ()) =>
 bif vF (s.length : Int) then
 bif decide ((s.length : Int) < 2) then
  some ((0, ([] : List Int)), ([] : List Int), 11, ())
 else
  bif rY 1 (s.length : Int) (s.length : Int) then
  (MR.run m_ ((cut s 1 (s.length : Int)), ())).bind fun (r, r1, r2, ()) =>
  bif !(decide (r2 = 0)) then
   some ((0, ([] : List Int)), ([] : List Int), r2, ())
  else
   bif rY (IntKind.i64.wrap (1 + r1)) (s.length : Int) (s.length : Int) then
   bif vF ((cut s (IntKind.i64.wrap (1 + r1)) (s.length : Int)).length : Int) then
   bif decide (((cut s (IntKind.i64.wrap (1 + r1)) (s.length : Int)).length : Int) < r) then
    some ((0, ([] : List Int)), ([] : List Int), 11, ())
   else
    bif inB 0 (s.length : Int) then
    bif rY 0 r ((cut s (IntKind.i64.wrap (1 + r1)) (s.length : Int)).length : Int) then
    bif rY r ((cut s (IntKind.i64.wrap (1 + r1)) (s.length : Int)).length : Int) ((cut s (IntKind.i64.wrap (1 + r1)) (s.length : Int)).length : Int) then
    some (((IntKind.i64.wrap (rd 0 s 0)), (cut (cut s (IntKind.i64.wrap (1 + r1)) (s.length : Int)) 0 r)), (cut (cut s (IntKind.i64.wrap (1 + r1)) (s.length : Int)) r ((cut s (IntKind.i64.wrap (1 + r1)) (s.length : Int)).length : Int)), 0, ()) else none else none else none else none else none else none else none
theorem k : KT (O m_) [] ⟨11, [.one .str], .iC [.sh (.ag Oo), .sh (.one .str), .sh (.one (.int .i64))], run m_⟩ [] := fun _ => by kernel_rfl
def c := co (k m_)
end MI

namespace LZ
def O (m_ : CJ) : OO P := lD []
def e0 : Spec := ⟨[fs 13 [.q 250676, .z 250676, .b 3, .q 31335, .b 2, .q 1959, .z 244, .b 1, .q 31] [(4, .oy 0), (6, .dat (.int .u32)), (7, .oy 1), (50, .dat NP), (51, .w), (52, .w)]], [(0, .c [.ry]), (1, .c [.ry])], 2⟩
def x0 : List Spec := [⟨[fs 13 [.q 31335, .b 2, .q 1959, .z 244, .b 1, .q 31] [(4, .oy 0), (7, .oy 1), (50, .dat NP), (51, .w), (52, .w)]], [(0, .c [.ry]), (1, .c [.ry])], 2⟩]
abbrev A0 : Type := Int × LI × Int × Int × LI × LI × Unit
abbrev B0 : Type := (LI × Int × Int × LI × LI × Unit)
def b0 (m_ : CJ) (self : A0 -> Option B0) : A0 -> Option B0 := fun v_ => match v_ with
| (n, t, t1, t2, m, m1, ()) =>
 bif decide (n > 0) then
  bif decide (m1.length + ([(IntKind.u8.wrap (Kt .u32 (IE .u32 n 127) 128))] : List Int).length < 70368744177664) then
  self ((II .u32 n 7), t, t1, t2, m, (m1 ++ ([(IntKind.u8.wrap (Kt .u32 (IE .u32 n 127) 128))] : List Int)), ()) else none
 else
  some (t, t1, t2, m, m1, ())
theorem k0 : KQ 13 (O m_) [25] e0 x0 [] (b0 m_) := fun _ _ => by kernel_rfl
def l0 := loop m_ (b0 m_)
theorem q0 (v) : l0 .lim v = b0 .lim (l0 .lim) v := KS.q (k0 .lim) v
def s0 := so m_ (k0 m_)
def e1 : Spec := ⟨[fs 25 [.q 12, .z 12, .b 0] [(0, .oy 0), (2, .w), (3, .w)], fs 13 [.v 62670 [1], .q 62671, .b 2, .q 1959, .z 244, .b 1, .q 31] [(4, .oy 1), (7, .oy 0), (50, .dat NP), (51, .w), (52, .w)]], [(0, .c [.ry]), (1, .c [.ry])], 2⟩
def x1 : List Spec := [⟨[fs 25 [] [], fs 13 [.v 62670 [1], .q 62671, .b 2, .q 1959, .z 244, .b 1, .q 31] [(4, .oy 0), (7, .oy 1), (50, .dat NP), (51, .w), (52, .w)]], [(0, .c [.ry]), (1, .c [.ry])], 2⟩]
abbrev A1 : Type := Int × Int × LI × Int × Int × LI × LI × Unit
abbrev B1 : Type := (LI × Int × Int × LI × LI × Unit)
def b1 (m_ : CJ) (self : A1 -> Option B1) : A1 -> Option B1 := fun v_ => match v_ with
| (i, j, t, t1, t2, m, m1, ()) =>
 bif decide (i < j) then
  bif inB j (m.length : Int) then
  bif inB i (m.length : Int) then
  bif inB i (m.length : Int) then
  bif inB j ((m.set i.toNat (rd 0 m j)).length : Int) then
  self ((IntKind.i64.wrap (i + 1)), (IntKind.i64.wrap (j - 1)), t, t1, t2, ((m.set i.toNat (rd 0 m j)).set j.toNat (rd 0 m i)), m1, ()) else none else none else none else none
 else
  some (t, t1, t2, m1, m, ())
theorem k1 : KQ 13 (O m_) [25] e1 x1 [] (b1 m_) := fun _ _ => by kernel_rfl
def l1 := loop m_ (b1 m_)
theorem q1 (v) : l1 .lim v = b1 .lim (l1 .lim) v := KS.q (k1 .lim) v
def s1 := so m_ (k1 m_)
def e2 : Spec := ⟨[fs 13 [.q 244, .z 244, .b 1, .q 31] [(4, .oy 0), (50, .dat NP), (51, .w), (52, .w)]], [(0, .c [.ry])], 1⟩
def x2 : List Spec := [⟨[fs 13 [.q 31] [(4, .oy 0)]], [(0, .c [.ry])], 1⟩]
abbrev A2 : Type := LI × Int × Int × LI × Unit
abbrev B2 : Type := (LI × Unit)
def b2 (self : A2 -> Option B2) : A2 -> Option B2 := fun v_ => match v_ with
| (t, t1, t2, m, ()) =>
 bif decide (t2 < t1) then
  bif inB t2 (t.length : Int) then
  (LZ.l0 m_ ((II .u32 (rd 0 t t2) 7), t, t1, t2, m, ([(IntKind.u8.wrap (IE .u32 (rd 0 t t2) 127))] : List Int), ())).bind fun (t3, t4, t5, m1, m2, ()) =>
  bif vF (m2.length : Int) then
  (LZ.l1 m_ (0, (IntKind.i64.wrap ((m2.length : Int) - 1)), t3, t4, t5, m2, m1, ())).bind fun (t6, t7, t8, m3, m4, ()) =>
  bif decide (m3.length + m4.length < 70368744177664) then
  self (t6, t7, (IntKind.i64.wrap (t8 + 1)), (m3 ++ m4), ()) else none else none else none
 else
  some (m, ())
theorem k2 : KQ 13 (O m_) [25] e2 x2 [s0 m_, s1 m_] (b2 m_) := fun _ _ => by kernel_rfl
def l2 := loop m_ (b2 m_)
theorem q2 (v) : l2 .lim v = b2 .lim (l2 .lim) v := KS.q (k2 .lim) v
def s2 := so m_ (k2 m_)
def run : (List Int) × Unit -> Option ((List Int) × Int × Unit) := fun v_ => match v_ with
| (l, ()) =>
 bif vF (l.length : Int) then
 bif decide ((l.length : Int) < 2) then
  some (([] : List Int), 11, ())
 else
  bif vF (l.length : Int) then
  bif decide ((l.length : Int) > 16) then
   some (([] : List Int), 18, ())
  else
   bif inB 0 (l.length : Int) then
   bif ((!(!(decide ((rd 0 l 0) > 2)))) || (inB 1 (l.length : Int))) then
   bif ((!(!((decide ((rd 0 l 0) > 2)) || (decide ((rd 0 l 1) > 47))))) || (inB 0 (l.length : Int))) then
   bif ((!((!((decide ((rd 0 l 0) > 2)) || (decide ((rd 0 l 1) > 47)))) && (decide ((rd 0 l 0) < 2)))) || (inB 1 (l.length : Int))) then
   bif (((decide ((rd 0 l 0) > 2)) || (decide ((rd 0 l 1) > 47))) || ((decide ((rd 0 l 0) < 2)) && (decide ((rd 0 l 1) > 39)))) then
    some (([] : List Int), 13, ())
   else
    bif inB 0 (l.length : Int) then
    bif inB 1 (l.length : Int) then
    bif rY 2 (l.length : Int) (l.length : Int) then
    bif vF ((cut l 2 (l.length : Int)).length : Int) then
    (LZ.l2 m_ ((cut l 2 (l.length : Int)), ((cut l 2 (l.length : Int)).length : Int), 0, ([(IntKind.u8.wrap (IntKind.u32.wrap ((IntKind.u32.wrap (40 * (rd 0 l 0))) + (rd 0 l 1))))] : List Int), ())).bind fun (m, ()) =>
    some (m, 0, ()) else none else none else none else none else none else none else none else none else none else none
theorem k : KT (O m_) [25] ⟨13, [.one NP], .iC [.sh (.one .str), .sh (.one (.int .i64))], run m_⟩ [s2 m_] := fun _ => by kernel_rfl
def c := co (k m_)
end LZ

namespace MV
def O (m_ : CJ) : OO P := lD []
def run (m_ : CJ) : Int × Int × Unit -> Option (Int) := fun v_ => match v_ with
| (a, b, ()) =>
 bif !(decide (b = 0)) then
 bif !(decide (b = 0)) then
 bif decide ((a.tmod b) < 0) then
  some (IntKind.i64.wrap ((IntKind.i64.wrap (a.tdiv b)) - 1))
 else
  some (IntKind.i64.wrap (a.tdiv b)) else none else none
theorem k : KT (O m_) [] ⟨49, [.one (.int .i64), .one (.int .i64)], .one (.sh (.one (.int .i64))), run m_⟩ [] := fun _ => by kernel_rfl
def c := co (k m_)
end MV

namespace MJ
def O : OO P := lD [MV.c m_]
def run : Int × Int × Int × Unit -> Option (Int) := fun v_ => match v_ with
| (y, m, d, ()) =>
 (MV.run m_ ((IntKind.i64.wrap (y - (IntKind.i64.wrap ((IntKind.i64.wrap (14 - m)).tdiv 12)))), 4, ())).bind fun r =>
 (MV.run m_ ((IntKind.i64.wrap (y - (IntKind.i64.wrap ((IntKind.i64.wrap (14 - m)).tdiv 12)))), 100, ())).bind fun r1 =>
 (MV.run m_ ((IntKind.i64.wrap (y - (IntKind.i64.wrap ((IntKind.i64.wrap (14 - m)).tdiv 12)))), 400, ())).bind fun r2 =>
 some (IntKind.i64.wrap ((IntKind.i64.wrap ((IntKind.i64.wrap ((IntKind.i64.wrap ((IntKind.i64.wrap ((IntKind.i64.wrap ((IntKind.i64.wrap ((IntKind.i64.wrap (y - (IntKind.i64.wrap ((IntKind.i64.wrap (14 - m)).tdiv 12)))) * 365)) + r)) - r1)) + r2)) + (IntKind.i64.wrap ((IntKind.i64.wrap ((IntKind.i64.wrap (((IntKind.i64.wrap (m + 9)).tmod 12) * 306)) + 5)).tdiv 10)))) + d)) - 307))
theorem k : KT (O m_) [] ⟨28, [.one (.int .i64), .one (.int .i64), .one (.int .i64)], .one (.sh (.one (.int .i64))), run m_⟩ [] := fun _ => by kernel_rfl
def c := co (k m_)
end MJ

namespace L_
def O : OO P := lD [MJ.c m_]
def e0 : Spec := ⟨[fs 17 [.q 56, .z 56, .b 0, .q 15] [(0, .w), (5, .w)]], [], 0⟩
def x0 : List Spec := [⟨[fs 17 [.q 15] [(0, .w), (5, .w)]], [], 0⟩]
abbrev A0 : Type := Int × Int × Unit
abbrev B0 : Type := (Int × Int × Unit)
def b0 (self : A0 -> Option B0) : A0 -> Option B0 := fun v_ => match v_ with
| (n, y, ()) =>
 (MJ.run m_ ((IntKind.i64.wrap (y + 1)), 1, 1, ())).bind fun r =>
 bif decide (r <= n) then
  self (n, (IntKind.i64.wrap (y + 1)), ())
 else
  some (n, y, ())
theorem k0 : KQ 17 (O m_) [] e0 x0 [] (b0 m_) := fun _ _ => by kernel_rfl
def l0 := loop m_ (b0 m_)
theorem q0 (v) : l0 .lim v = b0 .lim (l0 .lim) v := KS.q (k0 .lim) v
def s0 := so m_ (k0 m_)
def e1 : Spec := ⟨[fs 17 [.q 120, .z 120, .b 2, .q 31] [(0, .w), (5, .w)]], [], 0⟩
def x1 : List Spec := [⟨[fs 17 [.q 31] [(0, .w), (5, .w)]], [], 0⟩]
abbrev A1 : Type := Int × Int × Unit
abbrev B1 : Type := (Int × Int × Unit)
def b1 (self : A1 -> Option B1) : A1 -> Option B1 := fun v_ => match v_ with
| (n, y, ()) =>
 (MJ.run m_ (y, 1, 1, ())).bind fun r =>
 bif decide (r > n) then
  self (n, (IntKind.i64.wrap (y - 1)), ())
 else
  some (n, y, ())
theorem k1 : KQ 17 (O m_) [] e1 x1 [] (b1 m_) := fun _ _ => by kernel_rfl
def l1 := loop m_ (b1 m_)
theorem q1 (v) : l1 .lim v = b1 .lim (l1 .lim) v := KS.q (k1 .lim) v
def s1 := so m_ (k1 m_)
def e2 : Spec := ⟨[fs 17 [.q 504, .z 504, .b 4, .q 127] [(0, .w), (5, .w), (6, .w)]], [], 0⟩
def x2 : List Spec := [⟨[fs 17 [.q 127] [(0, .w), (5, .w), (6, .w)]], [], 0⟩]
abbrev A2 : Type := Int × Int × Int × Unit
abbrev B2 : Type := (Int × Int × Int × Unit)
def b2 (self : A2 -> Option B2) : A2 -> Option B2 := fun v_ => match v_ with
| (n, y, m, ()) =>
 (MJ.run m_ (y, m, 1, ())).bind fun r =>
 bif decide (r > n) then
  self (n, y, (IntKind.i64.wrap (m - 1)), ())
 else
  some (n, y, m, ())
theorem k2 : KQ 17 (O m_) [] e2 x2 [] (b2 m_) := fun _ _ => by kernel_rfl
def l2 := loop m_ (b2 m_)
theorem q2 (v) : l2 .lim v = b2 .lim (l2 .lim) v := KS.q (k2 .lim) v
def s2 := so m_ (k2 m_)
def run : Int × Unit -> Option (Int × Int × Int × Unit) := fun v_ => match v_ with
| (n, ()) =>
 (L_.l0 m_ (n, (IntKind.i64.wrap ((IntKind.i64.wrap ((IntKind.i64.wrap (n * 400)).tdiv 146097)) + 1)), ())).bind fun (n1, y, ()) =>
 (L_.l1 m_ (n1, y, ())).bind fun (n2, y1, ()) =>
 (L_.l2 m_ (n2, y1, 12, ())).bind fun (n3, y2, m, ()) =>
 (MJ.run m_ (y2, m, 1, ())).bind fun r =>
 some (y2, m, (IntKind.i64.wrap ((IntKind.i64.wrap (n3 - r)) + 1)), ())
theorem k : KT (O m_) [] ⟨17, [.one (.int .i64)], .iC [.sh (.one (.int .i64)), .sh (.one (.int .i64)), .sh (.one (.int .i64))], run m_⟩ [s0 m_, s1 m_, s2 m_] := fun _ => by kernel_rfl
def c := co (k m_)
end L_

namespace strconv_Itoa
def run (_ : CJ) : Int × Unit -> Option (List Int) := Fz
def c (m_ : CJ) : CO P := ⟨⟨29, [.one (.int .i64)], .one (.sh (.one .str)), run m_⟩, JR (by kernel_rfl) (fun _ h => h) fun n w h0 h1 ht => Go.Proofs.Any.strconv_Itoa Go.Proofs.Tryd.laysM171 n h0 h1 w ht⟩
end strconv_Itoa

namespace strings_Repeat
def run (_ : CJ) : (List Int) × Int × Unit -> Option (List Int) := Kz
def c (m_ : CJ) : CO P := ⟨⟨24, [.one .str, .one (.int .i64)], .one (.sh (.one .str)), run m_⟩, Jc (by kernel_rfl) fun s c w hc hl => Go.Proofs.Any.strings_Repeat Go.Proofs.Tryd.lays105 Go.Proofs.Tryd.Builder_Extra_105 s c w hc hl⟩
end strings_Repeat

namespace Mc
def O : OO P := lD [strings_Repeat.c m_, strconv_Itoa.c m_]
def run : Int × Int × Unit -> Option (List Int) := fun v_ => match v_ with
| (n, size, ()) =>
 (strconv_Itoa.run m_ (n, ())).bind fun r =>
 bif vF (r.length : Int) then
 (strings_Repeat.run m_ (([48] : List Int), (IntKind.i64.wrap (size - (r.length : Int))), ())).bind fun r1 =>
 bif decide (r1.length + r.length <= maxStr) then
 some (r1 ++ r) else none else none
theorem k : KT (O m_) [] ⟨18, [.one (.int .i64), .one (.int .i64)], .one (.sh (.one .str)), run m_⟩ [] := fun _ => by kernel_rfl
def c := co (k m_)
end Mc

namespace MS
def O : OO P := lD [L_.c m_, Mc.c m_]
def run : Int × Unit -> Option ((List Int) × Int × Unit) := fun v_ => match v_ with
| (t, ()) =>
 bif ((decide (t < (-62135596800))) || (decide (t > 253402300799))) then
  some (([] : List Int), 13, ())
 else
  (L_.run m_ ((IntKind.i64.wrap ((IntKind.i64.wrap (t - (-62135596800))).tdiv 86400)), ())).bind fun (r, r1, r2, ()) =>
  (Mc.run m_ (r, 4, ())).bind fun r3 =>
  (Mc.run m_ (r1, 2, ())).bind fun r4 =>
  bif decide (r3.length + r4.length <= maxStr) then
  (Mc.run m_ (r2, 2, ())).bind fun r5 =>
  bif decide ((r3 ++ r4).length + r5.length <= maxStr) then
  (Mc.run m_ ((IntKind.i64.wrap (((IntKind.i64.wrap (t - (-62135596800))).tmod 86400).tdiv 3600)), 2, ())).bind fun r6 =>
  bif decide (((r3 ++ r4) ++ r5).length + r6.length <= maxStr) then
  (Mc.run m_ (((IntKind.i64.wrap (((IntKind.i64.wrap (t - (-62135596800))).tmod 86400).tdiv 60)).tmod 60), 2, ())).bind fun r7 =>
  bif decide ((((r3 ++ r4) ++ r5) ++ r6).length + r7.length <= maxStr) then
  (Mc.run m_ ((((IntKind.i64.wrap (t - (-62135596800))).tmod 86400).tmod 60), 2, ())).bind fun r8 =>
  bif decide (((((r3 ++ r4) ++ r5) ++ r6) ++ r7).length + r8.length <= maxStr) then
  bif decide ((((((r3 ++ r4) ++ r5) ++ r6) ++ r7) ++ r8).length + ([90] : List Int).length <= maxStr) then
  some (((((((r3 ++ r4) ++ r5) ++ r6) ++ r7) ++ r8) ++ ([90] : List Int)), 0, ()) else none else none else none else none else none else none
theorem k : KT (O m_) [] ⟨6, [.one (.int .i64)], .iC [.sh (.one .str), .sh (.one (.int .i64))], run m_⟩ [] := fun _ => by kernel_rfl
def c := co (k m_)
end MS

namespace MG
def O (m_ : CJ) : OO P := lD []
def o0 : dJ := .c [.dat (.arr 32 (.int .u8))]
def e0 : Spec := ⟨[fs 35 [.q 116, .z 116, .b 0, .q 15] [(1, .ptr 0 0), (3, .ptr 1 0), (5, .w)]], [(0, .c [.dat N7]), (1, o0)], 2⟩
def x0 : List Spec := [⟨[fs 35 [.q 15] [(3, .ptr 0 0)]], [(0, o0)], 1⟩]
abbrev A0 : Type := Int × LI × LI × Unit
abbrev B0 : Type := (LI × Unit)
def b0 (m_ : CJ) (self : A0 -> Option B0) : A0 -> Option B0 := fun v_ => match v_ with
| (t, m, m1, ()) =>
 bif decide (t < 32) then
  bif inB (IntKind.i64.wrap (t.tdiv 8)) 4 then
  bif decide (0 <= (IntKind.i64.wrap (8 * (t.tmod 8)))) then
  bif inB t 32 then
  self ((IntKind.i64.wrap (t + 1)), m, (m1.set t.toNat (IntKind.u8.wrap (II .u64 (rd 0 m (IntKind.i64.wrap (t.tdiv 8))) (IntKind.i64.wrap (8 * (t.tmod 8)))))), ()) else none else none else none
 else
  some (m1, ())
theorem k0 : KQ 35 (O m_) [] e0 x0 [] (b0 m_) := fun _ _ => by kernel_rfl
def l0 := loop m_ (b0 m_)
theorem q0 (v) : l0 .lim v = b0 .lim (l0 .lim) v := KS.q (k0 .lim) v
def s0 := so m_ (k0 m_)
def run : (List Int) × Unit -> Option (List Int) := fun v_ => match v_ with
| (n, ()) =>
 (MG.l0 m_ (0, n, (List.replicate 32 (0 : Int)), ())).bind fun (m, ()) =>
 some ((m.drop 0).take 32)
theorem k : KT (O m_) [] ⟨35, [.one N7], .one (.sh (.one .str)), run m_⟩ [s0 m_] := fun _ => by kernel_rfl
def c := co (k m_)
end MG

namespace MH
def O (m_ : CJ) : OO P := lD []
def f0 : gq := fs 34 [.v 14 [1], .q 15] [(3, .oy 0)]
def e0 : Spec := ⟨[fs 25 [.q 12, .z 12, .b 0] [(0, .oy 0), (2, .w), (3, .w)], f0], [(0, .c [.ry])], 1⟩
def x0 : List Spec := [⟨[fs 25 [] [], f0], [(0, .c [.ry])], 1⟩]
abbrev A0 : Type := Int × Int × LI × Unit
abbrev B0 : Type := (LI × Unit)
def b0 (m_ : CJ) (self : A0 -> Option B0) : A0 -> Option B0 := fun v_ => match v_ with
| (i, j, m, ()) =>
 bif decide (i < j) then
  bif inB j (m.length : Int) then
  bif inB i (m.length : Int) then
  bif inB i (m.length : Int) then
  bif inB j ((m.set i.toNat (rd 0 m j)).length : Int) then
  self ((IntKind.i64.wrap (i + 1)), (IntKind.i64.wrap (j - 1)), ((m.set i.toNat (rd 0 m j)).set j.toNat (rd 0 m i)), ()) else none else none else none else none
 else
  some (m, ())
theorem k0 : KQ 34 (O m_) [25] e0 x0 [] (b0 m_) := fun _ _ => by kernel_rfl
def l0 := loop m_ (b0 m_)
theorem q0 (v) : l0 .lim v = b0 .lim (l0 .lim) v := KS.q (k0 .lim) v
def s0 := so m_ (k0 m_)
def run : (List Int) × Unit -> Option (List Int) := fun v_ => match v_ with
| (s, ()) =>
 bif vF (s.length : Int) then
 (MH.l0 m_ (0, (IntKind.i64.wrap ((s.length : Int) - 1)), s, ())).bind fun (m, ()) =>
 some m else none
theorem k : KT (O m_) [25] ⟨34, [.one .str], .one (.sh (.one .str)), run m_⟩ [s0 m_] := fun _ => by kernel_rfl
def c := co (k m_)
end MH

namespace M_
def O : OO P := lD [MH.c m_, MG.c m_]
def run : (List Int) × Unit -> Option (List Int) := fun v_ => match v_ with
| (n, ()) =>
 (MG.run m_ (n, ())).bind fun r =>
 (MH.run m_ (r, ())).bind fun r1 =>
 some r1
theorem k : KT (O m_) [] ⟨20, [.one N7], .one (.sh (.one .str)), run m_⟩ [] := fun _ => by kernel_rfl
def c := co (k m_)
end M_

namespace MK
def run (_ : CJ) : (List Int) × (List Int) × Unit -> Option (List Int) := Cj
def c (m_ : CJ) : CO P := ⟨⟨19, [.one .str, .one .str], .one (.sh (.one .str)), run m_⟩, Ic (by kernel_rfl) fun s c w h1 h2 => Go.Proofs.Any.strings_TrimLeft_laid Go.Proofs.Tryd.lays161 (by kernel_rfl) s c w h1 h2⟩
end MK

namespace MZ
def O : OO P := lD [MK.c m_, M_.c m_]
def run : (List Int) × Unit -> Option (List Int) := fun v_ => match v_ with
| (n, ()) =>
 (M_.run m_ (n, ())).bind fun r =>
 (MK.run m_ (r, ([0] : List Int), ())).bind fun r1 =>
 bif ((!(!(decide (r1 = ([] : List Int))))) || (inB 0 (r1.length : Int))) then
 bif ((decide (r1 = ([] : List Int))) || (decide ((rd 0 r1 0) > 127))) then
  bif decide (([0] : List Int).length + r1.length <= maxStr) then
  some (([0] : List Int) ++ r1) else none
 else
  some r1 else none
theorem k : KT (O m_) [] ⟨7, [.one N7], .one (.sh (.one .str)), run m_⟩ [] := fun _ => by kernel_rfl
def c := co (k m_)
end MZ

namespace LY
def O : OO P := lD [MS.c m_, MZ.c m_, Md.c m_, LZ.c m_]
def run : Unit -> Option (Bool) := fun v_ => match v_ with
| (()) =>
 (Md.run m_ ((2, ([5] : List Int)), ())).bind fun (r, r1, ()) =>
 (LZ.run m_ (([1, 2, 840, 10045] : List Int), ())).bind fun (r2, r3, ()) =>
 (MS.run m_ (0, ())).bind fun (r4, r5, ()) =>
 ((bif ((decide (r = ([2, 1, 5] : List Int))) && (decide (r1 = 0))) then MZ.run m_ (((List.replicate 4 (0 : Int) : List Int).set 0 200), ()) else some ([] : List Int))).bind fun r6 =>
 some (((((((decide (r = ([2, 1, 5] : List Int))) && (decide (r1 = 0))) && (decide (r6 = ([0, 200] : List Int)))) && (decide (r2 = ([42, 134, 72, 206, 61] : List Int)))) && (decide (r3 = 0))) && (decide (r4 = ([49, 57, 55, 48, 48, 49, 48, 49, 48, 48, 48, 48, 48, 48, 90] : List Int)))) && (decide (r5 = 0)))
theorem k : KT (O m_) [] ⟨9, [], .one (.sh (.one .bool)), run m_⟩ [] := fun _ => by kernel_rfl
def c := co (k m_)
end LY

namespace L6
def O : OO P := lD [LY.c m_, Md.c m_, MI.c m_]
def run : (Int × List Int) × (List Int) × (List Int) × Unit -> Option (Bool) := fun v_ => match v_ with
| (t, more, s, ()) =>
 (Md.run m_ (t, ())).bind fun (r, r1, ()) =>
 bif ((!((decide (t.1 >= 0)) && (decide (t.1 <= 255)))) || (vF (t.2.length : Int))) then
 bif !((decide (r1 = 0)) == (((decide (t.1 >= 0)) && (decide (t.1 <= 255))) && (decide ((t.2.length : Int) <= 65535)))) then
  some false
 else
  bif decide (r1 = 0) then
   bif decide (r.length + more.length <= maxStr) then
   (MI.run m_ ((r ++ more), ())).bind fun (r2, r3, r4, ()) =>
   bif (((!((decide (r2.1 = t.1)) && (decide (r2.2 = t.2)))) || (!(decide (r3 = more)))) || (!(decide (r4 = 0)))) then
    some false
   else
    (MI.run m_ (s, ())).bind fun (r5, r6, r7, ()) =>
    bif !(decide (r7 = 0)) then
     (LY.run m_ (())).bind fun r8 =>
     some r8
    else
     (Md.run m_ (r5, ())).bind fun (r9, r10, ()) =>
     bif ((!(decide (r10 = 0))) || (decide (r9.length + r6.length <= maxStr))) then
     ((bif ((decide (r10 = 0)) && (decide ((r9 ++ r6) = s))) then LY.run m_ (()) else some false)).bind fun r11 =>
     some (((decide (r10 = 0)) && (decide ((r9 ++ r6) = s))) && r11) else none else none
  else
   (MI.run m_ (s, ())).bind fun (r12, r13, Oj, ()) =>
   bif !(decide (Oj = 0)) then
    (LY.run m_ (())).bind fun Ol =>
    some Ol
   else
    (Md.run m_ (r12, ())).bind fun (r16, NM, ()) =>
    bif ((!(decide (NM = 0))) || (decide (r16.length + r13.length <= maxStr))) then
    ((bif ((decide (NM = 0)) && (decide ((r16 ++ r13) = s))) then LY.run m_ (()) else some false)).bind fun Om =>
    some (((decide (NM = 0)) && (decide ((r16 ++ r13) = s))) && Om) else none else none
theorem k : KT (O m_) [] ⟨4, [.ag Oo, .one .str, .one .str], .one (.sh (.one .bool)), run m_⟩ [] := fun _ => by kernel_rfl
def c := co (k m_)
end L6

end
end Go.AM
end
section
namespace Go.AM
theorem wrap64 {n : Int} (h1 : -9223372036854775808 <= n) (h2 : n < 9223372036854775808) : IntKind.i64.wrap n = n := by unfold IntKind.wrap; simp [IntKind.signed, IntKind.bits]; omega
theorem L9 {α : Type} {p : Prop} {i : Decidable p} {a b : α} : (bif @decide p i then a else b) = if p then a else b := by by_cases h : p <;> simp [h]
theorem L8 {n : Int} (h : n < 9223372036854775808) : vF n = true := by unfold vF; rw [Nat.blt_eq]; omega
theorem MN {i n : Int} (h1 : 0 <= i) (h2 : i < n) : inB i n = true := by simp [inB, h1, h2]
theorem MP (x y : Int) : mx x y = max x y := by unfold mx; split <;> omega
theorem MO (x y : Int) : mn x y = min x y := by unfold mn; split <;> omega
theorem Me {p : Prop} {i : Decidable p} (h : p) : @decide p i = true := decide_eq_true h
theorem MF {p : Prop} {i : Decidable p} (h : ¬p) : @decide p i = false := decide_eq_false h
theorem dec_not {p : Prop} {i : Decidable p} : (!@decide p i) = decide (¬p) := by by_cases h : p <;> simp [h]
theorem dec_and {p q : Prop} {i : Decidable p} {j : Decidable q} : (@decide p i && @decide q j) = decide (p /\ q) := by by_cases h : p <;> simp [h]
theorem MC {p q : Prop} {i : Decidable p} {j : Decidable q} : (@decide p i || @decide q j) = decide (p \/ q) := by by_cases h : p <;> simp [h]
theorem MB {l h n : Int} (h1 : 0 <= l) (h2 : l <= h) (h3 : h <= n) : rY l h n = true := by simp [rY, h1, h2, h3]
end Go.AM
end
section
namespace Go.AM
theorem Ny {n : Nat} (h : n < 9223372036854775808) : vF (n : Int) = true := L8 (by omega)
theorem Nz (n : Int) : IntKind.u8.wrap n = n % 256 := by unfold IntKind.wrap; simp [IntKind.signed, IntKind.bits]
end Go.AM
end
section
namespace Go.AM
abbrev B8 (x : Int) : Prop := 0 <= x /\ x < 256
theorem MW {n : Int} (h : B8 n) : IntKind.u8.wrap n = n := by rw [Nz]; unfold B8 at h; omega
def tab (n : Nat) (g : Nat -> Int) : List Int := (List.range n).map g
@[simp] theorem NG {n : Nat} {g : Nat -> Int} : (tab n g).length = n := by simp [tab]
def Oq (n k : Nat) (g : Nat -> Int) : List Int := tab n fun i => if i < k then g i else 0
@[simp] theorem NZ {n k : Nat} {g : Nat -> Int} : (Oq n k g).length = n := NG
end Go.AM
end
section
namespace Go.AM
theorem NK {w x y : Nat} (hx : x < 2 ^ w) (hy : y < 2 ^ w) : (BitVec.ofInt w (x : Int) ||| BitVec.ofInt w (y : Int)).toNat = x ||| y := by
 rw [BitVec.toNat_or, BitVec.toNat_ofInt, BitVec.toNat_ofInt];have e : ∀ z : Nat, z < 2 ^ w -> ((z : Int) % ((2 ^ w : Nat) : Int)).toNat = z := fun z hz => by rw [<- Int.natCast_emod, Int.toNat_natCast, Nat.mod_eq_of_lt hz]
 rw [e x hx, e y hy]
theorem NJ {a b m : Nat} (h : b < 2 ^ m) : 2 ^ m * a ||| b = 2 ^ m * a + b := (Nat.two_pow_add_eq_or_of_lt h a).symm
theorem NY {a b : Nat} (m : Nat) (h : b < 2 ^ m) (hm : 2 ^ m * a + b < 9223372036854775808) : Kt .i64 ((2 ^ m * a : Nat) : Int) (b : Int) = ((2 ^ m * a + b : Nat) : Int) := by
 show IntKind.i64.wrap ((BitVec.ofInt 64 ((2 ^ m * a : Nat) : Int) ||| BitVec.ofInt 64 (b : Int)).toNat : Int) = _;have h1 : 2 ^ m * a < 2 ^ 64 := Nat.lt_of_le_of_lt (Nat.le_add_right _ b) (Nat.lt_of_lt_of_le hm (by decide));have h2 : b < 2 ^ 64 := Nat.lt_of_le_of_lt (Nat.le_add_left _ (2 ^ m * a)) (Nat.lt_of_lt_of_le hm (by decide));rw [NK h1 h2, NJ h, wrap64 (by omega) (by omega)]
theorem Nu {a : Int} (h : B8 a) : ∃ n : Nat, a = (n : Int) /\ n < 256 := ⟨a.toNat, by have := h.1; omega, by have := h.1; have := h.2; omega⟩
theorem Oi {a b : Int} (ha : B8 a) (hb : B8 b) : Kt .i64 (IG .i64 (IntKind.i64.wrap a) 8) (IntKind.i64.wrap b) = a * 256 + b := by
 obtain ⟨x, rfl, hx⟩ := Nu ha;obtain ⟨y, rfl, hy⟩ := Nu hb;rw [wrap64 (by omega) (by omega), wrap64 (by omega) (by omega)];have e : IG .i64 (x : Int) 8 = ((2 ^ 8 * x : Nat) : Int) := by
  show IntKind.i64.wrap ((x : Int) * 2 ^ 8) = _;rw [wrap64 (by omega) (by omega)]; omega
 rw [e, NY 8 (by omega) (by omega)];omega
theorem ND (x : Int) (k m : Nat) (K : IntKind) (hm : m <= K.bits) : II K x (m : Int) = x / 2 ^ m := by
 show x.fdiv (2 ^ min ((m : Int).toNat) K.bits) = _;rw [Int.toNat_natCast, Nat.min_eq_left hm, Int.fdiv_eq_ediv_of_nonneg _ (by exact Int.le_of_lt (Int.pow_pos (by decide)))]
end Go.AM
end
section
namespace Go.AM
abbrev Bs (s : List Int) : Prop := ∀ x ∈ s, B8 x
theorem NH {α : Type} {s : List α} {a b : Nat} {i j : Int} (hi : i = (a : Int)) (hj : j = (b : Int)) : cut s i j = (s.take b).drop a := by subst hi; subst hj; rfl
theorem MX {α : Type} {s : List α} {a : Nat} {i : Int} (hi : i = (a : Int)) : cut s i (s.length : Int) = s.drop a := by subst hi; unfold cut; rw [Int.toNat_natCast, Int.toNat_natCast, List.take_length]
def Np {α β : Type} (b : (α -> Option β) -> α -> Option β) (l : α -> Option β) : Nat -> α -> Option β
 | 0 => l
 | n + 1 => b (Np b l n)
theorem NC {α β : Type} {b : (α -> Option β) -> α -> Option β} {l : α -> Option β} (q : ∀ v, l v = b l v) : ∀ n v, l v = Np b l n v
 | 0, _ => rfl
 | n + 1, v => by
  have e : l = Np b l n := funext (NC q n);show l v = b (Np b l n) v;rw [<- e]; exact q v
theorem Og : Md.run .lim ((2, [5]), ()) = some ([2, 1, 5], 0, ()) := by kernel_rfl
theorem NQ : LZ.l0 .lim (6, [840, 10045], 2, 0, [42], [72], ()) = some ([840, 10045], 2, 0, [42], [72, 134], ()) := (NC LZ.q0 2 _).trans (by kernel_rfl)
theorem NR : LZ.l1 .lim (0, 1, [840, 10045], 2, 0, [72, 134], [42], ()) = some ([840, 10045], 2, 0, [42], [134, 72], ()) := (NC LZ.q1 2 _).trans (by kernel_rfl)
theorem NS : LZ.l0 .lim (78, [840, 10045], 2, 1, [42, 134, 72], [61], ()) = some ([840, 10045], 2, 1, [42, 134, 72], [61, 206], ()) := (NC LZ.q0 2 _).trans (by kernel_rfl)
theorem NT : LZ.l1 .lim (0, 1, [840, 10045], 2, 1, [61, 206], [42, 134, 72], ()) = some ([840, 10045], 2, 1, [42, 134, 72], [206, 61], ()) := (NC LZ.q1 2 _).trans (by kernel_rfl)
theorem N8 : LZ.l2 .lim ([840, 10045], 2, 0, [42], ()) = some ([42, 134, 72, 206, 61], ()) := by
 rw [LZ.q2];show (LZ.l0 .lim (6, [840, 10045], 2, 0, [42], [72], ())).bind _ = _;rw [NQ];show (LZ.l1 .lim (0, 1, [840, 10045], 2, 0, [72, 134], [42], ())).bind _ = _;rw [NR];show LZ.l2 .lim ([840, 10045], 2, 1, [42, 134, 72], ()) = _;rw [LZ.q2];show (LZ.l0 .lim (78, [840, 10045], 2, 1, [42, 134, 72], [61], ())).bind _ = _;rw [NS];show (LZ.l1 .lim (0, 1, [840, 10045], 2, 1, [61, 206], [42, 134, 72], ())).bind _ = _;rw [NT];show LZ.l2 .lim ([840, 10045], 2, 2, [42, 134, 72, 206, 61], ()) = _;rw [LZ.q2];rfl
theorem Ob : LZ.run .lim ([1, 2, 840, 10045], ()) = some ([42, 134, 72, 206, 61], 0, ()) := by
 show (LZ.l2 .lim ([840, 10045], 2, 0, [42], ())).bind _ = _;rw [N8];rfl
theorem N9 : L_.run .lim (719162, ()) = some (1970, 1, 1, ()) := by
 show (L_.l0 .lim (719162, 1969, ())).bind _ = _;rw [show L_.l0 .lim (719162, 1969, ()) = some (719162, 1970, ()) from (NC L_.q0 2 _).trans (by kernel_rfl)];show (L_.l1 .lim (719162, 1970, ())).bind _ = _;rw [show L_.l1 .lim (719162, 1970, ()) = some (719162, 1970, ()) from (NC L_.q1 1 _).trans (by kernel_rfl)];show (L_.l2 .lim (719162, 1970, 12, ())).bind _ = _;rw [show L_.l2 .lim (719162, 1970, 12, ()) = some (719162, 1970, 1, ()) from (NC L_.q2 12 _).trans (by kernel_rfl)];rfl
theorem NW : Mc.run .lim (1970, 4, ()) = some [49, 57, 55, 48] := by kernel_rfl
theorem NV : Mc.run .lim (1, 2, ()) = some [48, 49] := by kernel_rfl
theorem NU : Mc.run .lim (0, 2, ()) = some [48, 48] := by kernel_rfl
theorem Oe : MS.run .lim (0, ()) = some ([49, 57, 55, 48, 48, 49, 48, 49, 48, 48, 48, 48, 48, 48, 90], 0, ()) := by
 have e1 : IntKind.i64.wrap (((IntKind.i64.wrap (0 - -62135596800)).tmod 86400).tdiv 3600) = 0 := by kernel_rfl
 have e2 : (IntKind.i64.wrap (((IntKind.i64.wrap (0 - -62135596800)).tmod 86400).tdiv 60)).tmod 60 = 0 := by kernel_rfl
 have e3 : ((IntKind.i64.wrap (0 - -62135596800)).tmod 86400).tmod 60 = 0 := by kernel_rfl
 have e4 : IntKind.i64.wrap ((IntKind.i64.wrap (0 - -62135596800)).tdiv 86400) = 719162 := by kernel_rfl
 have e5 : ((decide ((0 : Int) < -62135596800)) || (decide ((0 : Int) > 253402300799))) = false := by kernel_rfl
 simp only [MS.run, e1, e2, e3, e4, e5, N9, NW, NV, NU, Option.bind_some, cond_false];rfl
theorem Oa : MG.l0 .lim (0, [200, 0, 0, 0], List.replicate 32 0, ()) = some (200 :: List.replicate 31 0, ()) := (NC MG.q0 33 _).trans (by kernel_rfl)
theorem Oc : MH.l0 .lim (0, 31, 200 :: List.replicate 31 0, ()) = some (List.replicate 31 0 ++ [200], ()) := (NC MH.q0 17 _).trans (by kernel_rfl)
theorem N_ : MZ.run .lim ([200, 0, 0, 0], ()) = some [0, 200] := by
 have h : M_.run .lim ([200, 0, 0, 0], ()) = some (List.replicate 31 0 ++ [200]) := by
  show ((MG.l0 .lim (0, [200, 0, 0, 0], List.replicate 32 0, ())).bind _).bind _ = _;rw [Oa];show ((MH.l0 .lim (0, 31, 200 :: List.replicate 31 0, ())).bind _).bind _ = _;rw [Oc];rfl
 show (M_.run .lim ([200, 0, 0, 0], ())).bind _ = _;rw [h];kernel_rfl
theorem Nl : LY.run .lim () = some true := by
 show (Md.run .lim ((2, [5]), ())).bind _ = _;rw [Og];show (LZ.run .lim ([1, 2, 840, 10045], ())).bind _ = _;rw [Ob];show (MS.run .lim (0, ())).bind _ = _;rw [Oe];show (MZ.run .lim ([200, 0, 0, 0], ())).bind _ = _;rw [N_];rfl
def Nr (t : Int) (n : Nat) : List Int := if n < 128 then [t, n] else if n < 256 then [t, 129, n] else [t, 130, n / 256, n % 256]
def ML (t : Int) (b : List Int) : List Int × Int × Unit := if t < 0 \/ t > 255 then ([], 13, ()) else if b.length > 65535 then ([], 12, ()) else (Nr t b.length ++ b, 0, ())
theorem Nb {t : Int} {b : List Int} (hb : b.length < 4611686018427387904) : Md.run .lim ((t, b), ()) = some (ML t b) := by
 unfold ML;simp only [Md.run];by_cases h1 : t < 0 \/ t > 255
 ·simp (disch := omega) only [L8, MN, MB, wrap64, Me, MF, dec_not, dec_and, MC, L9, cond_true, cond_false, Option.bind_some, Option.bind_none, Bool.or_true, Bool.true_or, Bool.and_true, Bool.true_and, Bool.and_false, Bool.false_and, Bool.or_false, Bool.false_or, Bool.not_true, Bool.not_false, Bool.or_self, Bool.and_self, Bool.not_not, if_true, if_false, and_self, true_and, and_true, and_false, false_and, or_true, true_or, or_false, false_or, not_true_eq_false, not_false_eq_true, decide_true, decide_false, eq_self, if_pos, if_neg, MP, MO, h1]
 ·by_cases h2 : b.length > 65535
  ·simp (disch := omega) only [L8, MN, MB, wrap64, Me, MF, dec_not, dec_and, MC, L9, cond_true, cond_false, Option.bind_some, Option.bind_none, Bool.or_true, Bool.true_or, Bool.and_true, Bool.true_and, Bool.and_false, Bool.false_and, Bool.or_false, Bool.false_or, Bool.not_true, Bool.not_false, Bool.or_self, Bool.and_self, Bool.not_not, if_true, if_false, and_self, true_and, and_true, and_false, false_and, or_true, true_or, or_false, false_or, not_true_eq_false, not_false_eq_true, decide_true, decide_false, eq_self, if_pos, if_neg, MP, MO, h1, show (b.length : Int) > 65535 by omega, h2]
  ·have ht : IntKind.u8.wrap t = t := MW ⟨by omega, by omega⟩;have hmx : maxStr = 9223372036854775807 := rfl;unfold Nr;by_cases h3 : b.length < 128
   ·have hn : IntKind.u8.wrap (b.length : Int) = b.length := MW ⟨by omega, by omega⟩;simp (disch := omega) only [L8, MN, MB, wrap64, Me, MF, dec_not, dec_and, MC, L9, cond_true, cond_false, Option.bind_some, Option.bind_none, Bool.or_true, Bool.true_or, Bool.and_true, Bool.true_and, Bool.and_false, Bool.false_and, Bool.or_false, Bool.false_or, Bool.not_true, Bool.not_false, Bool.or_self, Bool.and_self, Bool.not_not, if_true, if_false, and_self, true_and, and_true, and_false, false_and, or_true, true_or, or_false, false_or, not_true_eq_false, not_false_eq_true, decide_true, decide_false, eq_self, if_pos, if_neg, MP, MO, h1, show ¬ (b.length : Int) > 65535 by omega, h2, ht, hn, show (b.length : Int) < 128 by omega, h3, List.length_cons, List.length_nil, hmx]
   ·by_cases h4 : b.length < 256
    ·have hn : IntKind.u8.wrap (b.length : Int) = b.length := MW ⟨by omega, by omega⟩;simp (disch := omega) only [L8, MN, MB, wrap64, Me, MF, dec_not, dec_and, MC, L9, cond_true, cond_false, Option.bind_some, Option.bind_none, Bool.or_true, Bool.true_or, Bool.and_true, Bool.true_and, Bool.and_false, Bool.false_and, Bool.or_false, Bool.false_or, Bool.not_true, Bool.not_false, Bool.or_self, Bool.and_self, Bool.not_not, if_true, if_false, and_self, true_and, and_true, and_false, false_and, or_true, true_or, or_false, false_or, not_true_eq_false, not_false_eq_true, decide_true, decide_false, eq_self, if_pos, if_neg, MP, MO, h1, show ¬ (b.length : Int) > 65535 by omega, h2, ht, hn, show ¬ (b.length : Int) < 128 by omega, h3, show (b.length : Int) < 256 by omega, h4, List.length_cons, List.length_nil, hmx]
    ·have hn : IntKind.u8.wrap (b.length : Int) = (b.length : Int) % 256 := Nz _;have hs : II .i64 (b.length : Int) 8 = (b.length : Int) / 256 := ND _ 8 8 .i64 (by decide);have hn2 : IntKind.u8.wrap ((b.length : Int) / 256) = (b.length : Int) / 256 := MW ⟨by omega, by omega⟩;simp (disch := omega) only [L8, MN, MB, wrap64, Me, MF, dec_not, dec_and, MC, L9, cond_true, cond_false, Option.bind_some, Option.bind_none, Bool.or_true, Bool.true_or, Bool.and_true, Bool.true_and, Bool.and_false, Bool.false_and, Bool.or_false, Bool.false_or, Bool.not_true, Bool.not_false, Bool.or_self, Bool.and_self, Bool.not_not, if_true, if_false, and_self, true_and, and_true, and_false, false_and, or_true, true_or, or_false, false_or, not_true_eq_false, not_false_eq_true, decide_true, decide_false, eq_self, if_pos, if_neg, MP, MO, h1, show ¬ (b.length : Int) > 65535 by omega, h2, ht, hn, hs, hn2, show ¬ (b.length : Int) < 128 by omega, h3, show ¬ (b.length : Int) < 256 by omega, h4, List.length_cons, List.length_nil, hmx]
def er (e : Int) : (Int × List Int) × List Int × Int × Unit := ((0, []), [], e, ())
def tk (t : Int) (n : Int) (r : List Int) : (Int × List Int) × List Int × Int × Unit := if (r.length : Int) < n then er 11 else ((t, r.take n.toNat), r.drop n.toNat, 0, ())
def MQ : List Int -> (Int × List Int) × List Int × Int × Unit
 | [] => er 11
 | [_] => er 11
 | t :: a :: r =>
  if a < 128 then tk t a r else if a = 128 \/ a > 130 then er 10 else if a = 129 then (match r with
   | [] => er 11
   | n :: r => if n < 128 then er 10 else tk t n r)
  else (match r with
   | [] => er 11
   | [_] => er 11
   | x :: y :: r => if x * 256 + y < 256 then er 10 else tk t (x * 256 + y) r)
def NI : List Int -> Int × Int × Int × Unit
 | [] => (0, 0, 11, ())
 | a :: r =>
  if a < 128 then (a, 1, 0, ()) else if a = 128 \/ a > 130 then (0, 0, 10, ()) else if a = 129 then (match r with
   | [] => (0, 0, 11, ())
   | n :: _ => if n < 128 then (0, 0, 10, ()) else (n, 2, 0, ()))
  else (match r with
   | [] => (0, 0, 11, ())
   | [_] => (0, 0, 11, ())
   | x :: y :: _ => if x * 256 + y < 256 then (0, 0, 10, ()) else (x * 256 + y, 3, 0, ()))
theorem length_eq {a : Int} {r : List Int} (hs : Bs (a :: r)) (hl : (a :: r).length < 4611686018427387904) : MR.run .lim (a :: r, ()) = some (NI (a :: r)) := by
 have ha := hs a (.head _);unfold B8 at ha;have e0 : rd 0 (a :: r) 0 = a := rfl;have w0 : IntKind.i64.wrap a = a := wrap64 (by omega) (by omega);have w1 : IntKind.i64.wrap (a - 128) = a - 128 := wrap64 (by omega) (by omega);have hp : 0 < ((a :: r).length : Int) := by rw [List.length_cons]; omega
 unfold NI;simp only [MR.run, e0, w0, w1];by_cases h1 : a < 128
 ·simp (disch := omega) only [L8, MN, MB, wrap64, Me, MF, dec_not, dec_and, MC, L9, cond_true, cond_false, Option.bind_some, Option.bind_none, Bool.or_true, Bool.true_or, Bool.and_true, Bool.true_and, Bool.and_false, Bool.false_and, Bool.or_false, Bool.false_or, Bool.not_true, Bool.not_false, Bool.or_self, Bool.and_self, Bool.not_not, if_true, if_false, and_self, true_and, and_true, and_false, false_and, or_true, true_or, or_false, false_or, not_true_eq_false, not_false_eq_true, decide_true, decide_false, eq_self, if_pos, if_neg, MP, MO, hp, h1, show a - 128 < 0 by omega]
 ·by_cases h2 : a = 128 \/ a > 130
  ·simp (disch := omega) only [L8, MN, MB, wrap64, Me, MF, dec_not, dec_and, MC, L9, cond_true, cond_false, Option.bind_some, Option.bind_none, Bool.or_true, Bool.true_or, Bool.and_true, Bool.true_and, Bool.and_false, Bool.false_and, Bool.or_false, Bool.false_or, Bool.not_true, Bool.not_false, Bool.or_self, Bool.and_self, Bool.not_not, if_true, if_false, and_self, true_and, and_true, and_false, false_and, or_true, true_or, or_false, false_or, not_true_eq_false, not_false_eq_true, decide_true, decide_false, eq_self, if_pos, if_neg, MP, MO, hp, h1, h2, show ¬ a - 128 < 0 by omega, show a - 128 = 0 \/ a - 128 > 2 by omega]
  ·by_cases h3 : a = 129
   ·subst h3
    match r, hs, hl with
    | [], _, _ =>
     simp (disch := omega) only [L8, MN, MB, wrap64, Me, MF, dec_not, dec_and, MC, L9, cond_true, cond_false, Option.bind_some, Option.bind_none, Bool.or_true, Bool.true_or, Bool.and_true, Bool.true_and, Bool.and_false, Bool.false_and, Bool.or_false, Bool.false_or, Bool.not_true, Bool.not_false, Bool.or_self, Bool.and_self, Bool.not_not, if_true, if_false, and_self, true_and, and_true, and_false, false_and, or_true, true_or, or_false, false_or, not_true_eq_false, not_false_eq_true, decide_true, decide_false, eq_self, if_pos, if_neg, MP, MO, hp, show ¬ (129 : Int) < 128 by omega, show ¬ (129 : Int) - 128 < 0 by omega, show ¬ ((129 : Int) = 128 \/ (129 : Int) > 130) by omega, show ¬ ((129 : Int) - 128 = 0 \/ (129 : Int) - 128 > 2) by omega, List.length_cons, List.length_nil]
     try rfl
    | n :: r, hs, hl =>
     have hn := hs n (.tail _ (.head _));unfold B8 at hn;have e1 : rd 0 (129 :: n :: r) 1 = n := rfl;have wn : IntKind.i64.wrap n = n := wrap64 (by omega) (by omega);have hl2 : ((129 :: n :: r).length : Int) = (r.length : Int) + 2 := by rw [List.length_cons, List.length_cons]; omega
     rw [List.length_cons, List.length_cons] at hl;by_cases h4 : n < 128
     ·simp (disch := omega) only [L8, MN, MB, wrap64, Me, MF, dec_not, dec_and, MC, L9, cond_true, cond_false, Option.bind_some, Option.bind_none, Bool.or_true, Bool.true_or, Bool.and_true, Bool.true_and, Bool.and_false, Bool.false_and, Bool.or_false, Bool.false_or, Bool.not_true, Bool.not_false, Bool.or_self, Bool.and_self, Bool.not_not, if_true, if_false, and_self, true_and, and_true, and_false, false_and, or_true, true_or, or_false, false_or, not_true_eq_false, not_false_eq_true, decide_true, decide_false, eq_self, if_pos, if_neg, MP, MO, hl2, show ¬ (129 : Int) < 128 by omega, show ¬ (129 : Int) - 128 < 0 by omega, show ¬ ((129 : Int) = 128 \/ (129 : Int) > 130) by omega, show ¬ ((129 : Int) - 128 = 0 \/ (129 : Int) - 128 > 2) by omega, show ¬ (r.length : Int) + 2 <= 129 - 128 by omega, e1, wn, h4, show ¬ (129 : Int) - 128 = 2 by omega]
     ·simp (disch := omega) only [L8, MN, MB, wrap64, Me, MF, dec_not, dec_and, MC, L9, cond_true, cond_false, Option.bind_some, Option.bind_none, Bool.or_true, Bool.true_or, Bool.and_true, Bool.true_and, Bool.and_false, Bool.false_and, Bool.or_false, Bool.false_or, Bool.not_true, Bool.not_false, Bool.or_self, Bool.and_self, Bool.not_not, if_true, if_false, and_self, true_and, and_true, and_false, false_and, or_true, true_or, or_false, false_or, not_true_eq_false, not_false_eq_true, decide_true, decide_false, eq_self, if_pos, if_neg, MP, MO, hl2, show ¬ (129 : Int) < 128 by omega, show ¬ (129 : Int) - 128 < 0 by omega, show ¬ ((129 : Int) = 128 \/ (129 : Int) > 130) by omega, show ¬ ((129 : Int) - 128 = 0 \/ (129 : Int) - 128 > 2) by omega, show ¬ (r.length : Int) + 2 <= 129 - 128 by omega, e1, wn, h4, show ¬ (129 : Int) - 128 = 2 by omega]
      try rfl
   ·obtain rfl : a = 130 := by omega
    match r, hs, hl with
    | [], _, _ =>
     simp (disch := omega) only [L8, MN, MB, wrap64, Me, MF, dec_not, dec_and, MC, L9, cond_true, cond_false, Option.bind_some, Option.bind_none, Bool.or_true, Bool.true_or, Bool.and_true, Bool.true_and, Bool.and_false, Bool.false_and, Bool.or_false, Bool.false_or, Bool.not_true, Bool.not_false, Bool.or_self, Bool.and_self, Bool.not_not, if_true, if_false, and_self, true_and, and_true, and_false, false_and, or_true, true_or, or_false, false_or, not_true_eq_false, not_false_eq_true, decide_true, decide_false, eq_self, if_pos, if_neg, MP, MO, hp, show ¬ (130 : Int) < 128 by omega, show ¬ (130 : Int) - 128 < 0 by omega, show ¬ ((130 : Int) = 128 \/ (130 : Int) > 130) by omega, show ¬ ((130 : Int) - 128 = 0 \/ (130 : Int) - 128 > 2) by omega, List.length_cons, List.length_nil]
     try rfl
    | [n], _, _ =>
     simp (disch := omega) only [L8, MN, MB, wrap64, Me, MF, dec_not, dec_and, MC, L9, cond_true, cond_false, Option.bind_some, Option.bind_none, Bool.or_true, Bool.true_or, Bool.and_true, Bool.true_and, Bool.and_false, Bool.false_and, Bool.or_false, Bool.false_or, Bool.not_true, Bool.not_false, Bool.or_self, Bool.and_self, Bool.not_not, if_true, if_false, and_self, true_and, and_true, and_false, false_and, or_true, true_or, or_false, false_or, not_true_eq_false, not_false_eq_true, decide_true, decide_false, eq_self, if_pos, if_neg, MP, MO, hp, show ¬ (130 : Int) < 128 by omega, show ¬ (130 : Int) - 128 < 0 by omega, show ¬ ((130 : Int) = 128 \/ (130 : Int) > 130) by omega, show ¬ ((130 : Int) - 128 = 0 \/ (130 : Int) - 128 > 2) by omega, List.length_cons, List.length_nil]
     try rfl
    | x :: y :: r, hs, hl =>
     have hx := hs x (.tail _ (.head _));have hy := hs y (.tail _ (.tail _ (.head _)));have e1 : rd 0 (130 :: x :: y :: r) 1 = x := rfl;have e2 : rd 0 (130 :: x :: y :: r) 2 = y := rfl;have en : Kt .i64 (IG .i64 (IntKind.i64.wrap x) 8) (IntKind.i64.wrap y) = x * 256 + y := Oi hx hy;unfold B8 at hx hy;rw [wrap64 (n := x) (by omega) (by omega), wrap64 (n := y) (by omega) (by omega)] at en;have hl2 : ((130 :: x :: y :: r).length : Int) = (r.length : Int) + 3 := by rw [List.length_cons, List.length_cons, List.length_cons]; omega
     rw [List.length_cons, List.length_cons, List.length_cons] at hl;by_cases h4 : x * 256 + y < 256
     ·simp (disch := omega) only [L8, MN, MB, wrap64, Me, MF, dec_not, dec_and, MC, L9, cond_true, cond_false, Option.bind_some, Option.bind_none, Bool.or_true, Bool.true_or, Bool.and_true, Bool.true_and, Bool.and_false, Bool.false_and, Bool.or_false, Bool.false_or, Bool.not_true, Bool.not_false, Bool.or_self, Bool.and_self, Bool.not_not, if_true, if_false, and_self, true_and, and_true, and_false, false_and, or_true, true_or, or_false, false_or, not_true_eq_false, not_false_eq_true, decide_true, decide_false, eq_self, if_pos, if_neg, MP, MO, hl2, show ¬ (130 : Int) < 128 by omega, show ¬ (130 : Int) - 128 < 0 by omega, show ¬ ((130 : Int) = 128 \/ (130 : Int) > 130) by omega, show ¬ ((130 : Int) - 128 = 0 \/ (130 : Int) - 128 > 2) by omega, show ¬ (r.length : Int) + 3 <= 130 - 128 by omega, e1, e2, en, h4, show (130 : Int) - 128 = 2 by omega]
      try rfl
     ·simp (disch := omega) only [L8, MN, MB, wrap64, Me, MF, dec_not, dec_and, MC, L9, cond_true, cond_false, Option.bind_some, Option.bind_none, Bool.or_true, Bool.true_or, Bool.and_true, Bool.true_and, Bool.and_false, Bool.false_and, Bool.or_false, Bool.false_or, Bool.not_true, Bool.not_false, Bool.or_self, Bool.and_self, Bool.not_not, if_true, if_false, and_self, true_and, and_true, and_false, false_and, or_true, true_or, or_false, false_or, not_true_eq_false, not_false_eq_true, decide_true, decide_false, eq_self, if_pos, if_neg, MP, MO, hl2, show ¬ (130 : Int) < 128 by omega, show ¬ (130 : Int) - 128 < 0 by omega, show ¬ ((130 : Int) = 128 \/ (130 : Int) > 130) by omega, show ¬ ((130 : Int) - 128 = 0 \/ (130 : Int) - 128 > 2) by omega, show ¬ (r.length : Int) + 3 <= 130 - 128 by omega, e1, e2, en, h4, show ¬ x * 256 + y < 128 by omega, show (130 : Int) - 128 = 2 by omega]
      try rfl
end Go.AM
end
section
namespace Go.AM
theorem Nh {s r : List Int} {t n : Int} (ht : rd 0 s 0 = t) (hb : B8 t) (hp : 0 < s.length) (hn : 0 <= n) (hr : r.length < 4611686018427387904) :
  (bif vF (r.length : Int) then bif decide ((r.length : Int) < n) then some (((0, ([] : List Int)), ([] : List Int), 11, ()) : (Int × List Int) × List Int × Int × Unit) else bif inB 0 (s.length : Int) then bif rY 0 n (r.length : Int) then bif rY n (r.length : Int) (r.length : Int) then
   some (((IntKind.i64.wrap (rd 0 s 0)), (cut r 0 n)), (cut r n (r.length : Int)), 0, ()) else none else none else none else none) = some (tk t n r) := by
 unfold B8 at hb;unfold tk er;by_cases h : (r.length : Int) < n
 ·simp (disch := omega) only [L8, MN, MB, wrap64, Me, MF, dec_not, dec_and, MC, L9, cond_true, cond_false, Option.bind_some, Option.bind_none, Bool.or_true, Bool.true_or, Bool.and_true, Bool.true_and, Bool.and_false, Bool.false_and, Bool.or_false, Bool.false_or, Bool.not_true, Bool.not_false, Bool.or_self, Bool.and_self, Bool.not_not, if_true, if_false, and_self, true_and, and_true, and_false, false_and, or_true, true_or, or_false, false_or, not_true_eq_false, not_false_eq_true, decide_true, decide_false, eq_self, if_pos, if_neg, MP, MO, h]
 ·have e1 : cut r 0 n = r.take n.toNat := by rw [NH (show (0 : Int) = ((0 : Nat) : Int) from rfl) (show n = ((n.toNat : Nat) : Int) by omega), List.drop_zero]
  have e2 : cut r n (r.length : Int) = r.drop n.toNat := MX (by omega);simp (disch := omega) only [L8, MN, MB, wrap64, Me, MF, dec_not, dec_and, MC, L9, cond_true, cond_false, Option.bind_some, Option.bind_none, Bool.or_true, Bool.true_or, Bool.and_true, Bool.true_and, Bool.and_false, Bool.false_and, Bool.or_false, Bool.false_or, Bool.not_true, Bool.not_false, Bool.or_self, Bool.and_self, Bool.not_not, if_true, if_false, and_self, true_and, and_true, and_false, false_and, or_true, true_or, or_false, false_or, not_true_eq_false, not_false_eq_true, decide_true, decide_false, eq_self, if_pos, if_neg, MP, MO, h, ht, e1, e2]
theorem Nq {s : List Int} (hs : Bs s) (hl : s.length < 4611686018427387904) : MI.run .lim (s, ()) = some (MQ s) := by
 match s, hs, hl with
 | [], _, _ => rfl
 | [x], _, _ => rfl
 | t :: a :: r, hs, hl =>
  have hs' : Bs (a :: r) := fun x hx => hs x (.tail _ hx)
  have ha := hs' a (.head _);have ht := hs t (.head _);have hc : cut (t :: a :: r) 1 ((t :: a :: r).length : Int) = a :: r := MX (a := 1) rfl;have hl1 : (t :: a :: r).length = r.length + 2 := rfl;simp only [MI.run, hc, length_eq hs' (by have : (a :: r).length = r.length + 1 := rfl; omega), Option.bind_some, Ny (show (t :: a :: r).length < 9223372036854775808 by omega), MF (show ¬ ((t :: a :: r).length : Int) < 2 by omega), cond_true, cond_false,
   MB (show (0 : Int) <= 1 by omega) (show (1 : Int) <= ((t :: a :: r).length : Int) by omega) (Int.le_refl _)]
  unfold B8 at ha;unfold NI MQ;by_cases h1 : a < 128
  ·have hk : cut (t :: a :: r) (IntKind.i64.wrap (1 + 1)) ((t :: a :: r).length : Int) = r := MX (a := 2) rfl;simp only [h1, if_true, Me (show (0 : Int) = 0 from rfl), Bool.not_true, cond_false, hk, MB (show (0 : Int) <= IntKind.i64.wrap (1 + 1) by decide) (show IntKind.i64.wrap (1 + 1) <= ((t :: a :: r).length : Int) by rw [hl1]; show (2 : Int) <= _; omega) (Int.le_refl _), cond_true];exact Nh rfl ht (by omega) ha.1 (by omega)
  ·by_cases h2 : a = 128 \/ a > 130
   ·simp only [h1, if_false, h2, if_true]; rfl
   ·by_cases h3 : a = 129
    ·subst h3;simp only [h1, if_false, h2, if_true]
     match r, hs, hl, hl1, hc with
     | [], _, _, _, _ => rfl
     | n :: r, hs, hl, hl1, hc =>
      have hn := hs n (.tail _ (.tail _ (.head _)));unfold B8 at hn;by_cases h4 : n < 128
      ·simp only [h4, if_true]; rfl
      ·have hk : cut (t :: 129 :: n :: r) (IntKind.i64.wrap (1 + 2)) ((t :: 129 :: n :: r).length : Int) = r := MX (a := 3) rfl;rw [List.length_cons] at hl1;simp only [h4, if_false, Me (show (0 : Int) = 0 from rfl), Bool.not_true, cond_false, hk, MB (show (0 : Int) <= IntKind.i64.wrap (1 + 2) by decide) (show IntKind.i64.wrap (1 + 2) <= ((t :: 129 :: n :: r).length : Int) by rw [List.length_cons]; show (3 : Int) <= _; rw [List.length_cons, List.length_cons]; omega) (Int.le_refl _), cond_true];exact Nh rfl ht (by rw [List.length_cons]; omega) hn.1 (by rw [List.length_cons, List.length_cons, List.length_cons] at hl; omega)
    ·obtain rfl : a = 130 := by omega
     simp only [h1, if_false, h2, h3]
     match r, hs, hl, hl1, hc with
     | [], _, _, _, _ => rfl
     | [_], _, _, _, _ => rfl
     | x :: y :: r, hs, hl, hl1, hc =>
      have hx := hs x (.tail _ (.tail _ (.head _)));have hy := hs y (.tail _ (.tail _ (.tail _ (.head _))));unfold B8 at hx hy;by_cases h4 : x * 256 + y < 256
      ·simp only [h4, if_true]; rfl
      ·have hk : cut (t :: 130 :: x :: y :: r) (IntKind.i64.wrap (1 + 3)) ((t :: 130 :: x :: y :: r).length : Int) = r := MX (a := 4) rfl;simp only [h4, if_false, Me (show (0 : Int) = 0 from rfl), Bool.not_true, cond_false, hk, MB (show (0 : Int) <= IntKind.i64.wrap (1 + 3) by decide) (show IntKind.i64.wrap (1 + 3) <= ((t :: 130 :: x :: y :: r).length : Int) by rw [List.length_cons]; show (4 : Int) <= _; rw [List.length_cons, List.length_cons, List.length_cons]; omega) (Int.le_refl _), cond_true];exact Nh rfl ht (by rw [List.length_cons]; omega) (by omega) (by rw [List.length_cons, List.length_cons, List.length_cons, List.length_cons] at hl; omega)
theorem Nk {t n : Int} {r u v rest : List Int} {t' : Int} (hn : 0 <= n) (h : tk t n r = ((t', v), rest, 0, ())) : t' = t /\ (v.length : Int) = n /\ v ++ rest = r := by
 unfold tk er at h;split at h
 ·simp at h
 ·rename_i hl;simp only [Prod.mk.injEq] at h;obtain ⟨⟨rfl, rfl⟩, rfl, _⟩ := h;exact ⟨rfl, by rw [List.length_take]; omega, List.take_append_drop _ _⟩
theorem back_eq {s : List Int} (hs : Bs s) {t : Int} {v rest : List Int} (h : MQ s = ((t, v), rest, 0, ())) : ∃ w, ML t v = (w, 0, ()) /\ w ++ rest = s := by
 match s, hs, h with
 | [], _, h => simp [MQ, er] at h
 | [_], _, h => simp [MQ, er] at h
 | t' :: a :: r, hs, h =>
  have ht := hs t' (.head _);have ha := hs a (.tail _ (.head _));unfold B8 at ht ha;simp only [MQ] at h;split at h
  ·rename_i h1;obtain ⟨rfl, h2, h3⟩ := Nk (u := []) ha.1 h;refine ⟨[t, (v.length : Int)] ++ v, ?_, ?_⟩
   ·unfold ML Nr; rw [if_neg (by omega), if_neg (by omega), if_pos (by omega)]
   ·rw [h2, List.append_assoc, h3]; rfl
  ·split at h
   ·simp [er] at h
   ·split at h
    ·rename_i h1 h2 h3;subst h3
     match r, hs, h with
     | [], _, h => simp [er] at h
     | n :: r, hs, h =>
      have hn := hs n (.tail _ (.tail _ (.head _)));unfold B8 at hn;simp only at h;split at h
      ·simp [er] at h
      ·rename_i h4;obtain ⟨rfl, h2, h3⟩ := Nk (u := []) hn.1 h;refine ⟨[t, 129, (v.length : Int)] ++ v, ?_, ?_⟩
       ·unfold ML Nr; rw [if_neg (by omega), if_neg (by omega), if_neg (by omega), if_pos (by omega)]
       ·rw [h2, List.append_assoc, h3]; rfl
    ·rename_i h1 h2 h3;obtain rfl : a = 130 := by omega
     match r, hs, h with
     | [], _, h => simp [er] at h
     | [_], _, h => simp [er] at h
     | x :: y :: r, hs, h =>
      have hx := hs x (.tail _ (.tail _ (.head _)));have hy := hs y (.tail _ (.tail _ (.tail _ (.head _))));unfold B8 at hx hy;simp only at h;split at h
      ·simp [er] at h
      ·rename_i h4;obtain ⟨rfl, h5, h6⟩ := Nk (u := []) (by omega) h;refine ⟨[t, 130, (v.length : Int) / 256, (v.length : Int) % 256] ++ v, ?_, ?_⟩
       ·unfold ML Nr; rw [if_neg (by omega), if_neg (by omega), if_neg (by omega), if_neg (by omega)]
       ·rw [h5, show (x * 256 + y) / 256 = x by omega, show (x * 256 + y) % 256 = y by omega, List.append_assoc, h6]; rfl
theorem Nj {t : Int} {b more : List Int} {n : Int} (hn : n = (b.length : Int)) : tk t n (b ++ more) = ((t, b), more, 0, ()) := by
 subst hn;unfold tk;rw [if_neg (by rw [List.length_append]; omega), Int.toNat_natCast, List.take_left', List.drop_left'] <;> rfl
theorem Nv {t : Int} {b more : List Int} (ht : 0 <= t /\ t <= 255) (hb : b.length <= 65535) : MQ (Nr t b.length ++ b ++ more) = ((t, b), more, 0, ()) := by
 unfold Nr;by_cases h1 : b.length < 128
 ·rw [if_pos h1];show MQ (t :: (b.length : Int) :: (b ++ more)) = _;simp only [MQ];rw [if_pos (by omega), Nj rfl]
 ·rw [if_neg h1];by_cases h2 : b.length < 256
  ·rw [if_pos h2];show MQ (t :: 129 :: (b.length : Int) :: (b ++ more)) = _;simp only [MQ];rw [if_neg (by omega), if_neg (by omega), if_pos trivial, if_neg (by omega), Nj rfl]
  ·rw [if_neg h2];show MQ (t :: 130 :: (b.length : Int) / 256 :: (b.length : Int) % 256 :: (b ++ more)) = _;simp only [MQ];rw [if_neg (by omega), if_neg (by omega), if_neg (by omega), if_neg (by omega), Nj (by omega)]
theorem Oh {t : Int} {n : Nat} (ht : 0 <= t /\ t <= 255) (hn : n <= 65535) : Bs (Nr t n) /\ (Nr t n).length <= 4 := by
 unfold Nr Bs B8;split
 ·exact ⟨fun x hx => by simp at hx; rcases hx with rfl | rfl <;> omega, by simp⟩
 ·split
  ·exact ⟨fun x hx => by simp at hx; rcases hx with rfl | rfl | rfl <;> omega, by simp⟩
  ·exact ⟨fun x hx => by simp at hx; rcases hx with rfl | rfl | rfl | rfl <;> omega, by simp⟩
theorem Nw {s : List Int} (hs : Bs s) : (∃ t v rest, MQ s = ((t, v), rest, 0, ())) \/ ∃ e, e ≠ 0 /\ MQ s = er e := by
 have htk : ∀ t n r, (∃ t' v rest, tk t n r = ((t', v), rest, 0, ())) \/ ∃ e, e ≠ 0 /\ tk t n r = er e := fun t n r => by
  unfold tk;split
  ·exact .inr ⟨11, by decide, rfl⟩
  ·exact .inl ⟨_, _, _, rfl⟩
 have h11 : ∀ e : Int, e ≠ 0 -> (∃ t' v rest, er e = ((t', v), rest, 0, ())) \/ ∃ e', e' ≠ 0 /\ er e = er e' := fun e he => .inr ⟨e, he, rfl⟩
 match s with
 | [] => exact h11 11 (by decide)
 | [_] => exact h11 11 (by decide)
 | t :: a :: r =>
  simp only [MQ];split
  ·exact htk _ _ _
  ·split
   ·exact h11 10 (by decide)
   ·split
    ·match r with
     | [] => exact h11 11 (by decide)
     | n :: r => simp only; split; exact h11 10 (by decide); exact htk _ _ _
    ·match r with
     | [] => exact h11 11 (by decide)
     | [_] => exact h11 11 (by decide)
     | x :: y :: r => simp only; split; exact h11 10 (by decide); exact htk _ _ _
theorem Ns {s : List Int} (hs : Bs s) (hl : s.length < 4611686018427387904) :
  ((MI.run .lim (s, ())).bind fun (r12, r13, Oj, ()) =>
  bif !(decide (Oj = 0)) then
  (LY.run .lim (())).bind fun Ol =>
  some Ol
  else
  (Md.run .lim (r12, ())).bind fun (r16, NM, ()) =>
  bif ((!(decide (NM = 0))) || (decide (r16.length + r13.length <= maxStr))) then
  ((bif ((decide (NM = 0)) && (decide ((r16 ++ r13) = s))) then LY.run .lim (()) else some false)).bind fun Om =>
  some (((decide (NM = 0)) && (decide ((r16 ++ r13) = s))) && Om) else none) = some true := by
 rw [Nq hs hl, Option.bind_some];rcases Nw hs with ⟨t, v, rest, h⟩ | ⟨e, he, h⟩
 ·obtain ⟨w, hw, rfl⟩ := back_eq hs h;have hv : v.length < 4611686018427387904 := by
   have : v.length <= 65535 := by
    unfold ML at hw;split at hw
    ·simp at hw
    ·split at hw
     ·simp at hw
     ·omega
   omega
  rw [List.length_append] at hl;simp only [h, Me (show (0 : Int) = 0 from rfl), Bool.not_true, cond_false, Nb hv, hw, Option.bind_some, Bool.true_and, Bool.false_or, Me (show w.length + rest.length <= maxStr by show _ <= 9223372036854775807; omega), cond_true, Me (show w ++ rest = w ++ rest from rfl), Nl, decide_true, Bool.not_true, Bool.or_true, Bool.and_self]
 ·simp only [h, er, MF he, Bool.not_false, cond_true, Nl, Option.bind_some]
theorem Na {t : Int} {b more s : List Int} (hb : b.length < 4611686018427387904) (hbb : Bs b) (hm : more.length <= 140737488351232) (hmb : Bs more) (hs : Bs s) (hl : s.length < 4611686018427387904) : L6.run .lim ((t, b), more, s, ()) = some true := by
 simp only [L6.run, Nb hb, Option.bind_some];have hts := Ns hs hl;have hsm : vF (b.length : Int) = true := Ny (by omega);by_cases h1 : t < 0 \/ t > 255
 ·have e : ML t b = ([], 13, ()) := by unfold ML; rw [if_pos h1]
  have e2 : (decide (t >= 0) && decide (t <= 255)) = false := by rw [Bool.and_eq_false_iff, decide_eq_false_iff_not, decide_eq_false_iff_not]; omega
  simp only [e, e2, Bool.not_false, Bool.true_or, cond_true, Bool.false_and, MF (show ¬ (13 : Int) = 0 by decide), BEq.rfl, Bool.not_true, cond_false];exact hts
 ·have e2 : (decide (t >= 0) && decide (t <= 255)) = true := by rw [Bool.and_eq_true, decide_eq_true_eq, decide_eq_true_eq]; omega
  by_cases h2 : b.length > 65535
  ·have e : ML t b = ([], 12, ()) := by unfold ML; rw [if_neg h1, if_pos h2]
   simp only [e, e2, hsm, Bool.not_true, Bool.or_true, cond_true, Bool.true_and, MF (show ¬ (12 : Int) = 0 by decide), MF (show ¬ (b.length : Int) <= 65535 by omega), BEq.rfl, cond_false];exact hts
  ·have e : ML t b = (Nr t b.length ++ b, 0, ()) := by unfold ML; rw [if_neg h1, if_neg h2]
   have hd := Oh (t := t) (n := b.length) (by omega) (by omega);have hl4 : (Nr t b.length ++ b).length + more.length <= maxStr := by
    show _ <= 9223372036854775807;rw [List.length_append]; omega
   have hr : MI.run .lim ((Nr t b.length ++ b ++ more), ()) = some ((t, b), more, 0, ()) := by
    rw [Nq, Nv (by omega) (by omega)]
    ·intro x hx;rcases List.mem_append.1 hx with hx | hx
     ·rcases List.mem_append.1 hx with hx | hx
      ·exact hd.1 x hx
      ·exact hbb x hx
     ·exact hmb x hx
    ·rw [List.length_append, List.length_append]; omega
   simp only [e, e2, hsm, Bool.not_true, Bool.or_true, cond_true, Bool.true_and, Me (show (0 : Int) = 0 by decide), Me (show (b.length : Int) <= 65535 by omega), BEq.rfl, cond_false, Me hl4, hr, Option.bind_some,
    Me (show t = t from rfl), Me (show b = b from rfl), Me (show more = more from rfl), Bool.or_self]
   exact hts
theorem Nc : ∀ x, oks [.ag (.pair (.int .i64) .str), .one .str, .one .str] x -> L6.run .lim x = some true := by
 intro x h
 match x with
 | (t, more, s, ()) =>
  obtain ⟨h1, h2, h3, _⟩ := h;exact Na (t := t.1) (b := t.2) (Nat.lt_of_le_of_lt h1.2.1 (by decide)) h1.2.2 h2.1 h2.2 h3.2 (Nat.lt_of_le_of_lt h3.1 (by decide))
end Go.AM
end

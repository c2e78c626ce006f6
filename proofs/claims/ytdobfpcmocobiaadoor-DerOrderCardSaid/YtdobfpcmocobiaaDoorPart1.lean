import Derived.Test.YtdobfpcmocobiaaDoorAm4
import Derived.Test.YtdobfpcmocobiaaDoorProg
import Derived.Shelf.Strings.Repeat

/-! The functions that the laws of this seat reach, as plain functions, and what these answer; no condition. -/
set_option linter.unusedSimpArgs false
set_option linter.unusedVariables false
set_option linter.unusedSectionVars false

section
namespace Go.Proofs
def Tryd.laysM171_ren : Go.Shelf.Ren := ⟨fun | 171 => 29 | 243 => 50 | 246 => 66 | 283 => 75 | 284 => 76 | 285 => 77 | 286 => 78 | 129 => 86 | 317 => 85 | 318 => 87 | 319 => 88 | 320 => 89 | 337 => 91 | 338 => 92 | n => n, fun | 3 => 3 | 9 => 9 | 2 => 2 | 4 => 4 | 171 => 112 | 0 => 0 | 53 => 22 | 37 => 53 | 5 => 5 | 173 => 115 | 212 => 131 | 51 => 52 | 20 => 20 | 213 => 132 | 46 => 54 | 232 => 89 | 233 => 136 | n => n, fun | 17 => 5 | 18 => 6 | 19 => 7 | n => n⟩
theorem Tryd.laysM171 : Go.Proofs.LaysM.n171 Tryd.prog Tryd.laysM171_ren := {
  mixed := by kernel_rfl
  f129 := Tryd.func86.trans (congrArg some (by kernel_rfl))
  f171 := Tryd.func29.trans (congrArg some (by kernel_rfl))
  f243 := Tryd.func50.trans (congrArg some (by kernel_rfl))
  f246 := Tryd.func66.trans (congrArg some (by kernel_rfl))
  f283 := Tryd.func75.trans (congrArg some (by kernel_rfl))
  f284 := Tryd.func76.trans (congrArg some (by kernel_rfl))
  f285 := Tryd.func77.trans (congrArg some (by kernel_rfl))
  f286 := Tryd.func78.trans (congrArg some (by kernel_rfl))
  f317 := Tryd.func85.trans (congrArg some (by kernel_rfl))
  f318 := Tryd.func87.trans (congrArg some (by kernel_rfl))
  f319 := Tryd.func88.trans (congrArg some (by kernel_rfl))
  f320 := Tryd.func89.trans (congrArg some (by kernel_rfl))
  f337 := Tryd.func91.trans (congrArg some (by kernel_rfl))
  f338 := Tryd.func92.trans (congrArg some (by kernel_rfl))
  t0 := Tryd.underlying0
  a0 := Tryd.isAgg0
  z0 := Tryd.sizeOf0
  v0 := Tryd.zeroValue0
  t2 := Tryd.underlying2
  a2 := Tryd.isAgg2
  z2 := Tryd.sizeOf2
  v2 := Tryd.zeroValue2
  t3 := Tryd.underlying3
  a3 := Tryd.isAgg3
  z3 := Tryd.sizeOf3
  v3 := Tryd.zeroValue3
  t4 := Tryd.underlying4
  a4 := Tryd.isAgg4
  z4 := Tryd.sizeOf4
  v4 := Tryd.zeroValue4
  t5 := Tryd.underlying5
  a5 := Tryd.isAgg5
  z5 := Tryd.sizeOf5
  v5 := Tryd.zeroValue5
  t9 := Tryd.underlying9
  a9 := Tryd.isAgg9
  z9 := Tryd.sizeOf9
  v9 := Tryd.zeroValue9
  t20 := Tryd.underlying20
  a20 := Tryd.isAgg20
  z20 := Tryd.sizeOf20
  v20 := Tryd.zeroValue20
  t37 := Tryd.underlying53
  a37 := Tryd.isAgg53
  z37 := Tryd.sizeOf53
  v37 := Tryd.zeroValue53
  t46 := Tryd.underlying54
  a46 := Tryd.isAgg54
  z46 := Tryd.sizeOf54
  v46 := Tryd.zeroValue54
  t51 := Tryd.underlying52
  a51 := Tryd.isAgg52
  z51 := Tryd.sizeOf52
  v51 := Tryd.zeroValue52
  t53 := Tryd.underlying22
  a53 := Tryd.isAgg22
  z53 := Tryd.sizeOf22
  v53 := Tryd.zeroValue22
  t171 := Tryd.underlying112
  a171 := Tryd.isAgg112
  z171 := Tryd.sizeOf112
  v171 := Tryd.zeroValue112
  t173 := Tryd.underlying115
  a173 := Tryd.isAgg115
  z173 := Tryd.sizeOf115
  v173 := Tryd.zeroValue115
  t212 := Tryd.underlying131
  a212 := Tryd.isAgg131
  z212 := Tryd.sizeOf131
  v212 := Tryd.zeroValue131
  t213 := Tryd.underlying132
  a213 := Tryd.isAgg132
  z213 := Tryd.sizeOf132
  t232 := Tryd.underlying89
  a232 := Tryd.isAgg89
  z232 := Tryd.sizeOf89
  v232 := Tryd.zeroValue89
  t233 := Tryd.underlying136
  a233 := Tryd.isAgg136
  z233 := Tryd.sizeOf136
  v233 := Tryd.zeroValue136
  g17 := by kernel_rfl
  g18 := by kernel_rfl
  g19 := by kernel_rfl
  i0 := by kernel_rfl
  i2 := by kernel_rfl
  i3 := by kernel_rfl
  i4 := by kernel_rfl
  i5 := by kernel_rfl
  i9 := by kernel_rfl
  i20 := by kernel_rfl
  i37 := by kernel_rfl
  i46 := by kernel_rfl
  i51 := by kernel_rfl
  i53 := by kernel_rfl
  i171 := by kernel_rfl
  i173 := by kernel_rfl
  i212 := by kernel_rfl
  i232 := by kernel_rfl
  i233 := by kernel_rfl
  m17 := by kernel_rfl
  m18 := by kernel_rfl
  m19 := by kernel_rfl }
def Tryd.lays105_ren : Go.Shelf.Ren := ⟨fun | 105 => 24 | 212 => 38 | 99 => 39 | 165 => 40 | 166 => 41 | 170 => 42 | 169 => 43 | 263 => 56 | 264 => 57 | 206 => 54 | 240 => 58 | 241 => 59 | 276 => 69 | 277 => 70 | n => n, fun | 9 => 9 | 3 => 3 | 4 => 4 | 20 => 20 | 0 => 0 | 46 => 54 | 109 => 74 | 5 => 5 | 72 => 79 | 76 => 62 | 51 => 52 | 146 => 91 | 53 => 22 | 148 => 93 | 70 => 77 | 37 => 53 | 75 => 61 | 127 => 95 | 164 => 104 | 80 => 82 | n => n, fun | n => n⟩
theorem Tryd.lays105 : Go.Proofs.Lays.n105 Tryd.prog Tryd.lays105_ren := {
  mixed := by kernel_rfl
  f99 := Tryd.func39.trans (congrArg some (by kernel_rfl))
  f105 := Tryd.func24.trans (congrArg some (by kernel_rfl))
  f165 := Tryd.func40.trans (congrArg some (by kernel_rfl))
  f166 := Tryd.func41.trans (congrArg some (by kernel_rfl))
  f169 := Tryd.func43.trans (congrArg some (by kernel_rfl))
  f170 := Tryd.func42.trans (congrArg some (by kernel_rfl))
  f206 := Tryd.func54.trans (congrArg some (by kernel_rfl))
  f212 := Tryd.func38.trans (congrArg some (by kernel_rfl))
  f240 := Tryd.func58.trans (congrArg some (by kernel_rfl))
  f241 := Tryd.func59.trans (congrArg some (by kernel_rfl))
  f263 := Tryd.func56.trans (congrArg some (by kernel_rfl))
  f264 := Tryd.func57.trans (congrArg some (by kernel_rfl))
  f276 := Tryd.func69.trans (congrArg some (by kernel_rfl))
  f277 := Tryd.func70.trans (congrArg some (by kernel_rfl))
  t0 := Tryd.underlying0
  a0 := Tryd.isAgg0
  z0 := Tryd.sizeOf0
  v0 := Tryd.zeroValue0
  t3 := Tryd.underlying3
  a3 := Tryd.isAgg3
  z3 := Tryd.sizeOf3
  v3 := Tryd.zeroValue3
  t4 := Tryd.underlying4
  a4 := Tryd.isAgg4
  z4 := Tryd.sizeOf4
  v4 := Tryd.zeroValue4
  t5 := Tryd.underlying5
  a5 := Tryd.isAgg5
  z5 := Tryd.sizeOf5
  v5 := Tryd.zeroValue5
  t9 := Tryd.underlying9
  a9 := Tryd.isAgg9
  z9 := Tryd.sizeOf9
  v9 := Tryd.zeroValue9
  t20 := Tryd.underlying20
  a20 := Tryd.isAgg20
  z20 := Tryd.sizeOf20
  v20 := Tryd.zeroValue20
  t37 := Tryd.underlying53
  a37 := Tryd.isAgg53
  z37 := Tryd.sizeOf53
  v37 := Tryd.zeroValue53
  t46 := Tryd.underlying54
  a46 := Tryd.isAgg54
  z46 := Tryd.sizeOf54
  v46 := Tryd.zeroValue54
  t51 := Tryd.underlying52
  a51 := Tryd.isAgg52
  z51 := Tryd.sizeOf52
  v51 := Tryd.zeroValue52
  t53 := Tryd.underlying22
  a53 := Tryd.isAgg22
  z53 := Tryd.sizeOf22
  v53 := Tryd.zeroValue22
  t70 := Tryd.underlying77
  a70 := Tryd.isAgg77
  z70 := Tryd.sizeOf77
  v70 := Tryd.zeroValue77
  t72 := Tryd.underlying79
  a72 := Tryd.isAgg79
  z72 := Tryd.sizeOf79
  v72 := Tryd.zeroValue79
  t75 := Tryd.underlying61
  a75 := Tryd.isAgg61
  z75 := Tryd.sizeOf61
  v75 := Tryd.zeroValue61
  t76 := Tryd.underlying62
  a76 := Tryd.isAgg62
  z76 := Tryd.sizeOf62
  v76 := Tryd.zeroValue62
  t109 := Tryd.underlying74
  a109 := Tryd.isAgg74
  z109 := Tryd.sizeOf74
  v109 := Tryd.zeroValue74
  t127 := Tryd.underlying95
  a127 := Tryd.isAgg95
  z127 := Tryd.sizeOf95
  v127 := Tryd.zeroValue95
  t146 := Tryd.underlying91
  a146 := Tryd.isAgg91
  z146 := Tryd.sizeOf91
  v146 := Tryd.zeroValue91
  t148 := Tryd.underlying93
  a148 := Tryd.isAgg93
  z148 := Tryd.sizeOf93
  v148 := Tryd.zeroValue93
  t164 := Tryd.underlying104
  a164 := Tryd.isAgg104
  z164 := Tryd.sizeOf104
  v164 := Tryd.zeroValue104 }
theorem Tryd.Builder_Extra_105 : Builder.Extra Tryd.prog Tryd.lays105_ren := {
  sizeBuilder := by kernel_rfl
  liesBuilder := by kernel_rfl
  t5 := Tryd.underlying5
  a5 := Tryd.isAgg5
  z5 := Tryd.sizeOf5
  v5 := Tryd.zeroValue5
  infoByte := by kernel_rfl
  cellsByte := by kernel_rfl
  sizeByte := by kernel_rfl
  neB5 := by decide }
def Tryd.lays161_ren : Go.Shelf.Ren := ⟨fun | 161 => 19 | 231 => 30 | 227 => 31 | 233 => 32 | 235 => 33 | 228 => 51 | 197 => 52 | 151 => 53 | 260 => 67 | 152 => 68 | 137 => 79 | 119 => 80 | 224 => 81 | 225 => 82 | 217 => 90 | 266 => 93 | n => n, fun | 9 => 9 | 4 => 4 | 3 => 3 | 5 => 5 | 117 => 69 | 116 => 68 | 0 => 0 | 124 => 72 | 105 => 86 | 21 => 21 | 119 => 117 | 46 => 54 | 139 => 120 | 138 => 119 | n => n, fun | 3 => 2 | 4 => 3 | n => n⟩
theorem Tryd.lays161 : Go.Proofs.Lays.n161 Tryd.prog Tryd.lays161_ren := {
  mixed := by kernel_rfl
  f119 := Tryd.func80.trans (congrArg some (by kernel_rfl))
  f137 := Tryd.func79.trans (congrArg some (by kernel_rfl))
  f151 := Tryd.func53.trans (congrArg some (by kernel_rfl))
  f152 := Tryd.func68.trans (congrArg some (by kernel_rfl))
  f161 := Tryd.func19.trans (congrArg some (by kernel_rfl))
  f197 := Tryd.func52.trans (congrArg some (by kernel_rfl))
  f217 := Tryd.func90.trans (congrArg some (by kernel_rfl))
  f224 := Tryd.func81.trans (congrArg some (by kernel_rfl))
  f225 := Tryd.func82.trans (congrArg some (by kernel_rfl))
  f227 := Tryd.func31.trans (congrArg some (by kernel_rfl))
  f228 := Tryd.func51.trans (congrArg some (by kernel_rfl))
  f231 := Tryd.func30.trans (congrArg some (by kernel_rfl))
  f233 := Tryd.func32.trans (congrArg some (by kernel_rfl))
  f235 := Tryd.func33.trans (congrArg some (by kernel_rfl))
  f260 := Tryd.func67.trans (congrArg some (by kernel_rfl))
  f266 := Tryd.func93.trans (congrArg some (by kernel_rfl))
  t0 := Tryd.underlying0
  a0 := Tryd.isAgg0
  z0 := Tryd.sizeOf0
  v0 := Tryd.zeroValue0
  t3 := Tryd.underlying3
  a3 := Tryd.isAgg3
  z3 := Tryd.sizeOf3
  v3 := Tryd.zeroValue3
  t4 := Tryd.underlying4
  a4 := Tryd.isAgg4
  z4 := Tryd.sizeOf4
  v4 := Tryd.zeroValue4
  t5 := Tryd.underlying5
  a5 := Tryd.isAgg5
  z5 := Tryd.sizeOf5
  v5 := Tryd.zeroValue5
  t9 := Tryd.underlying9
  a9 := Tryd.isAgg9
  z9 := Tryd.sizeOf9
  v9 := Tryd.zeroValue9
  t21 := Tryd.underlying21
  a21 := Tryd.isAgg21
  z21 := Tryd.sizeOf21
  v21 := Tryd.zeroValue21
  t46 := Tryd.underlying54
  a46 := Tryd.isAgg54
  z46 := Tryd.sizeOf54
  v46 := Tryd.zeroValue54
  t105 := Tryd.underlying86
  a105 := Tryd.isAgg86
  z105 := Tryd.sizeOf86
  v105 := Tryd.zeroValue86
  t116 := Tryd.underlying68
  a116 := Tryd.isAgg68
  z116 := Tryd.sizeOf68
  t117 := Tryd.underlying69
  a117 := Tryd.isAgg69
  z117 := Tryd.sizeOf69
  v117 := Tryd.zeroValue69
  t119 := Tryd.underlying117
  a119 := Tryd.isAgg117
  z119 := Tryd.sizeOf117
  t124 := Tryd.underlying72
  a124 := Tryd.isAgg72
  z124 := Tryd.sizeOf72
  v124 := Tryd.zeroValue72
  t138 := Tryd.underlying119
  a138 := Tryd.isAgg119
  z138 := Tryd.sizeOf119
  v138 := Tryd.zeroValue119
  t139 := Tryd.underlying120
  a139 := Tryd.isAgg120
  z139 := Tryd.sizeOf120
  v139 := Tryd.zeroValue120
  g3 := by kernel_rfl
  g4 := by kernel_rfl }
def Tryd.lays160_ren : Go.Shelf.Ren := ⟨fun | 160 => 26 | 232 => 44 | 231 => 30 | 227 => 31 | 234 => 45 | 233 => 32 | 236 => 46 | 235 => 33 | 228 => 51 | 271 => 60 | 151 => 53 | 197 => 52 | 120 => 71 | 152 => 68 | 260 => 67 | 137 => 79 | 119 => 80 | 224 => 81 | 225 => 82 | 217 => 90 | 266 => 93 | n => n, fun | 9 => 9 | 4 => 4 | 3 => 3 | 5 => 5 | 117 => 69 | 116 => 68 | 0 => 0 | 124 => 72 | 21 => 21 | 105 => 86 | 46 => 54 | 119 => 117 | 139 => 120 | 138 => 119 | n => n, fun | 3 => 2 | 4 => 3 | n => n⟩
theorem Tryd.lays160 : Go.Proofs.Lays.n160 Tryd.prog Tryd.lays160_ren := {
  mixed := by kernel_rfl
  f119 := Tryd.func80.trans (congrArg some (by kernel_rfl))
  f120 := Tryd.func71.trans (congrArg some (by kernel_rfl))
  f137 := Tryd.func79.trans (congrArg some (by kernel_rfl))
  f151 := Tryd.func53.trans (congrArg some (by kernel_rfl))
  f152 := Tryd.func68.trans (congrArg some (by kernel_rfl))
  f160 := Tryd.func26.trans (congrArg some (by kernel_rfl))
  f197 := Tryd.func52.trans (congrArg some (by kernel_rfl))
  f217 := Tryd.func90.trans (congrArg some (by kernel_rfl))
  f224 := Tryd.func81.trans (congrArg some (by kernel_rfl))
  f225 := Tryd.func82.trans (congrArg some (by kernel_rfl))
  f227 := Tryd.func31.trans (congrArg some (by kernel_rfl))
  f228 := Tryd.func51.trans (congrArg some (by kernel_rfl))
  f231 := Tryd.func30.trans (congrArg some (by kernel_rfl))
  f232 := Tryd.func44.trans (congrArg some (by kernel_rfl))
  f233 := Tryd.func32.trans (congrArg some (by kernel_rfl))
  f234 := Tryd.func45.trans (congrArg some (by kernel_rfl))
  f235 := Tryd.func33.trans (congrArg some (by kernel_rfl))
  f236 := Tryd.func46.trans (congrArg some (by kernel_rfl))
  f260 := Tryd.func67.trans (congrArg some (by kernel_rfl))
  f266 := Tryd.func93.trans (congrArg some (by kernel_rfl))
  f271 := Tryd.func60.trans (congrArg some (by kernel_rfl))
  t0 := Tryd.underlying0
  a0 := Tryd.isAgg0
  z0 := Tryd.sizeOf0
  v0 := Tryd.zeroValue0
  t3 := Tryd.underlying3
  a3 := Tryd.isAgg3
  z3 := Tryd.sizeOf3
  v3 := Tryd.zeroValue3
  t4 := Tryd.underlying4
  a4 := Tryd.isAgg4
  z4 := Tryd.sizeOf4
  v4 := Tryd.zeroValue4
  t5 := Tryd.underlying5
  a5 := Tryd.isAgg5
  z5 := Tryd.sizeOf5
  v5 := Tryd.zeroValue5
  t9 := Tryd.underlying9
  a9 := Tryd.isAgg9
  z9 := Tryd.sizeOf9
  v9 := Tryd.zeroValue9
  t21 := Tryd.underlying21
  a21 := Tryd.isAgg21
  z21 := Tryd.sizeOf21
  v21 := Tryd.zeroValue21
  t46 := Tryd.underlying54
  a46 := Tryd.isAgg54
  z46 := Tryd.sizeOf54
  v46 := Tryd.zeroValue54
  t105 := Tryd.underlying86
  a105 := Tryd.isAgg86
  z105 := Tryd.sizeOf86
  v105 := Tryd.zeroValue86
  t116 := Tryd.underlying68
  a116 := Tryd.isAgg68
  z116 := Tryd.sizeOf68
  t117 := Tryd.underlying69
  a117 := Tryd.isAgg69
  z117 := Tryd.sizeOf69
  v117 := Tryd.zeroValue69
  t119 := Tryd.underlying117
  a119 := Tryd.isAgg117
  z119 := Tryd.sizeOf117
  t124 := Tryd.underlying72
  a124 := Tryd.isAgg72
  z124 := Tryd.sizeOf72
  v124 := Tryd.zeroValue72
  t138 := Tryd.underlying119
  a138 := Tryd.isAgg119
  z138 := Tryd.sizeOf119
  v138 := Tryd.zeroValue119
  t139 := Tryd.underlying120
  a139 := Tryd.isAgg120
  z139 := Tryd.sizeOf120
  v139 := Tryd.zeroValue120
  g3 := by kernel_rfl
  g4 := by kernel_rfl }
def Tryd.lays172_ren : Go.Shelf.Ren := ⟨fun | 172 => 27 | 244 => 47 | 245 => 48 | 247 => 61 | 279 => 62 | 280 => 63 | 281 => 64 | 282 => 65 | 287 => 72 | 316 => 73 | 171 => 29 | 205 => 74 | 321 => 83 | 322 => 84 | 243 => 50 | 246 => 66 | 283 => 75 | 284 => 76 | 285 => 77 | 286 => 78 | 129 => 86 | 317 => 85 | 318 => 87 | 319 => 88 | 320 => 89 | 337 => 91 | 338 => 92 | n => n, fun | 9 => 9 | 3 => 3 | 75 => 61 | 76 => 62 | 4 => 4 | 5 => 5 | 167 => 96 | 37 => 53 | 0 => 0 | 85 => 97 | 2 => 2 | 168 => 99 | 53 => 22 | 175 => 107 | 46 => 54 | 210 => 110 | 127 => 95 | 145 => 129 | 143 => 127 | 21 => 21 | 171 => 112 | 173 => 115 | 212 => 131 | 51 => 52 | 20 => 20 | 213 => 132 | 232 => 89 | 233 => 136 | 80 => 82 | n => n, fun | 15 => 0 | 16 => 1 | 17 => 5 | 18 => 6 | 19 => 7 | n => n⟩
theorem Tryd.lays172 : Go.Proofs.Lays.n172 Tryd.prog Tryd.lays172_ren := {
  mixed := by kernel_rfl
  f129 := Tryd.func86.trans (congrArg some (by kernel_rfl))
  f171 := Tryd.func29.trans (congrArg some (by kernel_rfl))
  f172 := Tryd.func27.trans (congrArg some (by kernel_rfl))
  f205 := Tryd.func74.trans (congrArg some (by kernel_rfl))
  f243 := Tryd.func50.trans (congrArg some (by kernel_rfl))
  f244 := Tryd.func47.trans (congrArg some (by kernel_rfl))
  f245 := Tryd.func48.trans (congrArg some (by kernel_rfl))
  f246 := Tryd.func66.trans (congrArg some (by kernel_rfl))
  f247 := Tryd.func61.trans (congrArg some (by kernel_rfl))
  f279 := Tryd.func62.trans (congrArg some (by kernel_rfl))
  f280 := Tryd.func63.trans (congrArg some (by kernel_rfl))
  f281 := Tryd.func64.trans (congrArg some (by kernel_rfl))
  f282 := Tryd.func65.trans (congrArg some (by kernel_rfl))
  f283 := Tryd.func75.trans (congrArg some (by kernel_rfl))
  f284 := Tryd.func76.trans (congrArg some (by kernel_rfl))
  f285 := Tryd.func77.trans (congrArg some (by kernel_rfl))
  f286 := Tryd.func78.trans (congrArg some (by kernel_rfl))
  f287 := Tryd.func72.trans (congrArg some (by kernel_rfl))
  f316 := Tryd.func73.trans (congrArg some (by kernel_rfl))
  f317 := Tryd.func85.trans (congrArg some (by kernel_rfl))
  f318 := Tryd.func87.trans (congrArg some (by kernel_rfl))
  f319 := Tryd.func88.trans (congrArg some (by kernel_rfl))
  f320 := Tryd.func89.trans (congrArg some (by kernel_rfl))
  f321 := Tryd.func83.trans (congrArg some (by kernel_rfl))
  f322 := Tryd.func84.trans (congrArg some (by kernel_rfl))
  f337 := Tryd.func91.trans (congrArg some (by kernel_rfl))
  f338 := Tryd.func92.trans (congrArg some (by kernel_rfl))
  t0 := Tryd.underlying0
  a0 := Tryd.isAgg0
  z0 := Tryd.sizeOf0
  v0 := Tryd.zeroValue0
  t2 := Tryd.underlying2
  a2 := Tryd.isAgg2
  z2 := Tryd.sizeOf2
  v2 := Tryd.zeroValue2
  t3 := Tryd.underlying3
  a3 := Tryd.isAgg3
  z3 := Tryd.sizeOf3
  v3 := Tryd.zeroValue3
  t4 := Tryd.underlying4
  a4 := Tryd.isAgg4
  z4 := Tryd.sizeOf4
  v4 := Tryd.zeroValue4
  t5 := Tryd.underlying5
  a5 := Tryd.isAgg5
  z5 := Tryd.sizeOf5
  v5 := Tryd.zeroValue5
  t9 := Tryd.underlying9
  a9 := Tryd.isAgg9
  z9 := Tryd.sizeOf9
  v9 := Tryd.zeroValue9
  t20 := Tryd.underlying20
  a20 := Tryd.isAgg20
  z20 := Tryd.sizeOf20
  v20 := Tryd.zeroValue20
  t21 := Tryd.underlying21
  a21 := Tryd.isAgg21
  z21 := Tryd.sizeOf21
  v21 := Tryd.zeroValue21
  t37 := Tryd.underlying53
  a37 := Tryd.isAgg53
  z37 := Tryd.sizeOf53
  v37 := Tryd.zeroValue53
  t46 := Tryd.underlying54
  a46 := Tryd.isAgg54
  z46 := Tryd.sizeOf54
  v46 := Tryd.zeroValue54
  t51 := Tryd.underlying52
  a51 := Tryd.isAgg52
  z51 := Tryd.sizeOf52
  v51 := Tryd.zeroValue52
  t53 := Tryd.underlying22
  a53 := Tryd.isAgg22
  z53 := Tryd.sizeOf22
  v53 := Tryd.zeroValue22
  t75 := Tryd.underlying61
  a75 := Tryd.isAgg61
  z75 := Tryd.sizeOf61
  v75 := Tryd.zeroValue61
  t76 := Tryd.underlying62
  a76 := Tryd.isAgg62
  z76 := Tryd.sizeOf62
  v76 := Tryd.zeroValue62
  t85 := Tryd.underlying97
  a85 := Tryd.isAgg97
  z85 := Tryd.sizeOf97
  v85 := Tryd.zeroValue97
  t127 := Tryd.underlying95
  a127 := Tryd.isAgg95
  z127 := Tryd.sizeOf95
  v127 := Tryd.zeroValue95
  t143 := Tryd.underlying127
  a143 := Tryd.isAgg127
  z143 := Tryd.sizeOf127
  v143 := Tryd.zeroValue127
  t145 := Tryd.underlying129
  a145 := Tryd.isAgg129
  z145 := Tryd.sizeOf129
  v145 := Tryd.zeroValue129
  t167 := Tryd.underlying96
  a167 := Tryd.isAgg96
  z167 := Tryd.sizeOf96
  v167 := Tryd.zeroValue96
  t168 := Tryd.underlying99
  a168 := Tryd.isAgg99
  z168 := Tryd.sizeOf99
  v168 := Tryd.zeroValue99
  t171 := Tryd.underlying112
  a171 := Tryd.isAgg112
  z171 := Tryd.sizeOf112
  v171 := Tryd.zeroValue112
  t173 := Tryd.underlying115
  a173 := Tryd.isAgg115
  z173 := Tryd.sizeOf115
  v173 := Tryd.zeroValue115
  t175 := Tryd.underlying107
  a175 := Tryd.isAgg107
  z175 := Tryd.sizeOf107
  v175 := Tryd.zeroValue107
  t210 := Tryd.underlying110
  a210 := Tryd.isAgg110
  z210 := Tryd.sizeOf110
  v210 := Tryd.zeroValue110
  t212 := Tryd.underlying131
  a212 := Tryd.isAgg131
  z212 := Tryd.sizeOf131
  v212 := Tryd.zeroValue131
  t213 := Tryd.underlying132
  a213 := Tryd.isAgg132
  z213 := Tryd.sizeOf132
  t232 := Tryd.underlying89
  a232 := Tryd.isAgg89
  z232 := Tryd.sizeOf89
  v232 := Tryd.zeroValue89
  t233 := Tryd.underlying136
  a233 := Tryd.isAgg136
  z233 := Tryd.sizeOf136
  v233 := Tryd.zeroValue136
  g15 := by kernel_rfl
  g16 := by kernel_rfl
  g17 := by kernel_rfl
  g18 := by kernel_rfl
  g19 := by kernel_rfl }
end Go.Proofs
namespace Go.AM
open Go.Proofs
noncomputable abbrev P := Tryd.prog
noncomputable instance tb : Tabs := Tabs.pow P 5 (by kernel_rfl)
universe u
theorem an {α : Type u} {p : α -> Prop} : ∀ k ∈ ([] : List α), p k := fun k h => nomatch h
theorem ac {α : Type u} {p : α -> Prop} {a : α} {l : List α} (h : p a) (k : ∀ x ∈ l, p x) : ∀ x ∈ a :: l, p x := fun x hx => by
  rcases List.mem_cons.1 hx with rfl | hx
  · exact h
  · exact k x hx
set_option maxRecDepth 100000
set_option linter.unusedVariables false
noncomputable section
variable (m_ : CP)
abbrev PU : Ty := .lst (.int .u32)
abbrev Ox : Ty := .arr 4 (.int .u64)
abbrev Qr : Ty := .pair (.int .i64) .str
namespace Na
def O (m_ : CP) : OO P := lD []
def run (m_ : CP) : (Int × List Int) × Unit -> Option ((List Int) × Int × Unit) := fun v_ => match v_ with
| (t, ()) =>
 bif vG (t.2.length : Int) then
 bif ((decide (t.1 < 0)) || (decide (t.1 > 255))) then
  some (([] : List Int), 13, ())
 else
  bif decide ((t.2.length : Int) > 65535) then
   some (([] : List Int), 12, ())
  else
   bif decide ((t.2.length : Int) < 128) then
    bif decide (([(IntKind.u8.wrap t.1), (IntKind.u8.wrap (t.2.length : Int))] : List Int).length + t.2.length <= maxStr) then
    some ((([(IntKind.u8.wrap t.1), (IntKind.u8.wrap (t.2.length : Int))] : List Int) ++ t.2), 0, ()) else none
   else
    bif decide ((t.2.length : Int) < 256) then
     bif decide (([(IntKind.u8.wrap t.1), 129, (IntKind.u8.wrap (t.2.length : Int))] : List Int).length + t.2.length <= maxStr) then
     some ((([(IntKind.u8.wrap t.1), 129, (IntKind.u8.wrap (t.2.length : Int))] : List Int) ++ t.2), 0, ()) else none
    else
     bif decide (([(IntKind.u8.wrap t.1), 130, (IntKind.u8.wrap (IJ .i64 (t.2.length : Int) 8)), (IntKind.u8.wrap (t.2.length : Int))] : List Int).length + t.2.length <= maxStr) then
     some ((([(IntKind.u8.wrap t.1), 130, (IntKind.u8.wrap (IJ .i64 (t.2.length : Int) 8)), (IntKind.u8.wrap (t.2.length : Int))] : List Int) ++ t.2), 0, ()) else none else none
theorem k : KT (O m_) [] ⟨10, [.ag Qr], .iC [.sh (.one .str), .sh (.one (.int .i64))], run m_⟩ [] := fun _ => by kernel_rfl
def c := co (k m_)
end Na

namespace Md
def O (m_ : CP) : OO P := lD []
def e0 : Spec := ⟨[fs 13 [.q 250676, .z 250676, .b 3, .q 31335, .b 2, .q 1959, .z 244, .b 1, .q 31] [(4, .oy 0), (6, .dat (.int .u32)), (7, .oy 1), (50, .dat PU), (51, .w), (52, .w)]], [(0, .c [.ry]), (1, .c [.ry])], 2⟩
def x0 : List Spec := [⟨[fs 13 [.q 31335, .b 2, .q 1959, .z 244, .b 1, .q 31] [(4, .oy 0), (7, .oy 1), (50, .dat PU), (51, .w), (52, .w)]], [(0, .c [.ry]), (1, .c [.ry])], 2⟩]
abbrev A0 : Type := Int × LI × Int × Int × LI × LI × Unit
abbrev B0 : Type := (LI × Int × Int × LI × LI × Unit)
def b0 (m_ : CP) (self : A0 -> Option B0) : A0 -> Option B0 := fun v_ => match v_ with
| (n, t, t1, t2, m, m1, ()) =>
 bif decide (n > 0) then
  bif decide (m1.length + ([(IntKind.u8.wrap (Ku .u32 (IG .u32 n 127) 128))] : List Int).length < 70368744177664) then
  self ((IJ .u32 n 7), t, t1, t2, m, (m1 ++ ([(IntKind.u8.wrap (Ku .u32 (IG .u32 n 127) 128))] : List Int)), ()) else none
 else
  some (t, t1, t2, m, m1, ())
theorem k0 : KQ 13 (O m_) [25] e0 x0 [] (b0 m_) := fun _ _ => by kernel_rfl
def l0 := loop m_ (b0 m_)
theorem q0 (v) : l0 .lim v = b0 .lim (l0 .lim) v := KS.q (k0 .lim) v
def s0 := so m_ (k0 m_)
def e1 : Spec := ⟨[fs 25 [.q 12, .z 12, .b 0] [(0, .oy 0), (2, .w), (3, .w)], fs 13 [.v 62670 [1], .q 62671, .b 2, .q 1959, .z 244, .b 1, .q 31] [(4, .oy 1), (7, .oy 0), (50, .dat PU), (51, .w), (52, .w)]], [(0, .c [.ry]), (1, .c [.ry])], 2⟩
def x1 : List Spec := [⟨[fs 25 [] [], fs 13 [.v 62670 [1], .q 62671, .b 2, .q 1959, .z 244, .b 1, .q 31] [(4, .oy 0), (7, .oy 1), (50, .dat PU), (51, .w), (52, .w)]], [(0, .c [.ry]), (1, .c [.ry])], 2⟩]
abbrev A1 : Type := Int × Int × LI × Int × Int × LI × LI × Unit
abbrev B1 : Type := (LI × Int × Int × LI × LI × Unit)
def b1 (m_ : CP) (self : A1 -> Option B1) : A1 -> Option B1 := fun v_ => match v_ with
| (i, j, t, t1, t2, m, m1, ()) =>
 bif decide (i < j) then
  bif inB j (m.length : Int) then
  bif inB i (m.length : Int) then
  bif inB i (m.length : Int) then
  bif inB j ((m.set i.toNat (rd 0 m j)).length : Int) then
  self ((IntKind.i64.wrap (i + 1)), (IntKind.i64.wrap (j - 1)), t, t1, t2, ((m.set i.toNat (rd 0 m j)).set j.toNat (rd 0 m i)), m1, ()) else none else none else none else none
 else
  some (t, t1, t2, m1, m, ())
theorem k1 : KQ 13 (O m_) [25] e1 x1 [] (b1 m_) := fun _ _ => by kernel_rfl
def l1 := loop m_ (b1 m_)
theorem q1 (v) : l1 .lim v = b1 .lim (l1 .lim) v := KS.q (k1 .lim) v
def s1 := so m_ (k1 m_)
def e2 : Spec := ⟨[fs 13 [.q 244, .z 244, .b 1, .q 31] [(4, .oy 0), (50, .dat PU), (51, .w), (52, .w)]], [(0, .c [.ry])], 1⟩
def x2 : List Spec := [⟨[fs 13 [.q 31] [(4, .oy 0)]], [(0, .c [.ry])], 1⟩]
abbrev A2 : Type := LI × Int × Int × LI × Unit
abbrev B2 : Type := (LI × Unit)
def b2 (self : A2 -> Option B2) : A2 -> Option B2 := fun v_ => match v_ with
| (t, t1, t2, m, ()) =>
 bif decide (t2 < t1) then
  bif inB t2 (t.length : Int) then
  (Md.l0 m_ ((IJ .u32 (rd 0 t t2) 7), t, t1, t2, m, ([(IntKind.u8.wrap (IG .u32 (rd 0 t t2) 127))] : List Int), ())).bind fun (t3, t4, t5, m1, m2, ()) =>
  bif vG (m2.length : Int) then
  (Md.l1 m_ (0, (IntKind.i64.wrap ((m2.length : Int) - 1)), t3, t4, t5, m2, m1, ())).bind fun (t6, t7, t8, m3, m4, ()) =>
  bif decide (m3.length + m4.length < 70368744177664) then
  self (t6, t7, (IntKind.i64.wrap (t8 + 1)), (m3 ++ m4), ()) else none else none else none
 else
  some (m, ())
theorem k2 : KQ 13 (O m_) [25] e2 x2 [s0 m_, s1 m_] (b2 m_) := fun _ _ => by kernel_rfl
def l2 := loop m_ (b2 m_)
theorem q2 (v) : l2 .lim v = b2 .lim (l2 .lim) v := KS.q (k2 .lim) v
def s2 := so m_ (k2 m_)
def run : (List Int) × Unit -> Option ((List Int) × Int × Unit) := fun v_ => match v_ with
| (l, ()) =>
 bif vG (l.length : Int) then
 bif decide ((l.length : Int) < 2) then
  some (([] : List Int), 11, ())
 else
  bif vG (l.length : Int) then
  bif decide ((l.length : Int) > 16) then
   some (([] : List Int), 18, ())
  else
   bif inB 0 (l.length : Int) then
   bif ((!(!(decide ((rd 0 l 0) > 2)))) || (inB 1 (l.length : Int))) then
   bif ((!(!((decide ((rd 0 l 0) > 2)) || (decide ((rd 0 l 1) > 47))))) || (inB 0 (l.length : Int))) then
   bif ((!((!((decide ((rd 0 l 0) > 2)) || (decide ((rd 0 l 1) > 47)))) && (decide ((rd 0 l 0) < 2)))) || (inB 1 (l.length : Int))) then
   bif (((decide ((rd 0 l 0) > 2)) || (decide ((rd 0 l 1) > 47))) || ((decide ((rd 0 l 0) < 2)) && (decide ((rd 0 l 1) > 39)))) then
    some (([] : List Int), 13, ())
   else
    bif inB 0 (l.length : Int) then
    bif inB 1 (l.length : Int) then
    bif rZ 2 (l.length : Int) (l.length : Int) then
    bif vG ((cut l 2 (l.length : Int)).length : Int) then
    (Md.l2 m_ ((cut l 2 (l.length : Int)), ((cut l 2 (l.length : Int)).length : Int), 0, ([(IntKind.u8.wrap (IntKind.u32.wrap ((IntKind.u32.wrap (40 * (rd 0 l 0))) + (rd 0 l 1))))] : List Int), ())).bind fun (m, ()) =>
    some (m, 0, ()) else none else none else none else none else none else none else none else none else none else none
theorem k : KT (O m_) [25] ⟨13, [.one PU], .iC [.sh (.one .str), .sh (.one (.int .i64))], run m_⟩ [s2 m_] := fun _ => by kernel_rfl
def c := co (k m_)
end Md

namespace MO
def O (m_ : CP) : OO P := lD []
def run (m_ : CP) : Int × Int × Unit -> Option (Int) := fun v_ => match v_ with
| (a, b, ()) =>
 bif !(decide (b = 0)) then
 bif !(decide (b = 0)) then
 bif decide ((a.tmod b) < 0) then
  some (IntKind.i64.wrap ((IntKind.i64.wrap (a.tdiv b)) - 1))
 else
  some (IntKind.i64.wrap (a.tdiv b)) else none else none
theorem k : KT (O m_) [] ⟨49, [.one (.int .i64), .one (.int .i64)], .one (.sh (.one (.int .i64))), run m_⟩ [] := fun _ => by kernel_rfl
def c := co (k m_)
end MO

namespace ML
def O : OO P := lD [MO.c m_]
def run : Int × Int × Int × Unit -> Option (Int) := fun v_ => match v_ with
| (y, m, d, ()) =>
 (MO.run m_ ((IntKind.i64.wrap (y - (IntKind.i64.wrap ((IntKind.i64.wrap (14 - m)).tdiv 12)))), 4, ())).bind fun r =>
 (MO.run m_ ((IntKind.i64.wrap (y - (IntKind.i64.wrap ((IntKind.i64.wrap (14 - m)).tdiv 12)))), 100, ())).bind fun r1 =>
 (MO.run m_ ((IntKind.i64.wrap (y - (IntKind.i64.wrap ((IntKind.i64.wrap (14 - m)).tdiv 12)))), 400, ())).bind fun r2 =>
 some (IntKind.i64.wrap ((IntKind.i64.wrap ((IntKind.i64.wrap ((IntKind.i64.wrap ((IntKind.i64.wrap ((IntKind.i64.wrap ((IntKind.i64.wrap ((IntKind.i64.wrap (y - (IntKind.i64.wrap ((IntKind.i64.wrap (14 - m)).tdiv 12)))) * 365)) + r)) - r1)) + r2)) + (IntKind.i64.wrap ((IntKind.i64.wrap ((IntKind.i64.wrap (((IntKind.i64.wrap (m + 9)).tmod 12) * 306)) + 5)).tdiv 10)))) + d)) - 307))
theorem k : KT (O m_) [] ⟨28, [.one (.int .i64), .one (.int .i64), .one (.int .i64)], .one (.sh (.one (.int .i64))), run m_⟩ [] := fun _ => by kernel_rfl
def c := co (k m_)
end ML

namespace L6
def O : OO P := lD [ML.c m_]
def e0 : Spec := ⟨[fs 17 [.q 56, .z 56, .b 0, .q 15] [(0, .w), (5, .w)]], [], 0⟩
def x0 : List Spec := [⟨[fs 17 [.q 15] [(0, .w), (5, .w)]], [], 0⟩]
abbrev A0 : Type := Int × Int × Unit
abbrev B0 : Type := (Int × Int × Unit)
def b0 (self : A0 -> Option B0) : A0 -> Option B0 := fun v_ => match v_ with
| (n, y, ()) =>
 (ML.run m_ ((IntKind.i64.wrap (y + 1)), 1, 1, ())).bind fun r =>
 bif decide (r <= n) then
  self (n, (IntKind.i64.wrap (y + 1)), ())
 else
  some (n, y, ())
theorem k0 : KQ 17 (O m_) [] e0 x0 [] (b0 m_) := fun _ _ => by kernel_rfl
def l0 := loop m_ (b0 m_)
theorem q0 (v) : l0 .lim v = b0 .lim (l0 .lim) v := KS.q (k0 .lim) v
def s0 := so m_ (k0 m_)
def e1 : Spec := ⟨[fs 17 [.q 120, .z 120, .b 2, .q 31] [(0, .w), (5, .w)]], [], 0⟩
def x1 : List Spec := [⟨[fs 17 [.q 31] [(0, .w), (5, .w)]], [], 0⟩]
abbrev A1 : Type := Int × Int × Unit
abbrev B1 : Type := (Int × Int × Unit)
def b1 (self : A1 -> Option B1) : A1 -> Option B1 := fun v_ => match v_ with
| (n, y, ()) =>
 (ML.run m_ (y, 1, 1, ())).bind fun r =>
 bif decide (r > n) then
  self (n, (IntKind.i64.wrap (y - 1)), ())
 else
  some (n, y, ())
theorem k1 : KQ 17 (O m_) [] e1 x1 [] (b1 m_) := fun _ _ => by kernel_rfl
def l1 := loop m_ (b1 m_)
theorem q1 (v) : l1 .lim v = b1 .lim (l1 .lim) v := KS.q (k1 .lim) v
def s1 := so m_ (k1 m_)
def e2 : Spec := ⟨[fs 17 [.q 504, .z 504, .b 4, .q 127] [(0, .w), (5, .w), (6, .w)]], [], 0⟩
def x2 : List Spec := [⟨[fs 17 [.q 127] [(0, .w), (5, .w), (6, .w)]], [], 0⟩]
abbrev A2 : Type := Int × Int × Int × Unit
abbrev B2 : Type := (Int × Int × Int × Unit)
def b2 (self : A2 -> Option B2) : A2 -> Option B2 := fun v_ => match v_ with
| (n, y, m, ()) =>
 (ML.run m_ (y, m, 1, ())).bind fun r =>
 bif decide (r > n) then
  self (n, y, (IntKind.i64.wrap (m - 1)), ())
 else
  some (n, y, m, ())
theorem k2 : KQ 17 (O m_) [] e2 x2 [] (b2 m_) := fun _ _ => by kernel_rfl
def l2 := loop m_ (b2 m_)
theorem q2 (v) : l2 .lim v = b2 .lim (l2 .lim) v := KS.q (k2 .lim) v
def s2 := so m_ (k2 m_)
def run : Int × Unit -> Option (Int × Int × Int × Unit) := fun v_ => match v_ with
| (n, ()) =>
 (L6.l0 m_ (n, (IntKind.i64.wrap ((IntKind.i64.wrap ((IntKind.i64.wrap (n * 400)).tdiv 146097)) + 1)), ())).bind fun (n1, y, ()) =>
 (L6.l1 m_ (n1, y, ())).bind fun (n2, y1, ()) =>
 (L6.l2 m_ (n2, y1, 12, ())).bind fun (n3, y2, m, ()) =>
 (ML.run m_ (y2, m, 1, ())).bind fun r =>
 some (y2, m, (IntKind.i64.wrap ((IntKind.i64.wrap (n3 - r)) + 1)), ())
theorem k : KT (O m_) [] ⟨17, [.one (.int .i64)], .iC [.sh (.one (.int .i64)), .sh (.one (.int .i64)), .sh (.one (.int .i64))], run m_⟩ [s0 m_, s1 m_, s2 m_] := fun _ => by kernel_rfl
def c := co (k m_)
end L6

namespace strconv_Itoa
def run (_ : CP) : Int × Unit -> Option (List Int) := FB
def c (m_ : CP) : CO P := ⟨⟨29, [.one (.int .i64)], .one (.sh (.one .str)), run m_⟩, JU (by kernel_rfl) (fun _ h => h) fun n w h0 h1 ht => Go.Proofs.Any.strconv_Itoa Go.Proofs.Tryd.laysM171 n h0 h1 w ht⟩
end strconv_Itoa

namespace strings_Repeat
def run (_ : CP) : (List Int) × Int × Unit -> Option (List Int) := KA
def c (m_ : CP) : CO P := ⟨⟨24, [.one .str, .one (.int .i64)], .one (.sh (.one .str)), run m_⟩, Jd (by kernel_rfl) fun s c w hc hl => Go.Proofs.Any.strings_Repeat Go.Proofs.Tryd.lays105 Go.Proofs.Tryd.Builder_Extra_105 s c w hc hl⟩
end strings_Repeat

namespace MC
def O : OO P := lD [strings_Repeat.c m_, strconv_Itoa.c m_]
def run : Int × Int × Unit -> Option (List Int) := fun v_ => match v_ with
| (n, size, ()) =>
 (strconv_Itoa.run m_ (n, ())).bind fun r =>
 bif vG (r.length : Int) then
 (strings_Repeat.run m_ (([48] : List Int), (IntKind.i64.wrap (size - (r.length : Int))), ())).bind fun r1 =>
 bif decide (r1.length + r.length <= maxStr) then
 some (r1 ++ r) else none else none
theorem k : KT (O m_) [] ⟨18, [.one (.int .i64), .one (.int .i64)], .one (.sh (.one .str)), run m_⟩ [] := fun _ => by kernel_rfl
def c := co (k m_)
end MC

namespace MI
def O : OO P := lD [L6.c m_, MC.c m_]
def run : Int × Unit -> Option ((List Int) × Int × Unit) := fun v_ => match v_ with
| (t, ()) =>
 bif ((decide (t < (-62135596800))) || (decide (t > 253402300799))) then
  some (([] : List Int), 13, ())
 else
  (L6.run m_ ((IntKind.i64.wrap ((IntKind.i64.wrap (t - (-62135596800))).tdiv 86400)), ())).bind fun (r, r1, r2, ()) =>
  (MC.run m_ (r, 4, ())).bind fun r3 =>
  (MC.run m_ (r1, 2, ())).bind fun r4 =>
  bif decide (r3.length + r4.length <= maxStr) then
  (MC.run m_ (r2, 2, ())).bind fun r5 =>
  bif decide ((r3 ++ r4).length + r5.length <= maxStr) then
  (MC.run m_ ((IntKind.i64.wrap (((IntKind.i64.wrap (t - (-62135596800))).tmod 86400).tdiv 3600)), 2, ())).bind fun r6 =>
  bif decide (((r3 ++ r4) ++ r5).length + r6.length <= maxStr) then
  (MC.run m_ (((IntKind.i64.wrap (((IntKind.i64.wrap (t - (-62135596800))).tmod 86400).tdiv 60)).tmod 60), 2, ())).bind fun r7 =>
  bif decide ((((r3 ++ r4) ++ r5) ++ r6).length + r7.length <= maxStr) then
  (MC.run m_ ((((IntKind.i64.wrap (t - (-62135596800))).tmod 86400).tmod 60), 2, ())).bind fun r8 =>
  bif decide (((((r3 ++ r4) ++ r5) ++ r6) ++ r7).length + r8.length <= maxStr) then
  bif decide ((((((r3 ++ r4) ++ r5) ++ r6) ++ r7) ++ r8).length + ([90] : List Int).length <= maxStr) then
  some (((((((r3 ++ r4) ++ r5) ++ r6) ++ r7) ++ r8) ++ ([90] : List Int)), 0, ()) else none else none else none else none else none else none
theorem k : KT (O m_) [] ⟨6, [.one (.int .i64)], .iC [.sh (.one .str), .sh (.one (.int .i64))], run m_⟩ [] := fun _ => by kernel_rfl
def c := co (k m_)
end MI

namespace Me
def O (m_ : CP) : OO P := lD []
def o0 : dJ := .c [.dat (.arr 32 (.int .u8))]
def e0 : Spec := ⟨[fs 35 [.q 116, .z 116, .b 0, .q 15] [(1, .ptr 0 0), (3, .ptr 1 0), (5, .w)]], [(0, .c [.dat Ox]), (1, o0)], 2⟩
def x0 : List Spec := [⟨[fs 35 [.q 15] [(3, .ptr 0 0)]], [(0, o0)], 1⟩]
abbrev A0 : Type := Int × LI × LI × Unit
abbrev B0 : Type := (LI × Unit)
def b0 (m_ : CP) (self : A0 -> Option B0) : A0 -> Option B0 := fun v_ => match v_ with
| (t, m, m1, ()) =>
 bif decide (t < 32) then
  bif inB (IntKind.i64.wrap (t.tdiv 8)) 4 then
  bif decide (0 <= (IntKind.i64.wrap (8 * (t.tmod 8)))) then
  bif inB t 32 then
  self ((IntKind.i64.wrap (t + 1)), m, (m1.set t.toNat (IntKind.u8.wrap (IJ .u64 (rd 0 m (IntKind.i64.wrap (t.tdiv 8))) (IntKind.i64.wrap (8 * (t.tmod 8)))))), ()) else none else none else none
 else
  some (m1, ())
theorem k0 : KQ 35 (O m_) [] e0 x0 [] (b0 m_) := fun _ _ => by kernel_rfl
def l0 := loop m_ (b0 m_)
theorem q0 (v) : l0 .lim v = b0 .lim (l0 .lim) v := KS.q (k0 .lim) v
def s0 := so m_ (k0 m_)
def run : (List Int) × Unit -> Option (List Int) := fun v_ => match v_ with
| (n, ()) =>
 (Me.l0 m_ (0, n, (List.replicate 32 (0 : Int)), ())).bind fun (m, ()) =>
 some ((m.drop 0).take 32)
theorem k : KT (O m_) [] ⟨35, [.one Ox], .one (.sh (.one .str)), run m_⟩ [s0 m_] := fun _ => by kernel_rfl
def c := co (k m_)
end Me

namespace MG
def O (m_ : CP) : OO P := lD []
def f0 : gq := fs 34 [.v 14 [1], .q 15] [(3, .oy 0)]
def e0 : Spec := ⟨[fs 25 [.q 12, .z 12, .b 0] [(0, .oy 0), (2, .w), (3, .w)], f0], [(0, .c [.ry])], 1⟩
def x0 : List Spec := [⟨[fs 25 [] [], f0], [(0, .c [.ry])], 1⟩]
abbrev A0 : Type := Int × Int × LI × Unit
abbrev B0 : Type := (LI × Unit)
def b0 (m_ : CP) (self : A0 -> Option B0) : A0 -> Option B0 := fun v_ => match v_ with
| (i, j, m, ()) =>
 bif decide (i < j) then
  bif inB j (m.length : Int) then
  bif inB i (m.length : Int) then
  bif inB i (m.length : Int) then
  bif inB j ((m.set i.toNat (rd 0 m j)).length : Int) then
  self ((IntKind.i64.wrap (i + 1)), (IntKind.i64.wrap (j - 1)), ((m.set i.toNat (rd 0 m j)).set j.toNat (rd 0 m i)), ()) else none else none else none else none
 else
  some (m, ())
theorem k0 : KQ 34 (O m_) [25] e0 x0 [] (b0 m_) := fun _ _ => by kernel_rfl
def l0 := loop m_ (b0 m_)
theorem q0 (v) : l0 .lim v = b0 .lim (l0 .lim) v := KS.q (k0 .lim) v
def s0 := so m_ (k0 m_)
def run : (List Int) × Unit -> Option (List Int) := fun v_ => match v_ with
| (s, ()) =>
 bif vG (s.length : Int) then
 (MG.l0 m_ (0, (IntKind.i64.wrap ((s.length : Int) - 1)), s, ())).bind fun (m, ()) =>
 some m else none
theorem k : KT (O m_) [25] ⟨34, [.one .str], .one (.sh (.one .str)), run m_⟩ [s0 m_] := fun _ => by kernel_rfl
def c := co (k m_)
end MG

namespace Nc
def O : OO P := lD [MG.c m_, Me.c m_]
def run : (List Int) × Unit -> Option (List Int) := fun v_ => match v_ with
| (n, ()) =>
 (Me.run m_ (n, ())).bind fun r =>
 (MG.run m_ (r, ())).bind fun r1 =>
 some r1
theorem k : KT (O m_) [] ⟨20, [.one Ox], .one (.sh (.one .str)), run m_⟩ [] := fun _ => by kernel_rfl
def c := co (k m_)
end Nc

namespace MN
def run (_ : CP) : (List Int) × (List Int) × Unit -> Option (List Int) := Cm
def c (m_ : CP) : CO P := ⟨⟨19, [.one .str, .one .str], .one (.sh (.one .str)), run m_⟩, Ie (by kernel_rfl) fun s c w h1 h2 => Go.Proofs.Any.strings_TrimLeft_laid Go.Proofs.Tryd.lays161 (by kernel_rfl) s c w h1 h2⟩
end MN

namespace MJ
def O : OO P := lD [MN.c m_, Nc.c m_]
def run : (List Int) × Unit -> Option (List Int) := fun v_ => match v_ with
| (n, ()) =>
 (Nc.run m_ (n, ())).bind fun r =>
 (MN.run m_ (r, ([0] : List Int), ())).bind fun r1 =>
 bif ((!(!(decide (r1 = ([] : List Int))))) || (inB 0 (r1.length : Int))) then
 bif ((decide (r1 = ([] : List Int))) || (decide ((rd 0 r1 0) > 127))) then
  bif decide (([0] : List Int).length + r1.length <= maxStr) then
  some (([0] : List Int) ++ r1) else none
 else
  some r1 else none
theorem k : KT (O m_) [] ⟨7, [.one Ox], .one (.sh (.one .str)), run m_⟩ [] := fun _ => by kernel_rfl
def c := co (k m_)
end MJ

namespace MH
def O : OO P := lD [MI.c m_, MJ.c m_, Na.c m_, Md.c m_]
def run : Unit -> Option (Bool) := fun v_ => match v_ with
| (()) =>
 (Na.run m_ ((2, ([5] : List Int)), ())).bind fun (r, r1, ()) =>
 (Md.run m_ (([1, 2, 840, 10045] : List Int), ())).bind fun (r2, r3, ()) =>
 (MI.run m_ (0, ())).bind fun (r4, r5, ()) =>
 ((bif ((decide (r = ([2, 1, 5] : List Int))) && (decide (r1 = 0))) then MJ.run m_ (((List.replicate 4 (0 : Int) : List Int).set 0 200), ()) else some ([] : List Int))).bind fun r6 =>
 some (((((((decide (r = ([2, 1, 5] : List Int))) && (decide (r1 = 0))) && (decide (r6 = ([0, 200] : List Int)))) && (decide (r2 = ([42, 134, 72, 206, 61] : List Int)))) && (decide (r3 = 0))) && (decide (r4 = ([49, 57, 55, 48, 48, 49, 48, 49, 48, 48, 48, 48, 48, 48, 90] : List Int)))) && (decide (r5 = 0)))
theorem k : KT (O m_) [] ⟨9, [], .one (.sh (.one .bool)), run m_⟩ [] := fun _ => by kernel_rfl
def c := co (k m_)
end MH

namespace LZ
def O (m_ : CP) : OO P := lD []
def o0 : dJ := .c [.dat Ox]
def e0 : Spec := ⟨[fs 8 [.q 52, .z 52, .b 0, .q 7] [(2, .ptr 0 0), (3, .ptr 1 0), (5, .w)]], [(0, o0), (1, o0)], 2⟩
def x0 : List Spec := [⟨[fs 8 [.q 6725, .q 841, .b 1, .q 211, .z 52, .b 0, .q 7] [(4, .w)]], [], 0⟩, ⟨[fs 8 [.q 6733, .b 1, .q 211, .z 52, .b 0, .q 7] [(4, .w)]], [], 0⟩, ⟨[fs 8 [.q 7] []], [], 0⟩]
abbrev A0 : Type := Int × LI × LI × Unit
abbrev B0 : Type := (Int × Unit) ⊕ (Int × Unit) ⊕ (Unit)
def b0 (m_ : CP) (self : A0 -> Option B0) : A0 -> Option B0 := fun v_ => match v_ with
| (i, m, m1, ()) =>
 bif decide (i >= 0) then
  bif inB i 4 then
  bif inB i 4 then
  bif decide ((rd 0 m i) < (rd 0 m1 i)) then
   some (.inl ((-1), ()))
  else
   bif inB i 4 then
   bif inB i 4 then
   bif decide ((rd 0 m i) > (rd 0 m1 i)) then
    some (.inr (.inl (1, ())))
   else
    self ((IntKind.i64.wrap (i - 1)), m, m1, ()) else none else none else none else none
 else
  some (.inr (.inr (())))
theorem k0 : KQ 8 (O m_) [] e0 x0 [] (b0 m_) := fun _ _ => by kernel_rfl
def l0 := loop m_ (b0 m_)
theorem q0 (v) : l0 .lim v = b0 .lim (l0 .lim) v := KS.q (k0 .lim) v
def s0 := so m_ (k0 m_)
def run : (List Int) × (List Int) × Unit -> Option (Int) := fun v_ => match v_ with
| (a, b, ()) =>
 (LZ.l0 m_ (3, a, b, ())).bind fun g_ => match g_ with
 | .inl (t, ()) =>
  some t
 | .inr (.inl (t1, ())) =>
  some t1
 | .inr (.inr (())) =>
  some 0
theorem k : KT (O m_) [] ⟨8, [.one Ox, .one Ox], .one (.sh (.one (.int .i64))), run m_⟩ [s0 m_] := fun _ => by kernel_rfl
def c := co (k m_)
end LZ

namespace MF
def O : OO P := lD [MI.c m_, MJ.c m_, LZ.c m_, MH.c m_]
def run : Int × Int × (List Int) × (List Int) × Unit -> Option (Bool) := fun v_ => match v_ with
| (t, u, a, b, ()) =>
 (MI.run m_ (t, ())).bind fun (r, r1, ()) =>
 (MI.run m_ (u, ())).bind fun (r2, r3, ()) =>
 bif (((decide (r1 = 0)) && (decide (r3 = 0))) && (!((decide (t < u)) == (strLt r r2)))) then
  some false
 else
  (MJ.run m_ (a, ())).bind fun r4 =>
  (MJ.run m_ (b, ())).bind fun r5 =>
  ((bif ((decide (r4 = r5)) == ((List.range 4).all fun i => decide ((rd 0 a (i : Int)) = (rd 0 b (i : Int))))) then LZ.run m_ (a, b, ()) else some (0 : Int))).bind fun r6 =>
  ((bif (((decide (r4 = r5)) == ((List.range 4).all fun i => decide ((rd 0 a (i : Int)) = (rd 0 b (i : Int))))) && (!(decide (r6 > 0)))) then MJ.run m_ (a, ()) else some ([] : List Int))).bind fun r7 =>
  bif ((!(((decide (r4 = r5)) == ((List.range 4).all fun i => decide ((rd 0 a (i : Int)) = (rd 0 b (i : Int))))) && (!(decide (r6 > 0))))) || (vG (r7.length : Int))) then
  ((bif (((decide (r4 = r5)) == ((List.range 4).all fun i => decide ((rd 0 a (i : Int)) = (rd 0 b (i : Int))))) && (!(decide (r6 > 0)))) then MJ.run m_ (b, ()) else some ([] : List Int))).bind fun r8 =>
  bif ((!(((decide (r4 = r5)) == ((List.range 4).all fun i => decide ((rd 0 a (i : Int)) = (rd 0 b (i : Int))))) && (!(decide (r6 > 0))))) || (vG (r8.length : Int))) then
  ((bif (((decide (r4 = r5)) == ((List.range 4).all fun i => decide ((rd 0 a (i : Int)) = (rd 0 b (i : Int))))) && ((decide (r6 > 0)) || (decide ((r7.length : Int) <= (r8.length : Int))))) then MH.run m_ (()) else some false)).bind fun r9 =>
  some ((((decide (r4 = r5)) == ((List.range 4).all fun i => decide ((rd 0 a (i : Int)) = (rd 0 b (i : Int))))) && ((decide (r6 > 0)) || (decide ((r7.length : Int) <= (r8.length : Int))))) && r9) else none else none
theorem k : KT (O m_) [] ⟨3, [.one (.int .i64), .one (.int .i64), .one Ox, .one Ox], .one (.sh (.one .bool)), run m_⟩ [] := fun _ => by kernel_rfl
def c := co (k m_)
end MF

namespace L8
def O (m_ : CP) : OO P := lD []
def run (m_ : CP) : (List Int) × (List Int) × Unit -> Option (Bool) := fun v_ => match v_ with
| (s, MK, ()) =>
 bif vG (s.length : Int) then
 bif vG (MK.length : Int) then
 bif ((!(decide ((s.length : Int) >= (MK.length : Int)))) || (vG (MK.length : Int))) then
 bif ((!(decide ((s.length : Int) >= (MK.length : Int)))) || (rZ 0 (MK.length : Int) (s.length : Int))) then
 some ((decide ((s.length : Int) >= (MK.length : Int))) && (decide ((cut s 0 (MK.length : Int)) = MK))) else none else none else none else none
theorem k : KT (O m_) [] ⟨54, [.one .str, .one .str], .one (.sh (.one .bool)), run m_⟩ [] := fun _ => by kernel_rfl
def c := co (k m_)
end L8

namespace L_
def O : OO P := lD [L8.c m_]
def run : (List Int) × (List Int) × Unit -> Option (List Int) := fun v_ => match v_ with
| (s, MK, ()) =>
 (L8.run m_ (s, MK, ())).bind fun r =>
 bif r then
  bif vG (MK.length : Int) then
  bif rZ (MK.length : Int) (s.length : Int) (s.length : Int) then
  some (cut s (MK.length : Int) (s.length : Int)) else none else none
 else
  some s
theorem k : KT (O m_) [] ⟨36, [.one .str, .one .str], .one (.sh (.one .str)), run m_⟩ [] := fun _ => by kernel_rfl
def c := co (k m_)
end L_

namespace strings_TrimPrefix
def O : OO P := lD [L_.c m_]
def run : (List Int) × (List Int) × Unit -> Option (List Int) := fun v_ => match v_ with
| (s, MK, ()) =>
 (L_.run m_ (s, MK, ())).bind fun r =>
 some r
theorem k : KT (O m_) [] ⟨22, [.one .str, .one .str], .one (.sh (.one .str)), run m_⟩ [] := fun _ => by kernel_rfl
def c := co (k m_)
end strings_TrimPrefix

namespace Nb
def O (m_ : CP) : OO P := lD []
def run (m_ : CP) : (List Int) × Int × Unit -> Option (Int) := fun v_ => match v_ with
| (s, n, ()) =>
 bif vG (s.length : Int) then
 bif decide ((s.length : Int) < n) then
  some 11
 else
  bif vG (s.length : Int) then
  bif decide ((s.length : Int) > n) then
   some 12
  else
   some 0 else none else none
theorem k : KT (O m_) [] ⟨55, [.one .str, .one (.int .i64)], .one (.sh (.one (.int .i64))), run m_⟩ [] := fun _ => by kernel_rfl
def c := co (k m_)
end Nb

namespace L9
def O : OO P := lD [Nb.c m_]
def o0 : dJ := .c [.dat Ox]
def e0 : Spec := ⟨[fs 37 [.q 244, .z 244, .b 0, .q 31] [(0, .s), (2, .ptr 0 0), (5, .ptr 1 0), (13, .w)]], [(0, o0), (1, o0)], 2⟩
def x0 : List Spec := [⟨[fs 37 [.q 31] [(2, .ptr 0 0), (5, .ptr 1 0)]], [(0, o0), (1, o0)], 2⟩]
abbrev A0 : Type := LI × Int × LI × LI × Unit
abbrev B0 : Type := (LI × LI × Unit)
def b0 (m_ : CP) (self : A0 -> Option B0) : A0 -> Option B0 := fun v_ => match v_ with
| (s, t, m, m1, ()) =>
 bif decide (t < 32) then
  bif inB (IntKind.i64.wrap (t.tdiv 8)) 4 then
  bif inB t (s.length : Int) then
  bif decide (0 <= (IntKind.i64.wrap (8 * (t.tmod 8)))) then
  bif inB (IntKind.i64.wrap (t.tdiv 8)) 4 then
  self (s, (IntKind.i64.wrap (t + 1)), m, (m1.set ((IntKind.i64.wrap (t.tdiv 8)).toNat) (Ku .u64 (rd 0 m1 (IntKind.i64.wrap (t.tdiv 8))) (II .u64 (IntKind.u64.wrap (rd 0 s t)) (IntKind.i64.wrap (8 * (t.tmod 8)))))), ()) else none else none else none else none
 else
  some (m, m1, ())
theorem k0 : KQ 37 (O m_) [] e0 x0 [] (b0 m_) := fun _ _ => by kernel_rfl
def l0 := loop m_ (b0 m_)
theorem q0 (v) : l0 .lim v = b0 .lim (l0 .lim) v := KS.q (k0 .lim) v
def s0 := so m_ (k0 m_)
def run : (List Int) × Unit -> Option ((List Int) × Int × Unit) := fun v_ => match v_ with
| (s, ()) =>
 (Nb.run m_ (s, 32, ())).bind fun r =>
 bif !(decide (r = 0)) then
  some ((List.replicate 4 (0 : Int) : List Int), r, ())
 else
  (L9.l0 m_ (s, 0, (List.replicate 4 (0 : Int)), (List.replicate 4 (0 : Int)), ())).bind fun (m, m1, ()) =>
  some (m1, 0, ())
theorem k : KT (O m_) [] ⟨37, [.one .str], .iC [.sh (.one Ox), .sh (.one (.int .i64))], run m_⟩ [s0 m_] := fun _ => by kernel_rfl
def c := co (k m_)
end L9

namespace MR
def O : OO P := lD [MG.c m_, L9.c m_]
def run : (List Int) × Unit -> Option ((List Int) × Int × Unit) := fun v_ => match v_ with
| (s, ()) =>
 (MG.run m_ (s, ())).bind fun r =>
 (L9.run m_ (r, ())).bind fun (r1, r2, ()) =>
 some (r1, r2, ())
theorem k : KT (O m_) [] ⟨23, [.one .str], .iC [.sh (.one Ox), .sh (.one (.int .i64))], run m_⟩ [] := fun _ => by kernel_rfl
def c := co (k m_)
end MR

namespace Np
def O : OO P := lD [strings_TrimPrefix.c m_, MR.c m_, strings_Repeat.c m_]
def run : (List Int) × Unit -> Option ((List Int) × Int × Unit) := fun v_ => match v_ with
| (s, ()) =>
 bif decide (s = ([] : List Int)) then
  some ((List.replicate 4 (0 : Int) : List Int), 11, ())
 else
  bif inB 0 (s.length : Int) then
  bif ((!(!(decide ((rd 0 s 0) > 127)))) || (vG (s.length : Int))) then
  bif ((!((!(decide ((rd 0 s 0) > 127))) && (decide ((s.length : Int) > 1)))) || (inB 0 (s.length : Int))) then
  bif ((!((!(decide ((rd 0 s 0) > 127))) && ((decide ((s.length : Int) > 1)) && (decide ((rd 0 s 0) = 0))))) || (inB 1 (s.length : Int))) then
  bif ((decide ((rd 0 s 0) > 127)) || (((decide ((s.length : Int) > 1)) && (decide ((rd 0 s 0) = 0))) && (decide ((rd 0 s 1) < 128)))) then
   some ((List.replicate 4 (0 : Int) : List Int), 10, ())
  else
   (strings_TrimPrefix.run m_ (s, ([0] : List Int), ())).bind fun r =>
   bif vG (r.length : Int) then
   bif decide ((r.length : Int) > 32) then
    some ((List.replicate 4 (0 : Int) : List Int), 13, ())
   else
    bif vG (r.length : Int) then
    (strings_Repeat.run m_ (([0] : List Int), (IntKind.i64.wrap (32 - (r.length : Int))), ())).bind fun r1 =>
    bif decide (r1.length + r.length <= maxStr) then
    (MR.run m_ ((r1 ++ r), ())).bind fun (r2, r3, ()) =>
    some (r2, r3, ()) else none else none else none else none else none else none else none
theorem k : KT (O m_) [] ⟨12, [.one .str], .iC [.sh (.one Ox), .sh (.one (.int .i64))], run m_⟩ [] := fun _ => by kernel_rfl
def c := co (k m_)
end Np

end
end Go.AM
end
section
namespace Go.AM
theorem wrap64 {n : Int} (h1 : -9223372036854775808 <= n) (h2 : n < 9223372036854775808) : IntKind.i64.wrap n = n := by unfold IntKind.wrap; simp [IntKind.signed, IntKind.bits]; omega
theorem cond_pos {α : Type} {c : Bool} {a b : α} (h : c = true) : (bif c then a else b) = a := by rw [h]; rfl
theorem cond_neg {α : Type} {c : Bool} {a b : α} (h : c = false) : (bif c then a else b) = b := by rw [h]; rfl
theorem NJ {α : Type} {p : Prop} {i : Decidable p} {a b : α} : (bif @decide p i then a else b) = if p then a else b := by by_cases h : p <;> simp [h]
theorem Ns {n : Int} (h : n < 9223372036854775808) : vG n = true := by unfold vG; rw [Nat.blt_eq]; omega
theorem M_ {i n : Int} (h1 : 0 <= i) (h2 : i < n) : inB i n = true := by simp [inB, h1, h2]
theorem Oo {α β : Type} {f : α -> Option β} (st : Nat -> α) {n : Nat} (h : ∀ k, k < n -> f (st k) = f (st (k + 1))) : f (st 0) = f (st n) := by
 induction n with
 | zero => rfl
 | succ n ih => exact (ih fun k hk => h k (by omega)).trans (h n (by omega))
theorem PN {α : Type} {d : α} {xs : List α} {i : Int} (h1 : 0 <= i) (h2 : i < xs.length) : rd d xs i ∈ xs := by unfold rd; rw [List.getD_eq_getElem?_getD, List.getElem?_eq_getElem (show i.toNat < xs.length by omega), Option.getD_some]; exact List.getElem_mem _
theorem OJ (x y : Int) : mx x y = max x y := by unfold mx; split <;> omega
theorem OI (x y : Int) : mn x y = min x y := by unfold mn; split <;> omega
theorem MB {p : Prop} {i : Decidable p} (h : p) : @decide p i = true := decide_eq_true h
theorem Mc {p : Prop} {i : Decidable p} (h : ¬p) : @decide p i = false := decide_eq_false h
theorem dec_not {p : Prop} {i : Decidable p} : (!@decide p i) = decide (¬p) := by by_cases h : p <;> simp [h]
theorem dec_and {p q : Prop} {i : Decidable p} {j : Decidable q} : (@decide p i && @decide q j) = decide (p /\ q) := by by_cases h : p <;> simp [h]
theorem Oc {p q : Prop} {i : Decidable p} {j : Decidable q} : (@decide p i || @decide q j) = decide (p \/ q) := by by_cases h : p <;> simp [h]
theorem NK {l h n : Int} (h1 : 0 <= l) (h2 : l <= h) (h3 : h <= n) : rZ l h n = true := by simp [rZ, h1, h2, h3]
theorem NW {α : Type} {d : α} {xs : List α} {k : Nat} (h : k < xs.length) : rd d xs (k : Int) = xs[k] := by unfold rd; rw [Int.toNat_natCast, List.getD_eq_getElem?_getD, List.getElem?_eq_getElem h, Option.getD_some]
theorem Pm {α : Type} {d : α} {xs : List α} {k : Nat} (h : k < xs.length) : xs.take (k + 1) = xs.take k ++ [rd d xs (k : Int)] := by rw [NW h, List.take_succ_eq_append_getElem h]
end Go.AM
end
section
namespace Go.AM
theorem OM {α : Type} {d : α} {a b : List α} (hl : a.length = b.length) (h : ∀ k : Nat, k < a.length -> rd d a (k : Int) = rd d b (k : Int)) : a = b := by
 apply List.ext_getElem hl
 intro k h1 h2;have := h k h1
 rwa [NW h1, NW h2] at this
theorem Nl {n : Nat} (h : n < 9223372036854775808) : vG (n : Int) = true := Ns (by omega)
theorem PS (n : Int) : IntKind.u8.wrap n = n % 256 := by unfold IntKind.wrap; simp [IntKind.signed, IntKind.bits]
end Go.AM
end
section
namespace Go.AM
abbrev B8 (x : Int) : Prop := 0 <= x /\ x < 256
def tab (n : Nat) (g : Nat -> Int) : List Int := (List.range n).map g
@[simp] theorem Nu {n : Nat} {g : Nat -> Int} : (tab n g).length = n := by simp [tab]
theorem NQ {n : Nat} {g : Nat -> Int} {k : Nat} (h : k < n) : rd 0 (tab n g) (k : Int) = g k := by rw [NW (by simpa using h)]; simp [tab]
theorem MV {n : Nat} {g h : Nat -> Int} (e : ∀ k, k < n -> g k = h k) : tab n g = tab n h := by unfold tab; exact List.map_congr_left fun k hk => e k (List.mem_range.1 hk)
theorem NC {n : Nat} {g : Nat -> Int} {k : Nat} {v : Int} : (tab n g).set k v = tab n fun i => if i = k then v else g i := by
 unfold tab;apply List.ext_getElem (by simp)
 intro i h1 h2;simp only [List.getElem_set, List.getElem_map, List.getElem_range];by_cases h : k = i
 ·rw [if_pos h, if_pos h.symm]
 ·rw [if_neg h, if_neg (Ne.symm h)]
theorem OV {m : List Int} {n : Nat} (h : m.length = n) : m = tab n fun i => rd 0 m (i : Int) := by
 apply OM (d := 0) (by simp [h])
 intro k hk;rw [NQ (by omega)]
def N7 (n k : Nat) (g : Nat -> Int) : List Int := tab n fun i => if i < k then g i else 0
@[simp] theorem Qe {n k : Nat} {g : Nat -> Int} : (N7 n k g).length = n := Nu
theorem Oy {n : Nat} {g : Nat -> Int} : N7 n 0 g = List.replicate n 0 := by
 unfold N7 tab;rw [List.eq_replicate_iff];exact ⟨by simp, fun b hb => by obtain ⟨i, _, rfl⟩ := List.mem_map.1 hb; simp⟩
theorem OT {n : Nat} {g : Nat -> Int} : N7 n n g = tab n g := MV fun k hk => by rw [if_pos hk]
theorem OU {n k : Nat} {g : Nat -> Int} {v : Int} (h : v = g k) : (N7 n k g).set k v = N7 n (k + 1) g := by
 unfold N7;rw [NC];refine MV fun i _ => ?_
 by_cases h1 : i = k
 ·subst h1; rw [if_pos rfl, if_pos (by omega), h]
 ·rw [if_neg h1];by_cases h2 : i < k
  ·rw [if_pos h2, if_pos (by omega)]
  ·rw [if_neg h2, if_neg (by omega)]
theorem Qp (k : Nat) (h : k < 4611686018427387904) : IntKind.i64.wrap ((k : Int) + 1) = ((k + 1 : Nat) : Int) := by rw [wrap64 (by omega) (by omega)]; omega
end Go.AM
end
section
namespace Go.AM
theorem N8 (n : Int) : IntKind.u64.wrap n = n % 18446744073709551616 := by unfold IntKind.wrap; simp [IntKind.signed, IntKind.bits]
theorem PL {w x y : Nat} (hx : x < 2 ^ w) (hy : y < 2 ^ w) : (BitVec.ofInt w (x : Int) ||| BitVec.ofInt w (y : Int)).toNat = x ||| y := by
 rw [BitVec.toNat_or, BitVec.toNat_ofInt, BitVec.toNat_ofInt];have e : ∀ z : Nat, z < 2 ^ w -> ((z : Int) % ((2 ^ w : Nat) : Int)).toNat = z := fun z hz => by rw [<- Int.natCast_emod, Int.toNat_natCast, Nat.mod_eq_of_lt hz]
 rw [e x hx, e y hy]
theorem PK {a b m : Nat} (h : b < 2 ^ m) : 2 ^ m * a ||| b = 2 ^ m * a + b := (Nat.two_pow_add_eq_or_of_lt h a).symm
theorem Py {a : Int} (h : B8 a) : ∃ n : Nat, a = (n : Int) /\ n < 256 := ⟨a.toNat, by have := h.1; omega, by have := h.1; have := h.2; omega⟩
theorem Pj (x : Int) (k m : Nat) (K : IntKind) (hm : m <= K.bits) : IJ K x (m : Int) = x / 2 ^ m := by
 show x.fdiv (2 ^ min ((m : Int).toNat) K.bits) = _;rw [Int.toNat_natCast, Nat.min_eq_left hm, Int.fdiv_eq_ediv_of_nonneg _ (by exact Int.le_of_lt (Int.pow_pos (by decide)))]
end Go.AM
end
section
namespace Go.AM
abbrev Bs (s : List Int) : Prop := ∀ x ∈ s, B8 x
theorem O6 {α : Type} {s : List α} {a : Nat} {i : Int} (hi : i = (a : Int)) : cut s i (s.length : Int) = s.drop a := by subst hi; unfold cut; rw [Int.toNat_natCast, Int.toNat_natCast, List.take_length]
def Om {α β : Type} (b : (α -> Option β) -> α -> Option β) (l : α -> Option β) : Nat -> α -> Option β
 | 0 => l
 | n + 1 => b (Om b l n)
theorem O4 {α β : Type} {b : (α -> Option β) -> α -> Option β} {l : α -> Option β} (q : ∀ v, l v = b l v) : ∀ n v, l v = Om b l n v
 | 0, _ => rfl
 | n + 1, v => by
  have e : l = Om b l n := funext (O4 q n);show l v = b (Om b l n) v;rw [<- e]; exact q v
theorem Qo : Na.run .lim ((2, [5]), ()) = some ([2, 1, 5], 0, ()) := by kernel_rfl
theorem PV : Md.l0 .lim (6, [840, 10045], 2, 0, [42], [72], ()) = some ([840, 10045], 2, 0, [42], [72, 134], ()) := (O4 Md.q0 2 _).trans (by kernel_rfl)
theorem PW : Md.l1 .lim (0, 1, [840, 10045], 2, 0, [72, 134], [42], ()) = some ([840, 10045], 2, 0, [42], [134, 72], ()) := (O4 Md.q1 2 _).trans (by kernel_rfl)
theorem PX : Md.l0 .lim (78, [840, 10045], 2, 1, [42, 134, 72], [61], ()) = some ([840, 10045], 2, 1, [42, 134, 72], [61, 206], ()) := (O4 Md.q0 2 _).trans (by kernel_rfl)
theorem PY : Md.l1 .lim (0, 1, [840, 10045], 2, 1, [61, 206], [42, 134, 72], ()) = some ([840, 10045], 2, 1, [42, 134, 72], [206, 61], ()) := (O4 Md.q1 2 _).trans (by kernel_rfl)
theorem Qh : Md.l2 .lim ([840, 10045], 2, 0, [42], ()) = some ([42, 134, 72, 206, 61], ()) := by
 rw [Md.q2];show (Md.l0 .lim (6, [840, 10045], 2, 0, [42], [72], ())).bind _ = _;rw [PV];show (Md.l1 .lim (0, 1, [840, 10045], 2, 0, [72, 134], [42], ())).bind _ = _;rw [PW];show Md.l2 .lim ([840, 10045], 2, 1, [42, 134, 72], ()) = _;rw [Md.q2];show (Md.l0 .lim (78, [840, 10045], 2, 1, [42, 134, 72], [61], ())).bind _ = _;rw [PX];show (Md.l1 .lim (0, 1, [840, 10045], 2, 1, [61, 206], [42, 134, 72], ())).bind _ = _;rw [PY];show Md.l2 .lim ([840, 10045], 2, 2, [42, 134, 72, 206, 61], ()) = _;rw [Md.q2];rfl
theorem Ql : Md.run .lim ([1, 2, 840, 10045], ()) = some ([42, 134, 72, 206, 61], 0, ()) := by
 show (Md.l2 .lim ([840, 10045], 2, 0, [42], ())).bind _ = _;rw [Qh];rfl
theorem Qi : L6.run .lim (719162, ()) = some (1970, 1, 1, ()) := by
 show (L6.l0 .lim (719162, 1969, ())).bind _ = _;rw [show L6.l0 .lim (719162, 1969, ()) = some (719162, 1970, ()) from (O4 L6.q0 2 _).trans (by kernel_rfl)];show (L6.l1 .lim (719162, 1970, ())).bind _ = _;rw [show L6.l1 .lim (719162, 1970, ()) = some (719162, 1970, ()) from (O4 L6.q1 1 _).trans (by kernel_rfl)];show (L6.l2 .lim (719162, 1970, 12, ())).bind _ = _;rw [show L6.l2 .lim (719162, 1970, 12, ()) = some (719162, 1970, 1, ()) from (O4 L6.q2 12 _).trans (by kernel_rfl)];rfl
theorem P6 : MC.run .lim (1970, 4, ()) = some [49, 57, 55, 48] := by kernel_rfl
theorem P5 : MC.run .lim (1, 2, ()) = some [48, 49] := by kernel_rfl
theorem PZ : MC.run .lim (0, 2, ()) = some [48, 48] := by kernel_rfl
theorem Qn : MI.run .lim (0, ()) = some ([49, 57, 55, 48, 48, 49, 48, 49, 48, 48, 48, 48, 48, 48, 90], 0, ()) := by
 have e1 : IntKind.i64.wrap (((IntKind.i64.wrap (0 - -62135596800)).tmod 86400).tdiv 3600) = 0 := by kernel_rfl
 have e2 : (IntKind.i64.wrap (((IntKind.i64.wrap (0 - -62135596800)).tmod 86400).tdiv 60)).tmod 60 = 0 := by kernel_rfl
 have e3 : ((IntKind.i64.wrap (0 - -62135596800)).tmod 86400).tmod 60 = 0 := by kernel_rfl
 have e4 : IntKind.i64.wrap ((IntKind.i64.wrap (0 - -62135596800)).tdiv 86400) = 719162 := by kernel_rfl
 have e5 : ((decide ((0 : Int) < -62135596800)) || (decide ((0 : Int) > 253402300799))) = false := by kernel_rfl
 simp only [MI.run, e1, e2, e3, e4, e5, Qi, P6, P5, PZ, Option.bind_some, cond_false];rfl
theorem Qk : Me.l0 .lim (0, [200, 0, 0, 0], List.replicate 32 0, ()) = some (200 :: List.replicate 31 0, ()) := (O4 Me.q0 33 _).trans (by kernel_rfl)
theorem Qm : MG.l0 .lim (0, 31, 200 :: List.replicate 31 0, ()) = some (List.replicate 31 0 ++ [200], ()) := (O4 MG.q0 17 _).trans (by kernel_rfl)
theorem Qj : MJ.run .lim ([200, 0, 0, 0], ()) = some [0, 200] := by
 have h : Nc.run .lim ([200, 0, 0, 0], ()) = some (List.replicate 31 0 ++ [200]) := by
  show ((Me.l0 .lim (0, [200, 0, 0, 0], List.replicate 32 0, ())).bind _).bind _ = _;rw [Qk];show ((MG.l0 .lim (0, 31, 200 :: List.replicate 31 0, ())).bind _).bind _ = _;rw [Qm];rfl
 show (Nc.run .lim ([200, 0, 0, 0], ())).bind _ = _;rw [h];kernel_rfl
theorem Oh : MH.run .lim () = some true := by
 show (Na.run .lim ((2, [5]), ())).bind _ = _;rw [Qo];show (Md.run .lim ([1, 2, 840, 10045], ())).bind _ = _;rw [Ql];show (MI.run .lim (0, ())).bind _ = _;rw [Qn];show (MJ.run .lim ([200, 0, 0, 0], ())).bind _ = _;rw [Qj];rfl
def er (e : Int) : (Int × List Int) × List Int × Int × Unit := ((0, []), [], e, ())
end Go.AM
end
section
namespace Go.AM
theorem Nh {a b : Int} (h : 0 <= a) : a.tdiv b = a / b := Int.tdiv_eq_ediv_of_nonneg h
theorem Nv {a b : Int} (h : 0 <= a) : a.tmod b = a % b := Int.tmod_eq_emod_of_nonneg h
def dN (y m d : Int) : Int := (y - (14 - m) / 12) * 365 + (y - (14 - m) / 12) / 4 - (y - (14 - m) / 12) / 100 + (y - (14 - m) / 12) / 400 + ((m + 9) % 12 * 306 + 5) / 10 + d - 307
theorem NP {a b : Int} (ha : 0 <= a) (ha2 : a < 4611686018427387904) (hb : b = 4 \/ b = 100 \/ b = 400) : MO.run .lim (a, b, ()) = some (a / b) := by
 simp only [MO.run, Nh ha, Nv ha];rcases hb with rfl | rfl | rfl
 ·simp (disch := omega) only [Ns, M_, NK, wrap64, MB, Mc, dec_not, dec_and, Oc, NJ, cond_true, cond_false, Option.bind_some, Option.bind_none, Bool.or_true, Bool.true_or, Bool.and_true, Bool.true_and, Bool.and_false, Bool.false_and, Bool.or_false, Bool.false_or, Bool.not_true, Bool.not_false, Bool.or_self, Bool.and_self, Bool.not_not, if_true, if_false, and_self, true_and, and_true, and_false, false_and, or_true, true_or, or_false, false_or, not_true_eq_false, not_false_eq_true, decide_true, decide_false, eq_self, if_pos, if_neg, OJ, OI, show ¬ a % 4 < 0 by omega, show ¬ (4 : Int) = 0 by decide]
 ·simp (disch := omega) only [Ns, M_, NK, wrap64, MB, Mc, dec_not, dec_and, Oc, NJ, cond_true, cond_false, Option.bind_some, Option.bind_none, Bool.or_true, Bool.true_or, Bool.and_true, Bool.true_and, Bool.and_false, Bool.false_and, Bool.or_false, Bool.false_or, Bool.not_true, Bool.not_false, Bool.or_self, Bool.and_self, Bool.not_not, if_true, if_false, and_self, true_and, and_true, and_false, false_and, or_true, true_or, or_false, false_or, not_true_eq_false, not_false_eq_true, decide_true, decide_false, eq_self, if_pos, if_neg, OJ, OI, show ¬ a % 100 < 0 by omega, show ¬ (100 : Int) = 0 by decide]
 ·simp (disch := omega) only [Ns, M_, NK, wrap64, MB, Mc, dec_not, dec_and, Oc, NJ, cond_true, cond_false, Option.bind_some, Option.bind_none, Bool.or_true, Bool.true_or, Bool.and_true, Bool.true_and, Bool.and_false, Bool.false_and, Bool.or_false, Bool.false_or, Bool.not_true, Bool.not_false, Bool.or_self, Bool.and_self, Bool.not_not, if_true, if_false, and_self, true_and, and_true, and_false, false_and, or_true, true_or, or_false, false_or, not_true_eq_false, not_false_eq_true, decide_true, decide_false, eq_self, if_pos, if_neg, OJ, OI, show ¬ a % 400 < 0 by omega, show ¬ (400 : Int) = 0 by decide]
theorem number_eq {y m d : Int} (hy : 1 <= y) (hy2 : y <= 20000) (hm : 1 <= m) (hm2 : m <= 12) (hd : 0 <= d) (hd2 : d <= 1000) : ML.run .lim (y, m, d, ()) = some (dN y m d) := by
 unfold dN;have e1 : IntKind.i64.wrap (y - IntKind.i64.wrap ((IntKind.i64.wrap (14 - m)).tdiv 12)) = y - (14 - m) / 12 := by rw [wrap64 (n := 14 - m) (by omega) (by omega), Nh (by omega), wrap64 (n := (14 - m) / 12) (by omega) (by omega), wrap64 (by omega) (by omega)]
 have hy' : 0 <= y - (14 - m) / 12 /\ y - (14 - m) / 12 <= 20000 := by omega
 simp only [ML.run, e1];generalize y - (14 - m) / 12 = z at hy';rw [NP hy'.1 (by omega) (.inl rfl), Option.bind_some, NP hy'.1 (by omega) (.inr (.inl rfl)), Option.bind_some, NP hy'.1 (by omega) (.inr (.inr rfl)), Option.bind_some];rw [wrap64 (n := m + 9) (by omega) (by omega), Nv (a := m + 9) (by omega)];have hm' : 0 <= (m + 9) % 12 /\ (m + 9) % 12 < 12 := by omega
 generalize (m + 9) % 12 = k at hm';rw [wrap64 (n := k * 306) (by omega) (by omega), wrap64 (n := k * 306 + 5) (by omega) (by omega), Nh (a := k * 306 + 5) (by omega), wrap64 (n := (k * 306 + 5) / 10) (by omega) (by omega)];rw [wrap64 (n := z * 365) (by omega) (by omega), wrap64 (n := z * 365 + z / 4) (by omega) (by omega), wrap64 (n := z * 365 + z / 4 - z / 100) (by omega) (by omega), wrap64 (n := z * 365 + z / 4 - z / 100 + z / 400) (by omega) (by omega),
  wrap64 (n := z * 365 + z / 4 - z / 100 + z / 400 + (k * 306 + 5) / 10) (by omega) (by omega), wrap64 (n := z * 365 + z / 4 - z / 100 + z / 400 + (k * 306 + 5) / 10 + d) (by omega) (by omega), wrap64 (by omega) (by omega)]
theorem Ny {y m d : Int} (h : 1 <= m) (h2 : m <= 2) : dN y m d = (y - 1) * 365 + (y - 1) / 4 - (y - 1) / 100 + (y - 1) / 400 + ((m + 9) * 306 + 5) / 10 + d - 307 := by
 unfold dN;rw [show (14 - m) / 12 = 1 by omega, show (m + 9) % 12 = m + 9 by omega]
theorem NM {y m d : Int} (h : 3 <= m) (h2 : m <= 12) : dN y m d = y * 365 + y / 4 - y / 100 + y / 400 + ((m - 3) * 306 + 5) / 10 + d - 307 := by
 unfold dN;rw [show (14 - m) / 12 = 0 by omega, show (m + 9) % 12 = m - 3 by omega, Int.sub_zero]
theorem PE {y m d : Int} : dN y m d = dN y m 1 + d - 1 := by unfold dN; omega
theorem O7 {a b : Int} (h : a <= b) : dN a 1 1 <= dN b 1 1 := by rw [Ny (by omega) (by omega), Ny (by omega) (by omega)]; omega
theorem NZ {y a b : Int} (h1 : 1 <= a) (h : a <= b) (h2 : b <= 12) : dN y a 1 <= dN y b 1 := by
 by_cases ha : a <= 2
 ·rw [Ny h1 ha];by_cases hb : b <= 2
  ·rw [Ny (by omega) hb]; omega
  ·rw [NM (by omega) h2]; omega
 ·rw [NM (by omega) (by omega), NM (by omega) h2]; omega
theorem OE {y : Int} : dN (y + 1) 1 1 = dN y 12 1 + 31 := by
 rw [Ny (by omega) (by omega), NM (by omega) (by omega), show y + 1 - 1 = y by omega];have e1 : ((1 + 9) * 306 + 5) / 10 = (306 : Int) := by decide
 have e2 : ((12 - 3) * 306 + 5) / 10 = (275 : Int) := by decide
 rw [e1, e2]; omega
def dX (y m : Int) : Int := if m = 12 then dN (y + 1) 1 1 else dN y (m + 1) 1
theorem P7 {y m : Int} (h1 : 1 <= m) (h2 : m <= 12) : dX y m <= dN (y + 1) 1 1 := by
 unfold dX;split
 ·exact Int.le_refl _
 ·have := NZ (y := y) (a := m + 1) (b := 12) (by omega) (by omega) (by omega);rw [OE]; omega
theorem OG {y m : Int} (h1 : 1 <= m) (h2 : m <= 12) : dX y m <= dN y m 1 + 31 := by
 unfold dX;split
 ·rename_i h; subst h; rw [OE]; omega
 ·by_cases h3 : m <= 1
  ·rw [Ny (by omega) (by omega), Ny (by omega) (by omega)]; omega
  ·by_cases h4 : m = 2
   ·subst h4;rw [Ny (y := y) (m := 2) (by omega) (by omega), NM (by omega) (by omega)];have e1 : ((2 + 9) * 306 + 5) / 10 = (337 : Int) := by decide
    have e2 : ((2 + 1 - 3) * 306 + 5) / 10 = (0 : Int) := by decide
    rw [e1, e2]; omega
   ·rw [NM (by omega) (by omega), NM (by omega) (by omega)]; omega
structure Dt (n y m d : Int) : Prop where
 y1 : 1 <= y
 y2 : y <= 10000
 m1 : 1 <= m
 m2 : m <= 12
 lo : dN y m 1 <= n
 hi : n < dX y m
 d : d = n - dN y m 1 + 1
theorem Dt.d1 {n y m d : Int} (h : Dt n y m d) : 1 <= d /\ d <= 31 := by have := h.lo; have := h.hi; have := h.d; have := OG (y := y) h.m1 h.m2; omega
theorem Dt.num {n y m d : Int} (h : Dt n y m d) : dN y m d = n := by have := h.d; rw [PE]; omega
theorem Dt.le {n y m d n' y' m' d' : Int} (h : Dt n y m d) (h' : Dt n' y' m' d') (hn : n <= n') : y < y' \/ (y = y' /\ (m < m' \/ (m = m' /\ d <= d'))) := by
 have a1 := h.lo; have a2 := h'.hi;have b1 := NZ (y := y) (a := 1) (b := m) (by omega) h.m1 h.m2;have b2 := P7 (y := y') h'.m1 h'.m2;by_cases hy : y' < y
 ·have := O7 (a := y' + 1) (b := y) (by omega);omega
 ·by_cases hy2 : y < y'
  ·exact .inl hy2
  ·obtain rfl : y = y' := by omega
   refine .inr ⟨rfl, ?_⟩;by_cases hm : m' < m
   ·have e : dX y m' = dN y (m' + 1) 1 := by unfold dX; rw [if_neg (by have := h.m2; omega)]
    have := NZ (y := y) (a := m' + 1) (b := m) (by have := h'.m1; omega) (by omega) h.m2;omega
   ·by_cases hm2 : m < m'
    ·exact .inl hm2
    ·obtain rfl : m = m' := by omega
     have := h.d; have := h'.d;exact .inr ⟨rfl, by omega⟩
theorem Dt.eq {n y m d y' m' d' : Int} (h : Dt n y m d) (h' : Dt n y' m' d') : y = y' /\ m = m' /\ d = d' := by
 have a := h.le h' (Int.le_refl _);have b := h'.le h (Int.le_refl _);omega
theorem Dt.lt {n y m d n' y' m' d' : Int} (h : Dt n y m d) (h' : Dt n' y' m' d') (hn : n < n') : y < y' \/ (y = y' /\ (m < m' \/ (m = m' /\ d < d'))) := by
 have a := h.le h' (by omega);have := h.num; have := h'.num;rcases a with a | ⟨rfl, a | ⟨rfl, a⟩⟩
 ·exact .inl a
 ·exact .inr ⟨rfl, .inl a⟩
 ·refine .inr ⟨rfl, .inr ⟨rfl, ?_⟩⟩;have := h.d; have := h'.d;omega
theorem y0 : dN 1 1 1 = 0 := by decide
theorem Qs : dN 10000 1 1 = 3652059 := by decide
theorem Qu : dN 10001 1 1 = 3652425 := by decide
theorem Oi {n : Int} (h0 : 0 <= n) (h1 : n <= 3652300) : ∀ (k : Nat) (y : Int), 1 <= y -> y + k = 10000 -> ∃ y', L6.l0 .lim (n, y, ()) = some (n, y', ()) /\ 1 <= y' /\ y' <= 10000 /\ n < dN (y' + 1) 1 1
 | k, y, hy, hk => by
  rw [L6.q0];simp only [L6.b0, wrap64 (n := y + 1) (by omega) (by omega), number_eq (y := y + 1) (m := 1) (d := 1) (by omega) (by omega) (by omega) (by omega) (by omega) (by omega), Option.bind_some];by_cases h : dN (y + 1) 1 1 <= n
  ·rw [cond_pos (MB h)]
   match k, hk with
   | 0, hk =>
    obtain rfl : y = 10000 := by omega
    have : dN (10000 + 1) 1 1 = 3652425 := Qu;omega
   | k + 1, hk => exact Oi h0 h1 k (y + 1) (by omega) (by omega)
  ·rw [cond_neg (Mc h)];exact ⟨y, rfl, hy, by omega, by omega⟩
theorem Oj {n : Int} (h0 : 0 <= n) : ∀ (k : Nat) (y : Int), y = k + 1 -> y <= 10000 -> n < dN (y + 1) 1 1 -> ∃ y', L6.l1 .lim (n, y, ()) = some (n, y', ()) /\ 1 <= y' /\ y' <= 10000 /\ dN y' 1 1 <= n /\ n < dN (y' + 1) 1 1
 | k, y, hk, hy, hn => by
  rw [L6.q1];simp only [L6.b1, number_eq (y := y) (m := 1) (d := 1) (by omega) (by omega) (by omega) (by omega) (by omega) (by omega), Option.bind_some];by_cases h : dN y 1 1 > n
  ·rw [cond_pos (MB h), wrap64 (n := y - 1) (by omega) (by omega)]
   match k, hk with
   | 0, hk =>
    obtain rfl : y = 1 := by omega
    have := y0;omega
   | k + 1, hk => exact Oj h0 k (y - 1) (by omega) (by omega) (by rw [show y - 1 + 1 = y by omega]; exact h)
  ·rw [cond_neg (Mc h)];exact ⟨y, rfl, by omega, hy, by omega, hn⟩
theorem Ol {n y : Int} (hy1 : 1 <= y) (hy2 : y <= 10000) (h0 : dN y 1 1 <= n) : ∀ (k : Nat) (m : Int), m = k + 1 -> m <= 12 -> n < dX y m -> ∃ m', L6.l2 .lim (n, y, m, ()) = some (n, y, m', ()) /\ 1 <= m' /\ m' <= 12 /\ dN y m' 1 <= n /\ n < dX y m'
 | k, m, hk, hm, hn => by
  rw [L6.q2];simp only [L6.b2, number_eq (y := y) (m := m) (d := 1) (by omega) (by omega) (by omega) (by omega) (by omega) (by omega), Option.bind_some];by_cases h : dN y m 1 > n
  ·rw [cond_pos (MB h), wrap64 (n := m - 1) (by omega) (by omega)]
   match k, hk with
   | 0, hk =>
    obtain rfl : m = 1 := by omega
    omega
   | k + 1, hk => exact Ol hy1 hy2 h0 k (m - 1) (by omega) (by omega) (by unfold dX; rw [if_neg (by omega), show m - 1 + 1 = m by omega]; exact h)
  ·rw [cond_neg (Mc h)];exact ⟨m, rfl, by omega, hm, by omega, hn⟩
theorem O8 {n : Int} (h0 : 0 <= n) (h1 : n <= 3652300) : ∃ y m d, L6.run .lim (n, ()) = some (y, m, d, ()) /\ Dt n y m d := by
 simp only [L6.run];rw [wrap64 (n := n * 400) (by omega) (by omega), Nh (by omega), wrap64 (n := n * 400 / 146097) (by omega) (by omega), wrap64 (n := n * 400 / 146097 + 1) (by omega) (by omega)];obtain ⟨y, e1, a1, a2, a3⟩ := Oi h0 h1 (10000 - (n * 400 / 146097 + 1)).toNat (n * 400 / 146097 + 1) (by omega) (by omega);rw [e1, Option.bind_some];obtain ⟨y, e2, b1, b2, b3, b4⟩ := Oj h0 (y - 1).toNat y (by omega) a2 a3;simp only [e2, Option.bind_some];obtain ⟨m, e3, c1, c2, c3, c4⟩ := Ol b1 b2 b3 11 12 (by omega) (by omega) (by unfold dX; rw [if_pos rfl]; exact b4);simp only [e3, Option.bind_some, number_eq (y := y) (m := m) (d := 1) (by omega) (by omega) (by omega) (by omega) (by omega) (by omega)];have hX := OG (y := y) c1 c2;rw [wrap64 (n := n - dN y m 1) (by omega) (by omega), wrap64 (n := n - dN y m 1 + 1) (by omega) (by omega)];exact ⟨_, _, _, rfl, b1, b2, c1, c2, c3, c4, rfl⟩
def NV (n : Int) : List Int := [48 + n / 10, 48 + n % 10]
def Ov (n : Int) : List Int := [48 + n / 1000, 48 + n / 100 % 10, 48 + n / 10 % 10, 48 + n % 10]
theorem MP {n size : Int} {l : List Int} {k : Nat} (h0 : 0 <= n) (h1 : n < 10000) (hl : GV n = l) (hll : l.length <= 4) (hk : size = k + l.length) (hk4 : k <= 4) : MC.run .lim (n, size, ()) = some (Eu [48] k ++ l) := by
 have e1 : strconv_Itoa.run .lim (n, ()) = some l := by
  show FB (n, ()) = _;unfold FB;rw [show (decide ((n, ()).1 >= 0) && decide ((n, ()).1 < 10000)) = true from by rw [MB h0, MB h1]; rfl];show some (GV n) = _;rw [hl]
 have e2 : strings_Repeat.run .lim ([48], (k : Int), ()) = some (Eu [48] k) := by
  show KA ([48], (k : Int), ()) = _;unfold KA;rw [show (decide (0 <= (([48] : List Int), (k : Int), ()).2.1) && Nat.ble ((([48] : List Int), (k : Int), ()).1.length * (([48] : List Int), (k : Int), ()).2.1.toNat) 140737488355328) = true from by
   rw [MB (by show (0 : Int) <= (k : Int); omega)];show Nat.ble (1 * (k : Int).toNat) 140737488355328 = true;exact Nat.ble_eq_true_of_le (by omega)]
  rfl
 have hr : (Eu ([48] : List Int) k).length = k := by
  clear e2 hk hk4
  induction k with
  | zero => rfl
  | succ k ih => show ([48] ++ Eu [48] k).length = _; rw [List.length_append, ih]; simp; omega
 simp only [MC.run, e1, Option.bind_some, Nl (show l.length < 9223372036854775808 by omega), cond_true, wrap64 (n := size - (l.length : Int)) (by omega) (by omega), show size - (l.length : Int) = (k : Int) by omega, wrap64 (n := (k : Int)) (by omega) (by omega), e2, Option.bind_some];rw [cond_pos (MB (by rw [hr]; show _ <= 9223372036854775807; omega))]
theorem Nr {n : Int} (h0 : 0 <= n) (h1 : n < 100) : MC.run .lim (n, 2, ()) = some (NV n) := by
 by_cases h : n < 10
 ·rw [MP (size := 2) (l := [48 + n]) (k := 1) h0 (by omega) (by unfold GV; rw [MB h]; rfl) (by simp) rfl (by omega)];show some [48, 48 + n] = some [48 + n / 10, 48 + n % 10];rw [show n / 10 = 0 by omega, show n % 10 = n by omega]; rfl
 ·rw [MP (size := 2) (l := NV n) (k := 0) h0 (by omega) (by unfold GV; rw [Mc h, MB h1]; rfl) (by simp [NV]) rfl (by omega)];rfl
theorem Pg {n : Int} (h0 : 0 <= n) (h1 : n < 10000) : MC.run .lim (n, 4, ()) = some (Ov n) := by
 by_cases h : n < 10
 ·rw [MP (size := 4) (l := [48 + n]) (k := 3) h0 (by omega) (by unfold GV; rw [MB h]; rfl) (by simp) rfl (by omega)];show some [48, 48, 48, 48 + n] = some [48 + n / 1000, 48 + n / 100 % 10, 48 + n / 10 % 10, 48 + n % 10];rw [show n / 1000 = 0 by omega, show n / 100 % 10 = 0 by omega, show n / 10 % 10 = 0 by omega, show n % 10 = n by omega]; rfl
 ·by_cases h2 : n < 100
  ·rw [MP (size := 4) (l := [48 + n / 10, 48 + n % 10]) (k := 2) h0 (by omega) (by unfold GV; rw [Mc h, MB h2]; rfl) (by simp) rfl (by omega)];show some [48, 48, 48 + n / 10, 48 + n % 10] = some [48 + n / 1000, 48 + n / 100 % 10, 48 + n / 10 % 10, 48 + n % 10];rw [show n / 1000 = 0 by omega, show n / 100 % 10 = 0 by omega, show n / 10 % 10 = n / 10 by omega]; rfl
  ·by_cases h3 : n < 1000
   ·rw [MP (size := 4) (l := [48 + n / 100, 48 + n / 10 % 10, 48 + n % 10]) (k := 1) h0 (by omega) (by unfold GV; rw [Mc h, Mc h2, MB h3]; rfl) (by simp) rfl (by omega)];show some [48, 48 + n / 100, 48 + n / 10 % 10, 48 + n % 10] = some [48 + n / 1000, 48 + n / 100 % 10, 48 + n / 10 % 10, 48 + n % 10];rw [show n / 1000 = 0 by omega, show n / 100 % 10 = n / 100 by omega]; rfl
   ·rw [MP (size := 4) (l := Ov n) (k := 0) h0 h1 (by unfold GV; rw [Mc h, Mc h2, Mc h3]; rfl) (by simp [Ov]) rfl (by omega)];rfl
def NR (y m d s : Int) : List Int := Ov y ++ NV m ++ NV d ++ NV (s / 3600) ++ NV (s / 60 % 60) ++ NV (s % 60) ++ [90]
theorem Po {t : Int} (h : t < -62135596800 \/ t > 253402300799) : MI.run .lim (t, ()) = some ([], 13, ()) := by
 simp only [MI.run];rw [cond_pos (by rw [Bool.or_eq_true, decide_eq_true_eq, decide_eq_true_eq]; exact h)]
theorem Pn {t : Int} (h0 : -62135596800 <= t) (h1 : t <= 253402300799) : ∃ y m d, Dt ((t + 62135596800) / 86400) y m d /\ y <= 9999 /\ MI.run .lim (t, ()) = some (NR y m d ((t + 62135596800) % 86400), 0, ()) := by
 obtain ⟨y, m, d, e, D⟩ := O8 (n := (t + 62135596800) / 86400) (by omega) (by omega);have hy : y <= 9999 := by
  by_cases hc : y <= 9999
  ·exact hc
  ·obtain rfl : y = 10000 := by have := D.y2; omega
   have := D.lo; have := NZ (y := 10000) (a := 1) (b := m) (by omega) D.m1 D.m2; have := Qs;omega
 refine ⟨y, m, d, D, hy, ?_⟩;have hd := D.d1;have := D.y1; have := D.m1; have := D.m2;have ew : IntKind.i64.wrap (t - -62135596800) = t + 62135596800 := by rw [wrap64 (by omega) (by omega)]; omega
 have ed : IntKind.i64.wrap ((t + 62135596800).tdiv 86400) = (t + 62135596800) / 86400 := by rw [Nh (by omega), wrap64 (by omega) (by omega)]
 have em : (t + 62135596800).tmod 86400 = (t + 62135596800) % 86400 := Nv (by omega);simp only [MI.run, ew, ed, em, e, Option.bind_some];rw [cond_neg (by rw [Mc (show ¬ t < -62135596800 by omega), Mc (show ¬ t > 253402300799 by omega)]; rfl)];have hs : 0 <= (t + 62135596800) % 86400 /\ (t + 62135596800) % 86400 < 86400 := by omega
 generalize (t + 62135596800) % 86400 = s at hs;have e3 : IntKind.i64.wrap (s.tdiv 3600) = s / 3600 := by rw [Nh (by omega), wrap64 (by omega) (by omega)]
 have e4 : (IntKind.i64.wrap (s.tdiv 60)).tmod 60 = s / 60 % 60 := by rw [Nh (by omega), wrap64 (by omega) (by omega), Nv (by omega)]
 have e5 : s.tmod 60 = s % 60 := Nv (by omega);simp only [e3, e4, e5, Pg (n := y) (by omega) (by omega), Nr (n := m) (by omega) (by omega), Nr (n := d) (by omega) (by omega), Nr (n := s / 3600) (by omega) (by omega), Nr (n := s / 60 % 60) (by omega) (by omega), Nr (n := s % 60) (by omega) (by omega), Option.bind_some];rfl
end Go.AM
end
section
namespace Go.AM
theorem MW {x y : Int} (hx : 0 <= x) (hy : 0 <= y) (l l' : List Int) : strLt (NV x ++ l) (NV y ++ l') = (decide (x < y) || (decide (x = y) && strLt l l')) := by
 show (decide (48 + x / 10 < 48 + y / 10) || (decide (48 + x / 10 = 48 + y / 10) && (decide (48 + x % 10 < 48 + y % 10) || (decide (48 + x % 10 = 48 + y % 10) && strLt l l')))) = _;rw [Bool.eq_iff_iff];by_cases hb : strLt l l' = true
 ·simp only [hb, Bool.or_eq_true, Bool.and_eq_true, decide_eq_true_eq, and_true, and_false, or_false, eq_self, Bool.false_eq_true]; omega
 ·simp only [hb, Bool.or_eq_true, Bool.and_eq_true, decide_eq_true_eq, and_true, and_false, or_false, eq_self, Bool.false_eq_true]; omega
theorem Og {x y : Int} (hx : 0 <= x) (hy : 0 <= y) (l l' : List Int) : strLt (Ov x ++ l) (Ov y ++ l') = (decide (x < y) || (decide (x = y) && strLt l l')) := by
 show (decide (48 + x / 1000 < 48 + y / 1000) || (decide (48 + x / 1000 = 48 + y / 1000) && (decide (48 + x / 100 % 10 < 48 + y / 100 % 10) || (decide (48 + x / 100 % 10 = 48 + y / 100 % 10) && (decide (48 + x / 10 % 10 < 48 + y / 10 % 10) || (decide (48 + x / 10 % 10 = 48 + y / 10 % 10) && (decide (48 + x % 10 < 48 + y % 10) || (decide (48 + x % 10 = 48 + y % 10) && strLt l l')))))))) = _;rw [Bool.eq_iff_iff];have : x = 1000 * (x / 1000) + 100 * (x / 100 % 10) + 10 * (x / 10 % 10) + x % 10 := by omega
 have : y = 1000 * (y / 1000) + 100 * (y / 100 % 10) + 10 * (y / 10 % 10) + y % 10 := by omega
 have h1 : 0 <= x / 100 % 10 /\ x / 100 % 10 < 10 /\ 0 <= x / 10 % 10 /\ x / 10 % 10 < 10 /\ 0 <= x % 10 /\ x % 10 < 10 := by omega
 have h2 : 0 <= y / 100 % 10 /\ y / 100 % 10 < 10 /\ 0 <= y / 10 % 10 /\ y / 10 % 10 < 10 /\ 0 <= y % 10 /\ y % 10 < 10 := by omega
 generalize x / 1000 = x1 at *; generalize x / 100 % 10 = x2 at *; generalize x / 10 % 10 = x3 at *; generalize x % 10 = x4 at *;generalize y / 1000 = y1 at *; generalize y / 100 % 10 = y2 at *; generalize y / 10 % 10 = y3 at *; generalize y % 10 = y4 at *;by_cases hb : strLt l l' = true
 ·simp only [hb, Bool.or_eq_true, Bool.and_eq_true, decide_eq_true_eq, and_true, and_false, or_false, eq_self, Bool.false_eq_true]; omega
 ·simp only [hb, Bool.or_eq_true, Bool.and_eq_true, decide_eq_true_eq, and_true, and_false, or_false, eq_self, Bool.false_eq_true]; omega
theorem OW {y m d s y' m' d' s' : Int} (h : 0 <= y /\ 0 <= m /\ 0 <= d /\ 0 <= s) (h' : 0 <= y' /\ 0 <= m' /\ 0 <= d' /\ 0 <= s') :
  strLt (NR y m d s) (NR y' m' d' s') = true ↔ (y < y' \/ (y = y' /\ (m < m' \/ (m = m' /\ (d < d' \/ (d = d' /\ (s / 3600 < s' / 3600 \/ (s / 3600 = s' / 3600 /\ (s / 60 % 60 < s' / 60 % 60 \/ (s / 60 % 60 = s' / 60 % 60 /\ s % 60 < s' % 60)))))))))) := by
 unfold NR;simp only [List.append_assoc];rw [Og h.1 h'.1, MW h.2.1 h'.2.1, MW h.2.2.1 h'.2.2.1, MW (x := s / 3600) (by omega) (by omega), MW (x := s / 60 % 60) (by omega) (by omega), MW (x := s % 60) (by omega) (by omega)];have e : strLt [90] [90] = false := rfl;simp only [e, Bool.or_eq_true, Bool.and_eq_true, decide_eq_true_eq, Bool.false_eq_true, and_false, or_false]
theorem Ph {s s' : Int} (h : 0 <= s /\ 0 <= s') : (s / 3600 < s' / 3600 \/ (s / 3600 = s' / 3600 /\ (s / 60 % 60 < s' / 60 % 60 \/ (s / 60 % 60 = s' / 60 % 60 /\ s % 60 < s' % 60)))) ↔ s < s' := by
 have e1 : s = 3600 * (s / 3600) + 60 * (s / 60 % 60) + s % 60 := by omega
 have e2 : s' = 3600 * (s' / 3600) + 60 * (s' / 60 % 60) + s' % 60 := by omega
 have h1 : 0 <= s / 60 % 60 /\ s / 60 % 60 < 60 /\ 0 <= s % 60 /\ s % 60 < 60 := by omega
 have h2 : 0 <= s' / 60 % 60 /\ s' / 60 % 60 < 60 /\ 0 <= s' % 60 /\ s' % 60 < 60 := by omega
 generalize s / 3600 = a at *; generalize s / 60 % 60 = b at *; generalize s % 60 = c at *;generalize s' / 3600 = a' at *; generalize s' / 60 % 60 = b' at *; generalize s' % 60 = c' at *;omega
theorem OX {t u y m d y' m' d' : Int} (D : Dt ((t + 62135596800) / 86400) y m d) (D' : Dt ((u + 62135596800) / 86400) y' m' d') :
  strLt (NR y m d ((t + 62135596800) % 86400)) (NR y' m' d' ((u + 62135596800) % 86400)) = decide (t < u) := by
 have a1 := D.y1; have a2 := D.m1; have a3 := D.d1; have b1 := D'.y1; have b2 := D'.m1; have b3 := D'.d1;rw [Bool.eq_iff_iff, OW ⟨by omega, by omega, by omega, by omega⟩ ⟨by omega, by omega, by omega, by omega⟩, decide_eq_true_eq];have hs := Ph (s := (t + 62135596800) % 86400) (s' := (u + 62135596800) % 86400) ⟨by omega, by omega⟩;rw [hs];by_cases h1 : (t + 62135596800) / 86400 < (u + 62135596800) / 86400
 ·have := D.lt D' h1; omega
 ·by_cases h2 : (u + 62135596800) / 86400 < (t + 62135596800) / 86400
  ·have := D'.lt D h2; omega
  ·have e : (t + 62135596800) / 86400 = (u + 62135596800) / 86400 := by omega
   rw [<- e] at D';have := D.eq D'; omega
end Go.AM
end
section
namespace Go.AM
abbrev O5 (x : Int) : Prop := 0 <= x /\ x < 18446744073709551616
structure Nm (n : List Int) : Prop where
 len : n.length = 4
 u : ∀ x ∈ n, O5 x
def Nj (s : List Int) (k : Nat) : List Int := tab s.length fun x => if x < k \/ s.length - k <= x then rd 0 s ((s.length - 1 - x : Nat) : Int) else rd 0 s (x : Int)
theorem OQ {β : Type} {l : Int -> Int -> List Int -> Option β} {e : List Int -> Option β}
  (q : ∀ i j m, l i j m = bif decide (i < j) then bif inB j (m.length : Int) then bif inB i (m.length : Int) then bif inB i (m.length : Int) then bif inB j ((m.set i.toNat (rd 0 m j)).length : Int) then
   l (IntKind.i64.wrap (i + 1)) (IntKind.i64.wrap (j - 1)) ((m.set i.toNat (rd 0 m j)).set j.toNat (rd 0 m i)) else none else none else none else none else e m) {s : List Int} (hs : s.length < 4611686018427387904) :
  l 0 (IntKind.i64.wrap ((s.length : Int) - 1)) s = e s.reverse := by
 have h0 : s = Nj s 0 := by
  unfold Nj
  conv => lhs; rw [OV (m := s) rfl]
  exact MV fun x hx => by rw [if_neg (by omega)]
 have hstep : ∀ k : Nat, 2 * k + 1 < s.length -> l (k : Int) ((s.length : Int) - 1 - k) (Nj s k) = l ((k + 1 : Nat) : Int) ((s.length : Int) - 1 - ((k + 1 : Nat) : Int)) (Nj s (k + 1)) := fun k hk => by
  have hl : (Nj s k).length = s.length := Nu;rw [q, MB (show (k : Int) < (s.length : Int) - 1 - k by omega), cond_true, hl, M_ (show (0 : Int) <= (s.length : Int) - 1 - k by omega) (by omega), cond_true, M_ (show (0 : Int) <= (k : Int) by omega) (by omega), cond_true, cond_true,
   List.length_set, hl, M_ (show (0 : Int) <= (s.length : Int) - 1 - k by omega) (by omega), cond_true, wrap64 (n := (k : Int) + 1) (by omega) (by omega), wrap64 (n := (s.length : Int) - 1 - k - 1) (by omega) (by omega)]
  have ej : (s.length : Int) - 1 - k = ((s.length - 1 - k : Nat) : Int) := by omega
  rw [show (k : Int) + 1 = ((k + 1 : Nat) : Int) by omega, show (s.length : Int) - 1 - k - 1 = (s.length : Int) - 1 - ((k + 1 : Nat) : Int) by omega, ej];congr 1;have r1 : rd 0 (Nj s k) ((s.length - 1 - k : Nat) : Int) = rd 0 s ((s.length - 1 - k : Nat) : Int) := by unfold Nj; rw [NQ (by omega), if_neg (by omega)]
  have r2 : rd 0 (Nj s k) (k : Int) = rd 0 s (k : Int) := by unfold Nj; rw [NQ (by omega), if_neg (by omega)]
  rw [r1, r2];unfold Nj;rw [Int.toNat_natCast, Int.toNat_natCast, NC, NC];refine MV fun x hx => ?_
  by_cases h1 : x = s.length - 1 - k
  ·rw [if_pos h1, if_pos (by omega), show s.length - 1 - x = k by omega]
  ·rw [if_neg h1];by_cases h2 : x = k
   ·rw [if_pos h2, if_pos (by omega), h2]
   ·rw [if_neg h2];by_cases h3 : x < k \/ s.length - k <= x
    ·rw [if_pos h3, if_pos (by omega)]
    ·rw [if_neg h3, if_neg (by omega)]
 have hall : ∀ k : Nat, 2 * k <= s.length -> l 0 ((s.length : Int) - 1) s = l (k : Int) ((s.length : Int) - 1 - k) (Nj s k) := fun k => by
  induction k with
  | zero => intro _; rw [<- h0]; show _ = l 0 ((s.length : Int) - 1 - 0) s; rw [Int.sub_zero]
  | succ k ih => intro hk; rw [ih (by omega), hstep k (by omega)]
 rw [wrap64 (by omega) (by omega), hall (s.length / 2) (by omega), q, Mc (show ¬ ((s.length / 2 : Nat) : Int) < (s.length : Int) - 1 - ((s.length / 2 : Nat) : Int) by omega), cond_false];congr 1;have hr : s.reverse.length = s.length := List.length_reverse;rw [OV (m := s.reverse) hr];unfold Nj;refine MV fun x hx => ?_
 have hrev : rd 0 s.reverse (x : Int) = rd 0 s ((s.length - 1 - x : Nat) : Int) := by rw [NW (by omega), NW (by omega), List.getElem_reverse]
 rw [hrev];split
 ·rfl
 ·rw [show s.length - 1 - x = x by omega]
theorem NY {s : List Int} (hs : s.length < 4611686018427387904) : MG.run .lim (s, ()) = some s.reverse := by
 have h := OQ (l := fun i j m => MG.l0 .lim (i, j, m, ())) (e := fun m => some (m, ())) (fun i j m => by rw [MG.q0]; rfl) hs;simp only [MG.run, Nl (show s.length < 9223372036854775808 by omega), cond_true, h, Option.bind_some]
def Qb (n : List Int) (i : Nat) : Int := rd 0 n ((i / 8 : Nat) : Int) / 2 ^ (8 * (i % 8)) % 256
def leB (n : List Int) : List Int := tab 32 (Qb n)
theorem Ou {n : List Int} : Me.run .lim (n, ()) = some (leB n) := by
 have e := Oo (f := Me.l0 .lim) (fun k => ((k : Int), n, N7 32 k (Qb n), ())) (n := 32) (fun k hk => by
  rw [Me.q0];have e1 : IntKind.i64.wrap ((k : Int).tdiv 8) = ((k / 8 : Nat) : Int) := by rw [Int.tdiv_eq_ediv_of_nonneg (by omega), wrap64 (by omega) (by omega)]; omega
  have e2 : IntKind.i64.wrap (8 * ((k : Int).tmod 8)) = ((8 * (k % 8) : Nat) : Int) := by rw [Int.tmod_eq_emod_of_nonneg (by omega), wrap64 (by omega) (by omega)]; omega
  simp only [Me.b0, e1, e2];have hv : IntKind.u8.wrap (IJ .u64 (rd 0 n ((k / 8 : Nat) : Int)) ((8 * (k % 8) : Nat) : Int)) = Qb n k := by rw [Pj _ 0 _ _ (by show 8 * (k % 8) <= 64; omega), PS]; rfl
  rw [MB (show (k : Int) < 32 by omega), cond_true, M_ (show (0 : Int) <= ((k / 8 : Nat) : Int) by omega) (by omega), cond_true, MB (show (0 : Int) <= ((8 * (k % 8) : Nat) : Int) by omega), cond_true, M_ (show (0 : Int) <= (k : Int) by omega) (by omega), cond_true, hv, Int.toNat_natCast, OU rfl, Qp k (by omega)])
 have e0 : Me.l0 .lim (0, n, List.replicate 32 0, ()) = Me.l0 .lim (32, n, N7 32 32 (Qb n), ()) := by
  have := e;rw [Oy] at this;exact this
 simp only [Me.run, e0];rw [Me.q0];simp only [Me.b0];rw [cond_neg (Mc (by decide)), Option.bind_some, OT, List.drop_zero, List.take_of_length_le (by simp)];rfl
def Nq (n : List Int) : List Int := (leB n).reverse
theorem PD {n : List Int} : Nc.run .lim (n, ()) = some (Nq n) := by
 simp only [Nc.run, Ou, Option.bind_some];rw [NY (by unfold leB; rw [Nu]; decide)]; rfl
def MQ : List Int -> Int
 | [] => 0
 | c :: r => c + 256 * MQ r
theorem MX : ∀ a b : List Int, MQ (a ++ b) = MQ a + 256 ^ a.length * MQ b
 | [], b => by show MQ b = 0 + 256 ^ 0 * MQ b; rw [Int.pow_zero, Int.one_mul, Int.zero_add]
 | c :: a, b => by
  show c + 256 * MQ (a ++ b) = c + 256 * MQ a + 256 ^ (a.length + 1) * MQ b;rw [MX a b, Int.pow_succ, Int.mul_add, Int.add_assoc, Int.mul_comm (256 ^ a.length) 256, Int.mul_assoc]
theorem NH : ∀ {a : List Int}, Bs a -> 0 <= MQ a /\ MQ a < 256 ^ a.length
 | [], _ => by show (0 : Int) <= 0 /\ (0 : Int) < 256 ^ 0; decide
 | c :: a, h => by
  have := NH (a := a) fun x hx => h x (.tail _ hx)
  have hc := h c (.head _);unfold B8 at hc;show 0 <= c + 256 * MQ a /\ c + 256 * MQ a < 256 ^ (a.length + 1);rw [Int.pow_succ];omega
def nV (n : List Int) : Int := rd 0 n 0 + 18446744073709551616 * (rd 0 n 1 + 18446744073709551616 * (rd 0 n 2 + 18446744073709551616 * rd 0 n 3))
theorem nm4 {n : List Int} (h : Nm n) : ∃ a b c d, n = [a, b, c, d] /\ O5 a /\ O5 b /\ O5 c /\ O5 d := by
 match n, h with
 | [a, b, c, d], h => exact ⟨a, b, c, d, rfl, h.u a (by simp), h.u b (by simp), h.u c (by simp), h.u d (by simp)⟩
 | [], h => cases h.len
 | [_], h => cases h.len
 | [_, _], h => cases h.len
 | [_, _, _], h => cases h.len
 | _ :: _ :: _ :: _ :: _ :: _, h => have := h.len; simp at this
theorem PI {n m : List Int} (h : Nm n) (k : Nm m) (e : nV n = nV m) : n = m := by
 obtain ⟨a, b, c, d, rfl, h1, h2, h3, h4⟩ := nm4 h;obtain ⟨a', b', c', d', rfl, k1, k2, k3, k4⟩ := nm4 k;have e : a + 18446744073709551616 * (b + 18446744073709551616 * (c + 18446744073709551616 * d)) = a' + 18446744073709551616 * (b' + 18446744073709551616 * (c' + 18446744073709551616 * d')) := e;unfold O5 at *;rw [show a = a' by omega, show b = b' by omega, show c = c' by omega, show d = d' by omega]
def PG (x : Int) : List Int := [x / 1 % 256, x / 256 % 256, x / 65536 % 256, x / 16777216 % 256, x / 4294967296 % 256, x / 1099511627776 % 256, x / 281474976710656 % 256, x / 72057594037927936 % 256]
theorem Nz {x : Int} (h : O5 x) : MQ (PG x) = x := by
 unfold O5 at h;simp only [PG, MQ];omega
theorem P_ (a b c d : Int) : leB [a, b, c, d] = PG a ++ (PG b ++ (PG c ++ PG d)) := by kernel_rfl
theorem O_ {n : List Int} (h : Nm n) : MQ (leB n) = nV n := by
 obtain ⟨a, b, c, d, rfl, h1, h2, h3, h4⟩ := nm4 h;have hl : ∀ x, (256 : Int) ^ (PG x).length = 18446744073709551616 := fun x => by
  show (256 : Int) ^ 8 = _;decide
 rw [P_, MX, MX, MX, Nz h1, Nz h2, Nz h3, Nz h4, hl, hl, hl];unfold nV;congr 1
theorem Qa {n : List Int} : Bs (leB n) := fun x hx => by
 obtain ⟨i, _, rfl⟩ := List.mem_map.1 hx;unfold Qb B8;omega
def wd (s : List Int) (t k : Nat) : Int := MQ (((s.take t).drop (8 * k)).take 8)
theorem Qc {p c : Int} {j : Nat} (hj : j <= 7) (hp : 0 <= p) (hp2 : p < 256 ^ j) (hc : B8 c) : Ku .u64 p (II .u64 (IntKind.u64.wrap c) ((8 * j : Nat) : Int)) = p + 256 ^ j * c := by
 obtain ⟨x, rfl⟩ := Int.eq_ofNat_of_zero_le hp;obtain ⟨y, rfl, hy⟩ := Py hc;have P8 : (256 : Int) ^ j = ((2 ^ (8 * j) : Nat) : Int) := by rw [Nat.pow_mul, Int.natCast_pow]; rfl
 have hx : x < 2 ^ (8 * j) := by rw [P8] at hp2; omega
 have Qv : 2 ^ (8 * j) <= 2 ^ 56 := Nat.pow_le_pow_right (by decide) (by omega);have hyb : 2 ^ (8 * j) * y + x < 2 ^ 64 := by
  have : 2 ^ (8 * j) * y <= 2 ^ (8 * j) * 255 := Nat.mul_le_mul_left _ (by omega);omega
 have e1 : IntKind.u64.wrap (y : Int) = (y : Int) := by rw [N8]; omega
 have e2 : II .u64 (y : Int) ((8 * j : Nat) : Int) = ((2 ^ (8 * j) * y : Nat) : Int) := by
  show IntKind.u64.wrap ((y : Int) * 2 ^ min (((8 * j : Nat) : Int).toNat) 64) = _;rw [Int.toNat_natCast, Nat.min_eq_left (by omega), N8, show (y : Int) * 2 ^ (8 * j) = ((2 ^ (8 * j) * y : Nat) : Int) by rw [Int.natCast_mul, Int.natCast_pow, Int.mul_comm]; rfl];omega
 rw [e1, e2, P8, show (x : Int) + ((2 ^ (8 * j) : Nat) : Int) * (y : Int) = ((2 ^ (8 * j) * y + x : Nat) : Int) by rw [Int.natCast_add, Int.natCast_mul, Int.add_comm]];show IntKind.u64.wrap ((BitVec.ofInt 64 (x : Int) ||| BitVec.ofInt 64 ((2 ^ (8 * j) * y : Nat) : Int)).toNat : Int) = _;rw [BitVec.or_comm, PL (by omega) (by omega), PK hx, N8];generalize 2 ^ (8 * j) * y + x = z at *;omega
theorem Pq {s : List Int} {t k : Nat} (hs : s.length = 32) (ht : t < 32) : wd s (t + 1) k = if k = t / 8 then wd s t k + 256 ^ (t % 8) * rd 0 s (t : Int) else wd s t k := by
 unfold wd;rw [Pm (d := (0 : Int)) (xs := s) (k := t) (by omega)];have hlen : (s.take t).length = t := by rw [List.length_take]; omega
 by_cases h1 : k = t / 8
 ·rw [if_pos h1, List.drop_append_of_le_length (by omega)];have hl2 : ((s.take t).drop (8 * k)).length = t % 8 := by rw [List.length_drop, hlen]; omega
  rw [List.take_of_length_le (by rw [List.length_append, hl2]; simp; omega), List.take_of_length_le (l := (s.take t).drop (8 * k)) (by omega), MX, hl2];show _ + 256 ^ (t % 8) * (rd 0 s (t : Int) + 256 * 0) = _;rw [Int.mul_zero, Int.add_zero]
 ·rw [if_neg h1];by_cases h2 : k < t / 8
  ·rw [List.drop_append_of_le_length (by omega), List.take_append_of_le_length (by rw [List.length_drop, hlen]; omega)]
  ·rw [List.drop_eq_nil_of_le (by rw [List.length_append, hlen]; simp; omega), List.drop_eq_nil_of_le (by omega)]
def MZ (s : List Int) : List Int := tab 4 (wd s 32)
theorem NU {s : List Int} (hs : s.length = 32) (hb : Bs s) : L9.run .lim (s, ()) = some (MZ s, 0, ()) := by
 have e := Oo (f := L9.l0 .lim) (fun k => (s, (k : Int), List.replicate 4 0, tab 4 (wd s k), ())) (n := 32) (fun k hk => by
  rw [L9.q0];have e1 : IntKind.i64.wrap ((k : Int).tdiv 8) = ((k / 8 : Nat) : Int) := by rw [Int.tdiv_eq_ediv_of_nonneg (by omega), wrap64 (by omega) (by omega)]; omega
  have e2 : IntKind.i64.wrap (8 * ((k : Int).tmod 8)) = ((8 * (k % 8) : Nat) : Int) := by rw [Int.tmod_eq_emod_of_nonneg (by omega), wrap64 (by omega) (by omega)]; omega
  simp only [L9.b0, e1, e2];rw [MB (show (k : Int) < 32 by omega), cond_true, M_ (show (0 : Int) <= ((k / 8 : Nat) : Int) by omega) (by omega), cond_true, M_ (show (0 : Int) <= (k : Int) by omega) (by omega), cond_true, MB (show (0 : Int) <= ((8 * (k % 8) : Nat) : Int) by omega), cond_true, cond_true, Qp k (by omega),
   Int.toNat_natCast, NQ (show k / 8 < 4 by omega)]
  have hlen : ((s.take k).drop (8 * (k / 8))).length = k % 8 := by rw [List.length_drop, List.length_take]; omega
  have hw : wd s k (k / 8) = MQ ((s.take k).drop (8 * (k / 8))) := by unfold wd; rw [List.take_of_length_le (by omega)]
  have hbd := NH (a := (s.take k).drop (8 * (k / 8))) fun x hx => hb x (List.mem_of_mem_take (List.mem_of_mem_drop hx))
  rw [hlen, <- hw] at hbd;rw [Qc (by omega) hbd.1 hbd.2 (hb _ (PN (by omega) (by omega))), NC];have : (tab 4 fun i => if i = k / 8 then wd s k (k / 8) + 256 ^ (k % 8) * rd 0 s (k : Int) else wd s k i) = tab 4 (wd s (k + 1)) := MV fun i _ => by
   rw [Pq hs hk];by_cases h : i = k / 8
   ·rw [if_pos h, if_pos h, h]
   ·rw [if_neg h, if_neg h]
  rw [this])
 have e0 : L9.l0 .lim (s, 0, List.replicate 4 0, List.replicate 4 0, ()) = L9.l0 .lim (s, 32, List.replicate 4 0, MZ s, ()) := by
  have h0 : tab 4 (wd s 0) = List.replicate 4 0 := by
   have : ∀ k, wd s 0 k = 0 := fun k => by unfold wd; rw [List.take_zero, List.drop_nil, List.take_nil]; rfl
   show [wd s 0 0, wd s 0 1, wd s 0 2, wd s 0 3] = _; rw [this, this, this, this]; rfl
  have := e;simp only [h0] at this;exact this
 have hz : Nb.run .lim (s, 32, ()) = some 0 := by
  simp only [Nb.run, Nl (show s.length < 9223372036854775808 by omega), cond_true];rw [cond_neg (Mc (by omega)), cond_neg (Mc (by omega))]
 simp only [L9.run, hz, Option.bind_some, e0];rw [cond_neg (by rfl), L9.q0];simp only [L9.b0];rw [cond_neg (Mc (by decide)), Option.bind_some]
theorem Oe {s : List Int} (hs : s.length = 32) (hb : Bs s) : MR.run .lim (s, ()) = some (MZ s.reverse, 0, ()) := by simp only [MR.run, NY (show s.length < 4611686018427387904 by omega), Option.bind_some, NU (s := s.reverse) (by rw [List.length_reverse, hs]) (fun x hx => hb x (List.mem_reverse.1 hx))]
theorem O1 {s : List Int} (hs : s.length = 32) (hb : Bs s) : Nm (MZ s) := by
 refine ⟨Nu, fun x hx => ?_⟩;obtain ⟨k, hk, rfl⟩ := List.mem_map.1 hx;have hk := List.mem_range.1 hk;have hbd := NH (a := ((s.take 32).drop (8 * k)).take 8) fun x hx => hb x (List.mem_of_mem_take (List.mem_of_mem_drop (List.mem_of_mem_take hx)))
 have hl : (((s.take 32).drop (8 * k)).take 8).length = 8 := by rw [List.length_take, List.length_drop, List.length_take]; omega
 rw [hl] at hbd;exact ⟨hbd.1, hbd.2⟩
theorem OA {s : List Int} (hs : s.length = 32) : nV (MZ s) = MQ s := by
 have r : ∀ k : Nat, k < 4 -> rd 0 (MZ s) (k : Int) = MQ ((s.drop (8 * k)).take 8) := fun k hk => by unfold MZ; rw [NQ hk]; unfold wd; rw [List.take_of_length_le (l := s) (by omega)]
 have sp : ∀ k : Nat, k < 4 -> MQ (s.drop (8 * k)) = MQ ((s.drop (8 * k)).take 8) + 18446744073709551616 * MQ (s.drop (8 * (k + 1))) := fun k hk => by
  conv => lhs; rw [<- List.take_append_drop 8 (s.drop (8 * k)), MX]
  have : ((s.drop (8 * k)).take 8).length = 8 := by rw [List.length_take, List.length_drop]; omega
  rw [this, List.drop_drop, show 8 * k + 8 = 8 * (k + 1) by omega];rfl
 have r0 := r 0 (by decide); have r1 := r 1 (by decide); have r2 := r 2 (by decide); have r3 := r 3 (by decide);have s0 := sp 0 (by decide); have s1 := sp 1 (by decide); have s2 := sp 2 (by decide); have s3 := sp 3 (by decide);have s4 : MQ (s.drop (8 * (3 + 1))) = 0 := by rw [List.drop_eq_nil_of_le (by omega)]; rfl
 rw [s4] at s3;show rd 0 (MZ s) ((0 : Nat) : Int) + 18446744073709551616 * (rd 0 (MZ s) ((1 : Nat) : Int) + 18446744073709551616 * (rd 0 (MZ s) ((2 : Nat) : Int) + 18446744073709551616 * rd 0 (MZ s) ((3 : Nat) : Int))) = _;rw [r0, r1, r2, r3, show MQ s = MQ (s.drop (8 * 0)) from rfl, s0, s1, s2, s3, Int.mul_zero, Int.add_zero]
end Go.AM
end
section
namespace Go.AM
def vB (s : List Int) : Int := MQ s.reverse
theorem ND (c : Int) (r : List Int) : vB (c :: r) = vB r + 256 ^ r.length * c := by
 unfold vB;rw [List.reverse_cons, MX, List.length_reverse];show _ + _ * (c + 256 * 0) = _;rw [Int.mul_zero, Int.add_zero]
theorem NG (r : List Int) : vB (0 :: r) = vB r := by rw [ND, Int.mul_zero, Int.add_zero]
theorem Px {a : List Int} (h : Bs a) : 0 <= vB a /\ vB a < 256 ^ a.length := by
 have := NH (a := a.reverse) fun x hx => h x (List.mem_reverse.1 hx)
 rw [List.length_reverse] at this;exact this
theorem OL {a b : Nat} (h : a <= b) : (256 : Int) ^ a <= 256 ^ b := by
 have h1 := Nat.pow_le_pow_right (n := 256) (by decide) h;have e : ∀ k : Nat, ((256 ^ k : Nat) : Int) = (256 : Int) ^ k := fun k => by rw [Int.natCast_pow]; rfl
 rw [<- e, <- e];omega
theorem pow_pos (a : Nat) : (0 : Int) < 256 ^ a := Int.pow_pos (by decide)
def canon : List Int -> Prop
 | [] => False
 | a :: r => a < 128 /\ (a = 0 -> match r with | [] => True | b :: _ => 128 <= b)
theorem OB {s : List Int} (h : canon s) (hb : Bs s) : vB s < 128 * 256 ^ (s.length - 1) := by
 match s, h, hb with
 | a :: r, h, hb =>
  have ha := hb a (.head _);have hr := Px (a := r) fun x hx => hb x (.tail _ hx)
  unfold B8 at ha;have h1 := h.1;rw [ND];show _ < 128 * 256 ^ r.length;have hm : (256 : Int) ^ r.length * a <= 256 ^ r.length * 127 := Int.mul_le_mul_of_nonneg_left (by omega) (by have := pow_pos r.length; omega);omega
theorem OD {s : List Int} (h : canon s) (hb : Bs s) (hl : 1 < s.length) : 128 * 256 ^ (s.length - 2) <= vB s := by
 match s, h, hb, hl with
 | a :: b :: r, h, hb, _ =>
  have ha := hb a (.head _);have hbb := hb b (.tail _ (.head _));have hr := Px (a := r) fun x hx => hb x (.tail _ (.tail _ hx))
  unfold B8 at ha hbb;rw [ND, ND];show 128 * 256 ^ r.length <= vB r + 256 ^ r.length * b + 256 ^ (r.length + 1) * a;rw [Int.pow_succ];have hp := pow_pos r.length;generalize (256 : Int) ^ r.length = p at *;by_cases h0 : a = 0
  ·have h2 : 128 <= b := h.2 h0;have hm : p * 128 <= p * b := Int.mul_le_mul_of_nonneg_left h2 (by omega);rw [h0, Int.mul_zero];omega
  ·have hm : p * 256 * 1 <= p * 256 * a := Int.mul_le_mul_of_nonneg_left (by omega) (by omega);have hm2 : p * 0 <= p * b := Int.mul_le_mul_of_nonneg_left (by omega) (by omega);omega
theorem Ot {s : List Int} (h : canon s) : 0 < s.length := by
 match s, h with
 | _ :: _, _ => simp
theorem OC {s t : List Int} (h : canon s) (hb : Bs s) (k : canon t) (kb : Bs t) (e : vB s <= vB t) : s.length <= t.length := by
 by_cases hc : s.length <= t.length
 ·exact hc
 ·exfalso
  have p1 := Ot k;have h1 := OD h hb (by omega);have h2 := OB k kb;have h3 := OL (a := t.length - 1) (b := s.length - 2) (by omega);omega
def Nk (n : List Int) : List Int := match Gp [0] (Nq n) with | [] => [0] | a :: r => if a > 127 then 0 :: a :: r else a :: r
theorem Ob : ∀ s : List Int, vB (Gp [0] s) = vB s
 | [] => rfl
 | c :: r => by
  unfold Gp;rw [List.dropWhile_cons];split
  ·rename_i h;have hc : (0 : Int) = c := by simpa [zN] using h
   rw [<- hc, NG];exact Ob r
  ·rfl
theorem PO {s : List Int} (h : Bs s) : Bs (Gp [0] s) := fun x hx => h x ((List.dropWhile_suffix _).subset hx)
theorem Oa (s : List Int) : (Gp [0] s).length <= s.length := (List.dropWhile_suffix _).length_le
theorem Oz {s : List Int} {a : Int} {r : List Int} (e : Gp [0] s = a :: r) : a ≠ 0 := by
 intro h;subst h;have : ∀ l : List Int, Gp [0] l ≠ 0 :: r := fun l => by
  induction l with
  | nil => simp [Gp]
  | cons c l ih =>
   unfold Gp at *;rw [List.dropWhile_cons];split
   ·exact ih
   ·rename_i hc;intro q;obtain ⟨rfl, _⟩ := List.cons.inj q;simp [zN] at hc
 exact this s e
theorem NI {n : List Int} : (Nq n).length = 32 := by unfold Nq leB; rw [List.length_reverse, Nu]
theorem Pz {n : List Int} : Bs (Nq n) := fun x hx => Qa x (List.mem_reverse.1 hx)
theorem Nw {n : List Int} (hn : Nm n) : canon (Nk n) /\ Bs (Nk n) /\ vB (Nk n) = nV n /\ ((Nk n).length <= 32 \/ ((Nk n).length <= 33 /\ ∃ r, Nk n = 0 :: r)) := by
 have hv : vB (Gp [0] (Nq n)) = nV n := by rw [Ob]; unfold vB Nq; rw [List.reverse_reverse]; exact O_ hn
 have hB := PO (Pz (n := n));have hl := Oa (Nq n);rw [NI] at hl;unfold Nk;cases e : Gp [0] (Nq n) with
 | nil =>
  rw [e] at hv;refine ⟨⟨by decide, fun _ => trivial⟩, fun x hx => ?_, ?_, .inl (by simp)⟩
  ·simp at hx; subst hx; unfold B8; omega
  ·exact hv
 | cons a r =>
  rw [e] at hv hB hl;have h0 := Oz e;have ha := hB a (.head _);unfold B8 at ha;simp only;split
  ·rename_i h;refine ⟨⟨by decide, fun _ => ?_⟩, fun x hx => ?_, ?_, .inr ⟨by rw [List.length_cons]; omega, _, rfl⟩⟩
   ·show 128 <= a; omega
   ·rcases List.mem_cons.1 hx with rfl | hx
    ·unfold B8; omega
    ·exact hB x hx
   ·rw [NG]; exact hv
  ·rename_i h;exact ⟨⟨by omega, fun q => (h0 q).elim⟩, hB, hv, .inl hl⟩
theorem int_eq {n : List Int} : MJ.run .lim (n, ()) = some (Nk n) := by
 have ht : MN.run .lim (Nq n, [0], ()) = some (Gp [0] (Nq n)) := by
  show Cm (Nq n, [0], ()) = _;unfold Cm;have : qN (Nq n, [0], ()) = true := by
   unfold qN;rw [Bool.and_eq_true, Bool.and_eq_true];refine ⟨⟨by rfl, by rfl⟩, ?_⟩;show Nat.ble (Nq n).length _ = true;rw [NI]; rfl
  rw [this]; rfl
 have hl := Oa (Nq n);rw [NI] at hl;simp only [MJ.run, PD, Option.bind_some, ht];unfold Nk;cases e : Gp [0] (Nq n) with
 | nil => rfl
 | cons a r =>
  rw [e] at hl;rw [List.length_cons] at hl;have e0 : rd 0 (a :: r) 0 = a := rfl;have hne : ¬ a :: r = ([] : List Int) := by simp
  have hlen : ([0] : List Int).length + (a :: r).length <= maxStr := by show _ <= 9223372036854775807; rw [List.length_cons, List.length_cons]; simp; omega
  simp only [Mc hne, Bool.not_false, Bool.not_true, Bool.false_or, e0, M_ (show (0 : Int) <= 0 by decide) (show (0 : Int) < ((a :: r).length : Int) by rw [List.length_cons]; omega), cond_true];by_cases h : a > 127
  ·rw [cond_pos (MB h), cond_pos (MB hlen), if_pos h]; rfl
  ·rw [cond_neg (Mc h), if_neg h]
theorem OY {s : List Int} {a : Int} {r : List Int} (e : s = a :: r) (hl : s.length < 4611686018427387904) : strings_TrimPrefix.run .lim (s, [0], ()) = some (if a = 0 then r else s) := by
 subst e;have h1 : L8.run .lim (a :: r, [0], ()) = some (decide (a = 0)) := by
  have hc : cut (a :: r) 0 (([0] : List Int).length : Int) = [a] := rfl;have hg : ((a :: r).length : Int) >= (([0] : List Int).length : Int) := by rw [List.length_cons, List.length_cons, List.length_nil]; omega
  simp only [L8.run, Nl (show (a :: r).length < 9223372036854775808 by omega), cond_true, hc, MB hg, Bool.not_true, Bool.false_or, Bool.true_and];rw [show vG (([0] : List Int).length : Int) = true from rfl, cond_true, cond_true, NK (by decide) (by decide) hg, cond_true];congr 1;by_cases h : a = 0
  ·subst h; rfl
  ·rw [Mc h, Mc (by simpa using h)]
 have hc : cut (a :: r) (([0] : List Int).length : Int) ((a :: r).length : Int) = r := O6 (a := 1) rfl;simp only [strings_TrimPrefix.run, L_.run, h1, Option.bind_some, hc];by_cases h : a = 0
 ·rw [cond_pos (MB h), if_pos h, show vG (([0] : List Int).length : Int) = true from rfl, cond_true, NK (by decide) (by rw [List.length_cons, List.length_cons, List.length_nil]; omega) (Int.le_refl _), cond_true, Option.bind_some]
 ·rw [cond_neg (Mc h), if_neg h, Option.bind_some]
theorem Qd : ∀ k, Eu ([0] : List Int) k = List.replicate k 0
 | 0 => rfl
 | k + 1 => by show [0] ++ Eu [0] k = _; rw [Qd k]; rfl
theorem OZ (r : List Int) : ∀ k, vB (List.replicate k 0 ++ r) = vB r
 | 0 => rfl
 | k + 1 => by rw [List.replicate_succ, List.cons_append, NG, OZ r k]
theorem toInt_eq {s : List Int} (hs : Bs s) (hl : s.length < 4611686018427387904) : ∃ x e, Np.run .lim (s, ()) = some (x, e, ()) /\ (e = 0 -> canon s /\ Nm x /\ nV x = vB s) /\ (canon s -> (s.length <= 32 \/ (s.length <= 33 /\ ∃ r, s = 0 :: r)) -> e = 0) := by
 match s, hs, hl with
 | [], _, _ => exact ⟨_, 11, rfl, fun h => (by cases h), fun h => h.elim⟩
 | a :: r, hs, hl =>
  have ha := hs a (.head _);unfold B8 at ha;have e0 : rd 0 (a :: r) 0 = a := rfl;have hlen : ((a :: r).length : Int) = (r.length : Int) + 1 := by rw [List.length_cons]; omega
  have hne : ¬ a :: r = ([] : List Int) := by simp
  simp only [Np.run, e0, Mc hne, cond_false, OY (s := a :: r) rfl hl, Option.bind_some, Nl (show (a :: r).length < 9223372036854775808 by omega), Bool.or_true, cond_true,
   M_ (show (0 : Int) <= 0 by decide) (show (0 : Int) < ((a :: r).length : Int) by omega)]
  have hin : (!((!(decide (a > 127))) && ((decide (((a :: r).length : Int) > 1)) && (decide (a = 0)))) || inB 1 ((a :: r).length : Int)) = true := by
   by_cases h : ((a :: r).length : Int) > 1
   ·rw [M_ (show (0 : Int) <= 1 by decide) h, Bool.or_true]
   ·rw [Mc h]; simp
  rw [cond_pos hin];by_cases hc : canon (a :: r)
  ·have hbad : ((decide (a > 127)) || (((decide (((a :: r).length : Int) > 1)) && (decide (a = 0))) && (decide ((rd 0 (a :: r) 1) < 128)))) = false := by
    have h1 := hc.1;rw [Mc (show ¬ a > 127 by omega), Bool.false_or];by_cases h0 : a = 0
    ·match r, hc with
     | [], _ => rfl
     | b :: r', hc =>
      have h2 : 128 <= b := hc.2 h0;rw [Mc (show ¬ rd 0 (a :: b :: r') 1 < 128 by show ¬ b < 128; omega), Bool.and_false]
    ·rw [Mc h0, Bool.and_false, Bool.false_and]
   rw [cond_neg hbad];have hv : vB (if a = 0 then r else a :: r) = vB (a :: r) := by
    split
    ·rename_i h; rw [h, NG]
    ·rfl
   have hB : Bs (if a = 0 then r else a :: r) := by
    split
    ·exact fun x hx => hs x (.tail _ hx)
    ·exact hs
   have Qw : (if a = 0 then r else a :: r).length <= (a :: r).length := by
    split
    ·rw [List.length_cons]; omega
    ·exact Nat.le_refl _
   have Qq : ((a :: r).length <= 32 \/ ((a :: r).length <= 33 /\ ∃ r', a :: r = 0 :: r')) -> (if a = 0 then r else a :: r).length <= 32 := by
    rintro (h | ⟨h, r', e⟩)
    ·omega
    ·obtain ⟨rfl, _⟩ := List.cons.inj e;rw [if_pos rfl]; rw [List.length_cons] at h; omega
   generalize (if a = 0 then r else a :: r) = q at *;simp only [Nl (show q.length < 9223372036854775808 by omega), cond_true];by_cases h32 : q.length <= 32
   ·rw [cond_neg (Mc (show ¬ (q.length : Int) > 32 by omega))];have er : strings_Repeat.run .lim ([0], IntKind.i64.wrap (32 - (q.length : Int)), ()) = some (List.replicate (32 - q.length) 0) := by
     rw [wrap64 (by omega) (by omega), <- Qd];show KA ([0], 32 - (q.length : Int), ()) = _;unfold KA;have : (decide (0 <= (32 - (q.length : Int))) && Nat.ble (1 * (32 - (q.length : Int)).toNat) 140737488355328) = true := by
      rw [MB (by omega)];exact Nat.ble_eq_true_of_le (by omega)
     show (bif (decide (0 <= (32 - (q.length : Int))) && Nat.ble (1 * (32 - (q.length : Int)).toNat) 140737488355328) then some (Eu [0] (32 - (q.length : Int)).toNat) else none) = _;rw [this, cond_true, show (32 - (q.length : Int)).toNat = 32 - q.length by omega]
    have P9 : (List.replicate (32 - q.length) (0 : Int) ++ q).length = 32 := by rw [List.length_append, List.length_replicate]; omega
    have hB2 : Bs (List.replicate (32 - q.length) (0 : Int) ++ q) := fun x hx => by
     rcases List.mem_append.1 hx with hx | hx
     ·rw [List.eq_of_mem_replicate hx]; unfold B8; omega
     ·exact hB x hx
    simp only [er, Option.bind_some];rw [cond_pos (MB (show _ <= maxStr by rw [List.length_replicate]; show _ <= 9223372036854775807; omega)), Oe P9 hB2];have hrl : (List.replicate (32 - q.length) (0 : Int) ++ q).reverse.length = 32 := by rw [List.length_reverse, P9]
    refine ⟨_, _, rfl, fun _ => ⟨hc, O1 hrl fun x hx => hB2 x (List.mem_reverse.1 hx), ?_⟩, fun _ _ => rfl⟩;rw [OA hrl];show vB (List.replicate (32 - q.length) (0 : Int) ++ q) = _;rw [OZ, hv]
   ·rw [cond_pos (MB (show (q.length : Int) > 32 by omega))];exact ⟨_, 13, rfl, fun h => (by cases h), fun _ h => (h32 (Qq h)).elim⟩
  ·have hbad : ((decide (a > 127)) || (((decide (((a :: r).length : Int) > 1)) && (decide (a = 0))) && (decide ((rd 0 (a :: r) 1) < 128)))) = true := by
    by_cases h1 : a > 127
    ·rw [MB h1]; rfl
    ·rw [Mc h1, Bool.false_or];by_cases h0 : a = 0
     ·match r, hc, hlen with
      | [], hc, _ => exact (hc ⟨by omega, fun _ => trivial⟩).elim
      | b :: r', hc, hlen =>
       have h2 : ¬ 128 <= b := fun q => hc ⟨by omega, fun _ => q⟩
       rw [MB h0, MB (show ((a :: b :: r').length : Int) > 1 by rw [List.length_cons, List.length_cons]; omega), MB (show rd 0 (a :: b :: r') 1 < 128 by show b < 128; omega)]; rfl
     ·exact (hc ⟨by omega, fun q => (h0 q).elim⟩).elim
   rw [cond_pos hbad];exact ⟨_, 10, rfl, fun h => (by cases h), fun h => (hc h).elim⟩
theorem N_ {n : List Int} (hn : Nm n) : Np.run .lim (Nk n, ()) = some (n, 0, ()) := by
 obtain ⟨h1, h2, h3, h4⟩ := Nw hn;obtain ⟨x, e, hr, ha, hb⟩ := toInt_eq h2 (by rcases h4 with h | ⟨h, _⟩ <;> omega);obtain rfl := hb h1 h4;obtain ⟨_, k1, k2⟩ := ha rfl;rw [hr, PI k1 hn (by rw [k2, h3])]
theorem OH {n m : List Int} (hn : Nm n) (hm : Nm m) (e : Nk n = Nk m) : n = m := by
 have h1 := N_ hn;rw [e, N_ hm] at h1;simpa using h1.symm
end Go.AM
end
section
namespace Go.AM
theorem cmp_eq {a b : List Int} (ha : Nm a) (hb : Nm b) : ∃ r, LZ.run .lim (a, b, ()) = some r /\ (¬ r > 0 -> nV a <= nV b) := by
 obtain ⟨a0, a1, a2, a3, rfl, p0, p1, p2, p3⟩ := nm4 ha;obtain ⟨b0, b1, b2, b3, rfl, q0, q1, q2, q3⟩ := nm4 hb;unfold O5 at *;have Oq : ∀ (i : Int), 0 <= i -> i < 4 -> LZ.l0 .lim (i, [a0, a1, a2, a3], [b0, b1, b2, b3], ()) =
   bif decide (rd 0 [a0, a1, a2, a3] i < rd 0 [b0, b1, b2, b3] i) then some (.inl ((-1), ())) else bif decide (rd 0 [a0, a1, a2, a3] i > rd 0 [b0, b1, b2, b3] i) then some (.inr (.inl (1, ()))) else
    LZ.l0 .lim (i - 1, [a0, a1, a2, a3], [b0, b1, b2, b3], ()) := fun i h0 h4 => by
  rw [LZ.q0];simp only [LZ.b0, MB (show i >= 0 from h0), M_ h0 h4, cond_true, wrap64 (n := i - 1) (by omega) (by omega)]
 have hend : LZ.l0 .lim (-1, [a0, a1, a2, a3], [b0, b1, b2, b3], ()) = some (.inr (.inr ())) := by rw [LZ.q0]; rfl
 have hV : nV [a0, a1, a2, a3] = a0 + 18446744073709551616 * (a1 + 18446744073709551616 * (a2 + 18446744073709551616 * a3)) := rfl;have hW : nV [b0, b1, b2, b3] = b0 + 18446744073709551616 * (b1 + 18446744073709551616 * (b2 + 18446744073709551616 * b3)) := rfl;have r3 : rd 0 [a0, a1, a2, a3] 3 = a3 := rfl;have r2 : rd 0 [a0, a1, a2, a3] 2 = a2 := rfl;have r1 : rd 0 [a0, a1, a2, a3] 1 = a1 := rfl;have r0 : rd 0 [a0, a1, a2, a3] 0 = a0 := rfl;have t3 : rd 0 [b0, b1, b2, b3] 3 = b3 := rfl;have t2 : rd 0 [b0, b1, b2, b3] 2 = b2 := rfl;have t1 : rd 0 [b0, b1, b2, b3] 1 = b1 := rfl;have t0 : rd 0 [b0, b1, b2, b3] 0 = b0 := rfl;simp only [LZ.run];rw [Oq 3 (by decide) (by decide), r3, t3];by_cases h3 : a3 < b3
 ·rw [cond_pos (MB h3)]; exact ⟨_, rfl, fun _ => by omega⟩
 ·rw [cond_neg (Mc h3)];by_cases g3 : a3 > b3
  ·rw [cond_pos (MB g3)]; exact ⟨_, rfl, fun h => (h (by decide)).elim⟩
  ·rw [cond_neg (Mc g3), show (3 : Int) - 1 = 2 from rfl, Oq 2 (by decide) (by decide), r2, t2];by_cases h2 : a2 < b2
   ·rw [cond_pos (MB h2)]; exact ⟨_, rfl, fun _ => by omega⟩
   ·rw [cond_neg (Mc h2)];by_cases g2 : a2 > b2
    ·rw [cond_pos (MB g2)]; exact ⟨_, rfl, fun h => (h (by decide)).elim⟩
    ·rw [cond_neg (Mc g2), show (2 : Int) - 1 = 1 from rfl, Oq 1 (by decide) (by decide), r1, t1];by_cases h1 : a1 < b1
     ·rw [cond_pos (MB h1)]; exact ⟨_, rfl, fun _ => by omega⟩
     ·rw [cond_neg (Mc h1)];by_cases g1 : a1 > b1
      ·rw [cond_pos (MB g1)]; exact ⟨_, rfl, fun h => (h (by decide)).elim⟩
      ·rw [cond_neg (Mc g1), show (1 : Int) - 1 = 0 from rfl, Oq 0 (by decide) (by decide), r0, t0];by_cases h0 : a0 < b0
       ·rw [cond_pos (MB h0)]; exact ⟨_, rfl, fun _ => by omega⟩
       ·rw [cond_neg (Mc h0)];by_cases g0 : a0 > b0
        ·rw [cond_pos (MB g0)]; exact ⟨_, rfl, fun h => (h (by decide)).elim⟩
        ·rw [cond_neg (Mc g0), show (0 : Int) - 1 = -1 from rfl, hend];exact ⟨_, rfl, fun _ => by omega⟩
theorem Qg {a b : List Int} (ha : Nm a) (hb : Nm b) : ((List.range 4).all fun i => decide ((rd 0 a (i : Int)) = (rd 0 b (i : Int)))) = decide (a = b) := by
 rw [Bool.eq_iff_iff, decide_eq_true_eq, List.all_eq_true];constructor
 ·intro h;refine OM (d := 0) (by rw [ha.len, hb.len]) fun k hk => ?_
  have := h k (List.mem_range.2 (by rw [ha.len] at hk; exact hk));simpa using this
 ·rintro rfl x _
  simp
theorem O9 {a b : List Int} (ha : Nm a) (hb : Nm b) : decide (Nk a = Nk b) = decide (a = b) := by
 by_cases h : a = b
 ·rw [MB h, MB (by rw [h])]
 ·rw [Mc h, Mc fun e => h (OH ha hb e)]
theorem NS (t : Int) : (∃ y m d, Dt ((t + 62135596800) / 86400) y m d /\ MI.run .lim (t, ()) = some (NR y m d ((t + 62135596800) % 86400), 0, ())) \/ MI.run .lim (t, ()) = some ([], 13, ()) := by
 by_cases h : t < -62135596800 \/ t > 253402300799
 ·exact .inr (Po h)
 ·obtain ⟨y, m, d, D, _, e⟩ := Pn (t := t) (by omega) (by omega);exact .inl ⟨y, m, d, D, e⟩
theorem MS {a b : List Int} (ha : Nm a) (hb : Nm b) :
  ((MJ.run .lim (a, ())).bind fun r4 =>
 (MJ.run .lim (b, ())).bind fun r5 =>
 ((bif ((decide (r4 = r5)) == ((List.range 4).all fun i => decide ((rd 0 a (i : Int)) = (rd 0 b (i : Int))))) then LZ.run .lim (a, b, ()) else some (0 : Int))).bind fun r6 =>
 ((bif (((decide (r4 = r5)) == ((List.range 4).all fun i => decide ((rd 0 a (i : Int)) = (rd 0 b (i : Int))))) && (!(decide (r6 > 0)))) then MJ.run .lim (a, ()) else some ([] : List Int))).bind fun r7 =>
 bif ((!(((decide (r4 = r5)) == ((List.range 4).all fun i => decide ((rd 0 a (i : Int)) = (rd 0 b (i : Int))))) && (!(decide (r6 > 0))))) || (vG (r7.length : Int))) then
 ((bif (((decide (r4 = r5)) == ((List.range 4).all fun i => decide ((rd 0 a (i : Int)) = (rd 0 b (i : Int))))) && (!(decide (r6 > 0)))) then MJ.run .lim (b, ()) else some ([] : List Int))).bind fun r8 =>
 bif ((!(((decide (r4 = r5)) == ((List.range 4).all fun i => decide ((rd 0 a (i : Int)) = (rd 0 b (i : Int))))) && (!(decide (r6 > 0))))) || (vG (r8.length : Int))) then
 ((bif (((decide (r4 = r5)) == ((List.range 4).all fun i => decide ((rd 0 a (i : Int)) = (rd 0 b (i : Int))))) && ((decide (r6 > 0)) || (decide ((r7.length : Int) <= (r8.length : Int))))) then MH.run .lim (()) else some false)).bind fun r9 =>
 some ((((decide (r4 = r5)) == ((List.range 4).all fun i => decide ((rd 0 a (i : Int)) = (rd 0 b (i : Int))))) && ((decide (r6 > 0)) || (decide ((r7.length : Int) <= (r8.length : Int))))) && r9) else none else none) = some true := by
 obtain ⟨r, hr, hle⟩ := cmp_eq ha hb;obtain ⟨a1, a2, a3, a4⟩ := Nw ha;obtain ⟨b1, b2, b3, b4⟩ := Nw hb;have hla : (Nk a).length < 9223372036854775808 := by rcases a4 with h | ⟨h, _⟩ <;> omega
 have hlb : (Nk b).length < 9223372036854775808 := by rcases b4 with h | ⟨h, _⟩ <;> omega
 have hbe : ∀ x : Bool, (x == x) = true := fun x => by cases x <;> rfl
 simp only [int_eq, Option.bind_some, Qg ha hb, O9 ha hb, hbe, cond_true, hr, Bool.true_and];by_cases h : r > 0
 ·simp only [MB h, Bool.not_true, cond_false, Option.bind_some, Bool.not_false, Bool.true_or, cond_true, Oh, Bool.and_self]
 ·have := OC a1 a2 b1 b2 (by rw [a3, b3]; exact hle h);simp only [Mc h, Bool.not_false, cond_true, Option.bind_some, Nl hla, Nl hlb, Bool.or_true, Bool.false_or, MB (show ((Nk a).length : Int) <= ((Nk b).length : Int) by omega), Oh, Bool.and_self]
theorem NT {t u : Int} {a b : List Int} (ha : Nm a) (hb : Nm b) : MF.run .lim (t, u, a, b, ()) = some true := by
 simp only [MF.run];have hbe : ∀ x : Bool, (!(x == x)) = false := fun x => by cases x <;> rfl
 rcases NS t with ⟨y, m, d, D, e⟩ | e
 ·rcases NS u with ⟨y', m', d', D', e'⟩ | e'
  ·simp only [e, e', Option.bind_some, OX D D', hbe, Bool.and_false, cond_false];exact MS ha hb
  ·simp only [e, e', Option.bind_some, Mc (show ¬ (13 : Int) = 0 by decide), Bool.and_false, Bool.false_and, cond_false];exact MS ha hb
 ·rcases NS u with ⟨y', m', d', D', e'⟩ | e'
  ·simp only [e, e', Option.bind_some, Mc (show ¬ (13 : Int) = 0 by decide), Bool.and_false, Bool.false_and, cond_false];exact MS ha hb
  ·simp only [e, e', Option.bind_some, Mc (show ¬ (13 : Int) = 0 by decide), Bool.and_false, Bool.false_and, cond_false];exact MS ha hb
theorem Pv {n : List Int} (h : Ty.ok (.arr 4 (.int .u64)) n) : Nm n := by
 obtain ⟨h1, h2⟩ := h;refine ⟨h1, fun x hx => ?_⟩;have := h2 x hx;have h3 : FX .u64 x := this;unfold FX at h3;have e1 : (IntKind.min .u64) = 0 := by decide
 have e2 : (IntKind.max .u64) = 18446744073709551615 := by decide
 rw [e1, e2] at h3;exact ⟨h3.1, by omega⟩
theorem N9 : ∀ x, oks [.one (.int .i64), .one (.int .i64), .one (.arr 4 (.int .u64)), .one (.arr 4 (.int .u64))] x -> MF.run .lim x = some true := by
 intro x h
 match x with
 | (t, u, a, b, ()) =>
  obtain ⟨_, _, h3, h4, _⟩ := h;exact NT (Pv h3) (Pv h4)
end Go.AM
end

/- What the statement FnChordsPaired needs, part 2 of 7: words, contracts and lemmas, cut to what is named. Written by a program of this work (wip/tools/gpack.py) out of its texts and the print's. -/
import Derived.Test.YtnofekfoonmedaaGreatDoorZFnChordsPaired0
import Derived.Shelf.SlSortCmp.NoneTotal
import Derived.Shelf.Strings.Count
import Derived.Shelf.Strconv.Itoa3
import Derived.Shelf.Strings.OnBuilder
import Derived.Shelf.Bits.Mul64
import Derived.Shelf.Strconv.AtoiAll
import Derived.Shelf.Strings.Search2
import Derived.Test.YtnofekfoonmedaaGreatDoorProg
import Derived.Shelf.Abstract
import Derived.Shelf.RegionOpenPlain
import Derived.StillTailTactics
set_option linter.unusedVariables false
set_option linter.unusedSimpArgs false
set_option maxHeartbeats 80000000
set_option maxRecDepth 100000
section
namespace Go.Proofs
open Go.Shelf
def Tryz.sortChord_ren : Go.Shelf.Ren := ⟨fun | 6 => 86 | 15 => 114 | 14 => 113 | 28 => 137 | 29 => 138 | 20 => 129 | 21 => 130 | 22 => 131 | 23 => 132 | 24 => 133 | 25 => 134 | 26 => 135 | 27 => 136 | 46 => 160 | 47 => 161 | 48 => 162 | 49 => 163 | 50 => 164 | 57 => 175 | n => n, fun | 22 => 26 | 24 => 39 | 25 => 84 | 3 => 3 | 39 => 111 | 0 => 0 | 53 => 142 | 55 => 57 | 4 => 4 | 46 => 136 | 45 => 135 | 50 => 29 | 5 => 5 | 9 => 9 | 66 => 165 | 70 => 169 | 76 => 181 | 77 => 24 | n => n, fun | n => n⟩
theorem Tryz.sortChord : Go.Proofs.SlLaysF0.n6 Tryz.prog Tryz.sortChord_ren := {
 mixed := by kernel_rfl
 f6 := ⟨Tryz.f86.name, by decide, Tryz.func86.trans (congrArg some (by kernel_rfl))⟩
 f14 := ⟨Tryz.f113.name, by decide, Tryz.func113.trans (congrArg some (by kernel_rfl))⟩
 f15 := Tryz.func114.trans (congrArg some (by kernel_rfl))
 f20 := ⟨Tryz.f129.name, by decide, Tryz.func129.trans (congrArg some (by kernel_rfl))⟩
 f21 := ⟨Tryz.f130.name, by decide, Tryz.func130.trans (congrArg some (by kernel_rfl))⟩
 f22 := ⟨Tryz.f131.name, by decide, Tryz.func131.trans (congrArg some (by kernel_rfl))⟩
 f23 := ⟨Tryz.f132.name, by decide, Tryz.func132.trans (congrArg some (by kernel_rfl))⟩
 f24 := ⟨Tryz.f133.name, by decide, Tryz.func133.trans (congrArg some (by kernel_rfl))⟩
 f25 := ⟨Tryz.f134.name, by decide, Tryz.func134.trans (congrArg some (by kernel_rfl))⟩
 f26 := ⟨Tryz.f135.name, by decide, Tryz.func135.trans (congrArg some (by kernel_rfl))⟩
 f27 := ⟨Tryz.f136.name, by decide, Tryz.func136.trans (congrArg some (by kernel_rfl))⟩
 f28 := Tryz.func137.trans (congrArg some (by kernel_rfl))
 f29 := Tryz.func138.trans (congrArg some (by kernel_rfl))
 f46 := ⟨Tryz.f160.name, by decide, Tryz.func160.trans (congrArg some (by kernel_rfl))⟩
 f47 := Tryz.func161.trans (congrArg some (by kernel_rfl))
 f48 := Tryz.func162.trans (congrArg some (by kernel_rfl))
 f49 := ⟨Tryz.f163.name, by decide, Tryz.func163.trans (congrArg some (by kernel_rfl))⟩
 f50 := ⟨Tryz.f164.name, by decide, Tryz.func164.trans (congrArg some (by kernel_rfl))⟩
 f57 := ⟨Tryz.f175.name, by decide, Tryz.func175.trans (congrArg some (by kernel_rfl))⟩
 t0 := Tryz.underlying0
 a0 := Tryz.isAgg0
 z0 := Tryz.sizeOf0
 v0 := Tryz.zeroValue0
 t3 := Tryz.underlying3
 a3 := Tryz.isAgg3
 z3 := Tryz.sizeOf3
 v3 := Tryz.zeroValue3
 t4 := Tryz.underlying4
 a4 := Tryz.isAgg4
 z4 := Tryz.sizeOf4
 v4 := Tryz.zeroValue4
 t5 := Tryz.underlying5
 a5 := Tryz.isAgg5
 z5 := Tryz.sizeOf5
 v5 := Tryz.zeroValue5
 t9 := Tryz.underlying9
 a9 := Tryz.isAgg9
 z9 := Tryz.sizeOf9
 v9 := Tryz.zeroValue9
 t22 := Tryz.underlying26
 a22 := Tryz.isAgg26
 z22 := Tryz.sizeOf26
 v22 := Tryz.zeroValue26
 t25 := Tryz.underlying84
 a25 := Tryz.isAgg84
 z25 := Tryz.sizeOf84
 v25 := Tryz.zeroValue84
 t39 := Tryz.underlying111
 a39 := Tryz.isAgg111
 z39 := Tryz.sizeOf111
 v39 := Tryz.zeroValue111
 t45 := Tryz.underlying135
 a45 := Tryz.isAgg135
 z45 := Tryz.sizeOf135
 v45 := Tryz.zeroValue135
 t46 := Tryz.underlying136
 a46 := Tryz.isAgg136
 z46 := Tryz.sizeOf136
 v46 := Tryz.zeroValue136
 t50 := Tryz.underlying29
 a50 := Tryz.isAgg29
 z50 := Tryz.sizeOf29
 v50 := Tryz.zeroValue29
 t53 := Tryz.underlying142
 a53 := Tryz.isAgg142
 z53 := Tryz.sizeOf142
 v53 := Tryz.zeroValue142
 t55 := Tryz.underlying57
 a55 := Tryz.isAgg57
 z55 := Tryz.sizeOf57
 v55 := Tryz.zeroValue57
 t66 := Tryz.underlying165
 a66 := Tryz.isAgg165
 z66 := Tryz.sizeOf165
 v66 := Tryz.zeroValue165
 t70 := Tryz.underlying169
 a70 := Tryz.isAgg169
 z70 := Tryz.sizeOf169
 v70 := Tryz.zeroValue169
 t76 := Tryz.underlying181
 a76 := Tryz.isAgg181
 z76 := Tryz.sizeOf181
 v76 := Tryz.zeroValue181
 t77 := Tryz.underlying24
 a77 := Tryz.isAgg24
 z77 := Tryz.sizeOf24
 v77 := Tryz.zeroValue24 }
def Tryz.laysCount_ren : Go.Shelf.Ren := ⟨fun | 138 => 124 | 195 => 148 | 218 => 150 | 143 => 125 | 219 => 126 | 217 => 151 | 225 => 152 | 224 => 153 | 267 => 154 | 266 => 170 | 314 => 171 | n => n, fun | 9 => 9 | 3 => 3 | 4 => 4 | 5 => 5 | 0 => 0 | 46 => 111 | 146 => 144 | 51 => 142 | n => n, fun | 1 => 0 | n => n⟩
theorem Tryz.laysCount : Go.Proofs.Lays.n138 Tryz.prog Tryz.laysCount_ren := {
 mixed := by kernel_rfl
 f138 := Tryz.func124.trans (congrArg some (by kernel_rfl))
 f143 := Tryz.func125.trans (congrArg some (by kernel_rfl))
 f195 := Tryz.func148.trans (congrArg some (by kernel_rfl))
 f217 := Tryz.func151.trans (congrArg some (by kernel_rfl))
 f218 := Tryz.func150.trans (congrArg some (by kernel_rfl))
 f219 := Tryz.func126.trans (congrArg some (by kernel_rfl))
 f224 := Tryz.func153.trans (congrArg some (by kernel_rfl))
 f225 := Tryz.func152.trans (congrArg some (by kernel_rfl))
 f266 := Tryz.func170.trans (congrArg some (by kernel_rfl))
 f267 := Tryz.func154.trans (congrArg some (by kernel_rfl))
 f314 := Tryz.func171.trans (congrArg some (by kernel_rfl))
 t0 := Tryz.underlying0
 a0 := Tryz.isAgg0
 z0 := Tryz.sizeOf0
 v0 := Tryz.zeroValue0
 t3 := Tryz.underlying3
 a3 := Tryz.isAgg3
 z3 := Tryz.sizeOf3
 v3 := Tryz.zeroValue3
 t4 := Tryz.underlying4
 a4 := Tryz.isAgg4
 z4 := Tryz.sizeOf4
 v4 := Tryz.zeroValue4
 t5 := Tryz.underlying5
 a5 := Tryz.isAgg5
 z5 := Tryz.sizeOf5
 v5 := Tryz.zeroValue5
 t9 := Tryz.underlying9
 a9 := Tryz.isAgg9
 z9 := Tryz.sizeOf9
 v9 := Tryz.zeroValue9
 t46 := Tryz.underlying111
 a46 := Tryz.isAgg111
 z46 := Tryz.sizeOf111
 v46 := Tryz.zeroValue111
 t51 := Tryz.underlying142
 a51 := Tryz.isAgg142
 z51 := Tryz.sizeOf142
 v51 := Tryz.zeroValue142
 t146 := Tryz.underlying144
 a146 := Tryz.isAgg144
 z146 := Tryz.sizeOf144
 v146 := Tryz.zeroValue144
 g1 := by kernel_rfl }
def Tryz.laysItoa_ren : Go.Shelf.Ren := ⟨fun | 171 => 74 | 243 => 105 | 246 => 120 | 283 => 142 | 284 => 143 | 285 => 144 | 286 => 145 | 129 => 138 | 317 => 165 | 318 => 166 | 319 => 167 | 320 => 168 | 337 => 176 | 338 => 177 | n => n, fun | 3 => 3 | 9 => 9 | 2 => 2 | 4 => 4 | 171 => 149 | 0 => 0 | 53 => 57 | 37 => 22 | 5 => 5 | 173 => 151 | 212 => 172 | 51 => 142 | 20 => 20 | 213 => 173 | 46 => 111 | 232 => 192 | 233 => 193 | n => n, fun | 17 => 1 | 18 => 6 | 19 => 7 | n => n⟩
theorem Tryz.laysItoa : Go.Proofs.Lays.n171 Tryz.prog Tryz.laysItoa_ren := {
 mixed := by kernel_rfl
 f129 := Tryz.func138.trans (congrArg some (by kernel_rfl))
 f171 := Tryz.func74.trans (congrArg some (by kernel_rfl))
 f243 := Tryz.func105.trans (congrArg some (by kernel_rfl))
 f246 := Tryz.func120.trans (congrArg some (by kernel_rfl))
 f283 := Tryz.func142.trans (congrArg some (by kernel_rfl))
 f284 := Tryz.func143.trans (congrArg some (by kernel_rfl))
 f285 := Tryz.func144.trans (congrArg some (by kernel_rfl))
 f286 := Tryz.func145.trans (congrArg some (by kernel_rfl))
 f317 := Tryz.func165.trans (congrArg some (by kernel_rfl))
 f318 := Tryz.func166.trans (congrArg some (by kernel_rfl))
 f319 := Tryz.func167.trans (congrArg some (by kernel_rfl))
 f320 := Tryz.func168.trans (congrArg some (by kernel_rfl))
 f337 := Tryz.func176.trans (congrArg some (by kernel_rfl))
 f338 := Tryz.func177.trans (congrArg some (by kernel_rfl))
 t0 := Tryz.underlying0
 a0 := Tryz.isAgg0
 z0 := Tryz.sizeOf0
 v0 := Tryz.zeroValue0
 t2 := Tryz.underlying2
 a2 := Tryz.isAgg2
 z2 := Tryz.sizeOf2
 v2 := Tryz.zeroValue2
 t3 := Tryz.underlying3
 a3 := Tryz.isAgg3
 z3 := Tryz.sizeOf3
 v3 := Tryz.zeroValue3
 t4 := Tryz.underlying4
 a4 := Tryz.isAgg4
 z4 := Tryz.sizeOf4
 v4 := Tryz.zeroValue4
 t5 := Tryz.underlying5
 a5 := Tryz.isAgg5
 z5 := Tryz.sizeOf5
 v5 := Tryz.zeroValue5
 t9 := Tryz.underlying9
 a9 := Tryz.isAgg9
 z9 := Tryz.sizeOf9
 v9 := Tryz.zeroValue9
 t20 := Tryz.underlying20
 a20 := Tryz.isAgg20
 z20 := Tryz.sizeOf20
 v20 := Tryz.zeroValue20
 t37 := Tryz.underlying22
 a37 := Tryz.isAgg22
 z37 := Tryz.sizeOf22
 v37 := Tryz.zeroValue22
 t46 := Tryz.underlying111
 a46 := Tryz.isAgg111
 z46 := Tryz.sizeOf111
 v46 := Tryz.zeroValue111
 t51 := Tryz.underlying142
 a51 := Tryz.isAgg142
 z51 := Tryz.sizeOf142
 v51 := Tryz.zeroValue142
 t53 := Tryz.underlying57
 a53 := Tryz.isAgg57
 z53 := Tryz.sizeOf57
 v53 := Tryz.zeroValue57
 t171 := Tryz.underlying149
 a171 := Tryz.isAgg149
 z171 := Tryz.sizeOf149
 v171 := Tryz.zeroValue149
 t173 := Tryz.underlying151
 a173 := Tryz.isAgg151
 z173 := Tryz.sizeOf151
 v173 := Tryz.zeroValue151
 t212 := Tryz.underlying172
 a212 := Tryz.isAgg172
 z212 := Tryz.sizeOf172
 v212 := Tryz.zeroValue172
 t213 := Tryz.underlying173
 a213 := Tryz.isAgg173
 z213 := Tryz.sizeOf173
 t232 := Tryz.underlying192
 a232 := Tryz.isAgg192
 z232 := Tryz.sizeOf192
 v232 := Tryz.zeroValue192
 t233 := Tryz.underlying193
 a233 := Tryz.isAgg193
 z233 := Tryz.sizeOf193
 v233 := Tryz.zeroValue193
 g17 := by kernel_rfl
 g18 := by kernel_rfl
 g19 := by kernel_rfl }
def Tryz.laysJoin_ren : Go.Shelf.Ren := ⟨fun | 156 => 75 | 165 => 106 | 166 => 107 | 169 => 108 | 240 => 121 | 241 => 122 | 276 => 146 | 277 => 147 | n => n, fun | 31 => 89 | 9 => 9 | 3 => 3 | 4 => 4 | 0 => 0 | 20 => 20 | 72 => 116 | 76 => 120 | 70 => 114 | 37 => 22 | 75 => 119 | 127 => 130 | 164 => 153 | 5 => 5 | 80 => 122 | n => n, fun | n => n⟩
theorem Tryz.laysJoin : Go.Proofs.Lays.n156 Tryz.prog Tryz.laysJoin_ren := {
 mixed := by kernel_rfl
 f156 := Tryz.func75.trans (congrArg some (by kernel_rfl))
 f165 := Tryz.func106.trans (congrArg some (by kernel_rfl))
 f166 := Tryz.func107.trans (congrArg some (by kernel_rfl))
 f169 := Tryz.func108.trans (congrArg some (by kernel_rfl))
 f240 := Tryz.func121.trans (congrArg some (by kernel_rfl))
 f241 := Tryz.func122.trans (congrArg some (by kernel_rfl))
 f276 := Tryz.func146.trans (congrArg some (by kernel_rfl))
 f277 := Tryz.func147.trans (congrArg some (by kernel_rfl))
 t0 := Tryz.underlying0
 a0 := Tryz.isAgg0
 z0 := Tryz.sizeOf0
 v0 := Tryz.zeroValue0
 t3 := Tryz.underlying3
 a3 := Tryz.isAgg3
 z3 := Tryz.sizeOf3
 v3 := Tryz.zeroValue3
 t4 := Tryz.underlying4
 a4 := Tryz.isAgg4
 z4 := Tryz.sizeOf4
 v4 := Tryz.zeroValue4
 t9 := Tryz.underlying9
 a9 := Tryz.isAgg9
 z9 := Tryz.sizeOf9
 v9 := Tryz.zeroValue9
 t20 := Tryz.underlying20
 a20 := Tryz.isAgg20
 z20 := Tryz.sizeOf20
 v20 := Tryz.zeroValue20
 t31 := Tryz.underlying89
 a31 := Tryz.isAgg89
 z31 := Tryz.sizeOf89
 v31 := Tryz.zeroValue89
 t37 := Tryz.underlying22
 a37 := Tryz.isAgg22
 z37 := Tryz.sizeOf22
 v37 := Tryz.zeroValue22
 t70 := Tryz.underlying114
 a70 := Tryz.isAgg114
 z70 := Tryz.sizeOf114
 v70 := Tryz.zeroValue114
 t72 := Tryz.underlying116
 a72 := Tryz.isAgg116
 z72 := Tryz.sizeOf116
 v72 := Tryz.zeroValue116
 t75 := Tryz.underlying119
 a75 := Tryz.isAgg119
 z75 := Tryz.sizeOf119
 v75 := Tryz.zeroValue119
 t76 := Tryz.underlying120
 a76 := Tryz.isAgg120
 z76 := Tryz.sizeOf120
 v76 := Tryz.zeroValue120
 t127 := Tryz.underlying130
 a127 := Tryz.isAgg130
 z127 := Tryz.sizeOf130
 v127 := Tryz.zeroValue130
 t164 := Tryz.underlying153
 a164 := Tryz.isAgg153
 z164 := Tryz.sizeOf153
 v164 := Tryz.zeroValue153 }
def Tryz.laysMul_ren : Go.Shelf.Ren := ⟨fun | 212 => 116 | 263 => 139 | 264 => 140 | n => n, fun | 46 => 111 | 51 => 142 | 146 => 144 | 53 => 57 | 148 => 146 | n => n, fun | n => n⟩
theorem Tryz.laysMul : Go.Proofs.Lays.n212 Tryz.prog Tryz.laysMul_ren := {
 mixed := by kernel_rfl
 f212 := Tryz.func116.trans (congrArg some (by kernel_rfl))
 f263 := Tryz.func139.trans (congrArg some (by kernel_rfl))
 f264 := Tryz.func140.trans (congrArg some (by kernel_rfl))
 t46 := Tryz.underlying111
 a46 := Tryz.isAgg111
 z46 := Tryz.sizeOf111
 v46 := Tryz.zeroValue111
 t51 := Tryz.underlying142
 a51 := Tryz.isAgg142
 z51 := Tryz.sizeOf142
 v51 := Tryz.zeroValue142
 t53 := Tryz.underlying57
 a53 := Tryz.isAgg57
 z53 := Tryz.sizeOf57
 v53 := Tryz.zeroValue57
 t146 := Tryz.underlying144
 a146 := Tryz.isAgg144
 z146 := Tryz.sizeOf144
 v146 := Tryz.zeroValue144
 t148 := Tryz.underlying146
 a148 := Tryz.isAgg146
 z148 := Tryz.sizeOf146
 v148 := Tryz.zeroValue146 }
def Tryz.laysAtoi_ren : Go.Shelf.Ren := ⟨fun | 172 => 112 | 244 => 127 | 245 => 128 | 247 => 155 | 279 => 156 | 280 => 157 | 281 => 158 | 282 => 159 | 287 => 172 | 316 => 173 | 171 => 74 | 205 => 174 | 321 => 178 | 322 => 179 | 243 => 105 | 246 => 120 | 283 => 142 | 284 => 143 | 285 => 144 | 286 => 145 | 129 => 138 | 317 => 165 | 318 => 166 | 319 => 167 | 320 => 168 | 337 => 176 | 338 => 177 | n => n, fun | 9 => 9 | 3 => 3 | 75 => 119 | 76 => 120 | 4 => 4 | 5 => 5 | 167 => 159 | 37 => 22 | 0 => 0 | 85 => 160 | 2 => 2 | 168 => 162 | 53 => 57 | 175 => 175 | 46 => 111 | 210 => 179 | 127 => 130 | 145 => 191 | 143 => 189 | 21 => 21 | 171 => 149 | 173 => 151 | 212 => 172 | 51 => 142 | 20 => 20 | 213 => 173 | 232 => 192 | 233 => 193 | 80 => 122 | n => n, fun | 15 => 2 | 16 => 3 | 17 => 1 | 18 => 6 | 19 => 7 | n => n⟩
theorem Tryz.laysAtoi : Go.Proofs.LaysC.n172 Tryz.prog Tryz.laysAtoi_ren := {
 mixed := by kernel_rfl
 f129 := Tryz.func138.trans (congrArg some (by kernel_rfl))
 f171 := Tryz.func74.trans (congrArg some (by kernel_rfl))
 f172 := Tryz.func112.trans (congrArg some (by kernel_rfl))
 f205 := Tryz.func174.trans (congrArg some (by kernel_rfl))
 f243 := Tryz.func105.trans (congrArg some (by kernel_rfl))
 f244 := Tryz.func127.trans (congrArg some (by kernel_rfl))
 f245 := Tryz.func128.trans (congrArg some (by kernel_rfl))
 f246 := Tryz.func120.trans (congrArg some (by kernel_rfl))
 f247 := Tryz.func155.trans (congrArg some (by kernel_rfl))
 f279 := Tryz.func156.trans (congrArg some (by kernel_rfl))
 f280 := Tryz.func157.trans (congrArg some (by kernel_rfl))
 f281 := Tryz.func158.trans (congrArg some (by kernel_rfl))
 f282 := Tryz.func159.trans (congrArg some (by kernel_rfl))
 f283 := Tryz.func142.trans (congrArg some (by kernel_rfl))
 f284 := Tryz.func143.trans (congrArg some (by kernel_rfl))
 f285 := Tryz.func144.trans (congrArg some (by kernel_rfl))
 f286 := Tryz.func145.trans (congrArg some (by kernel_rfl))
 f287 := Tryz.func172.trans (congrArg some (by kernel_rfl))
 f316 := Tryz.func173.trans (congrArg some (by kernel_rfl))
 f317 := Tryz.func165.trans (congrArg some (by kernel_rfl))
 f318 := Tryz.func166.trans (congrArg some (by kernel_rfl))
 f319 := Tryz.func167.trans (congrArg some (by kernel_rfl))
 f320 := Tryz.func168.trans (congrArg some (by kernel_rfl))
 f321 := Tryz.func178.trans (congrArg some (by kernel_rfl))
 f322 := Tryz.func179.trans (congrArg some (by kernel_rfl))
 f337 := Tryz.func176.trans (congrArg some (by kernel_rfl))
 f338 := Tryz.func177.trans (congrArg some (by kernel_rfl))
 t0 := Tryz.underlying0
 a0 := Tryz.isAgg0
 z0 := Tryz.sizeOf0
 v0 := Tryz.zeroValue0
 t2 := Tryz.underlying2
 a2 := Tryz.isAgg2
 z2 := Tryz.sizeOf2
 v2 := Tryz.zeroValue2
 t3 := Tryz.underlying3
 a3 := Tryz.isAgg3
 z3 := Tryz.sizeOf3
 v3 := Tryz.zeroValue3
 t4 := Tryz.underlying4
 a4 := Tryz.isAgg4
 z4 := Tryz.sizeOf4
 v4 := Tryz.zeroValue4
 t5 := Tryz.underlying5
 a5 := Tryz.isAgg5
 z5 := Tryz.sizeOf5
 v5 := Tryz.zeroValue5
 t9 := Tryz.underlying9
 a9 := Tryz.isAgg9
 z9 := Tryz.sizeOf9
 v9 := Tryz.zeroValue9
 t20 := Tryz.underlying20
 a20 := Tryz.isAgg20
 z20 := Tryz.sizeOf20
 v20 := Tryz.zeroValue20
 t21 := Tryz.underlying21
 a21 := Tryz.isAgg21
 z21 := Tryz.sizeOf21
 v21 := Tryz.zeroValue21
 t37 := Tryz.underlying22
 a37 := Tryz.isAgg22
 z37 := Tryz.sizeOf22
 v37 := Tryz.zeroValue22
 t46 := Tryz.underlying111
 a46 := Tryz.isAgg111
 z46 := Tryz.sizeOf111
 v46 := Tryz.zeroValue111
 t51 := Tryz.underlying142
 a51 := Tryz.isAgg142
 z51 := Tryz.sizeOf142
 v51 := Tryz.zeroValue142
 t53 := Tryz.underlying57
 a53 := Tryz.isAgg57
 z53 := Tryz.sizeOf57
 v53 := Tryz.zeroValue57
 t75 := Tryz.underlying119
 a75 := Tryz.isAgg119
 z75 := Tryz.sizeOf119
 v75 := Tryz.zeroValue119
 t76 := Tryz.underlying120
 a76 := Tryz.isAgg120
 z76 := Tryz.sizeOf120
 v76 := Tryz.zeroValue120
 t85 := Tryz.underlying160
 a85 := Tryz.isAgg160
 z85 := Tryz.sizeOf160
 v85 := Tryz.zeroValue160
 t127 := Tryz.underlying130
 a127 := Tryz.isAgg130
 z127 := Tryz.sizeOf130
 v127 := Tryz.zeroValue130
 t143 := Tryz.underlying189
 a143 := Tryz.isAgg189
 z143 := Tryz.sizeOf189
 v143 := Tryz.zeroValue189
 t145 := Tryz.underlying191
 a145 := Tryz.isAgg191
 z145 := Tryz.sizeOf191
 v145 := Tryz.zeroValue191
 t167 := Tryz.underlying159
 a167 := Tryz.isAgg159
 z167 := Tryz.sizeOf159
 v167 := Tryz.zeroValue159
 t168 := Tryz.underlying162
 a168 := Tryz.isAgg162
 z168 := Tryz.sizeOf162
 v168 := Tryz.zeroValue162
 t171 := Tryz.underlying149
 a171 := Tryz.isAgg149
 z171 := Tryz.sizeOf149
 v171 := Tryz.zeroValue149
 t173 := Tryz.underlying151
 a173 := Tryz.isAgg151
 z173 := Tryz.sizeOf151
 v173 := Tryz.zeroValue151
 t175 := Tryz.underlying175
 a175 := Tryz.isAgg175
 z175 := Tryz.sizeOf175
 v175 := Tryz.zeroValue175
 t210 := Tryz.underlying179
 a210 := Tryz.isAgg179
 z210 := Tryz.sizeOf179
 v210 := Tryz.zeroValue179
 t212 := Tryz.underlying172
 a212 := Tryz.isAgg172
 z212 := Tryz.sizeOf172
 v212 := Tryz.zeroValue172
 t213 := Tryz.underlying173
 a213 := Tryz.isAgg173
 z213 := Tryz.sizeOf173
 t232 := Tryz.underlying192
 a232 := Tryz.isAgg192
 z232 := Tryz.sizeOf192
 v232 := Tryz.zeroValue192
 t233 := Tryz.underlying193
 a233 := Tryz.isAgg193
 z233 := Tryz.sizeOf193
 v233 := Tryz.zeroValue193
 g15 := by kernel_rfl
 g16 := by kernel_rfl
 g17 := by kernel_rfl
 g18 := by kernel_rfl
 g19 := by kernel_rfl
 t80 := Tryz.underlying122
 a80 := Tryz.isAgg122
 z80 := Tryz.sizeOf122
 v80 := Tryz.zeroValue122
 i0 := by kernel_rfl
 i2 := by kernel_rfl
 i3 := by kernel_rfl
 i4 := by kernel_rfl
 i5 := by kernel_rfl
 i9 := by kernel_rfl
 i20 := by kernel_rfl
 i21 := by kernel_rfl
 i37 := by kernel_rfl
 i46 := by kernel_rfl
 i51 := by kernel_rfl
 i53 := by kernel_rfl
 i75 := by kernel_rfl
 i76 := by kernel_rfl
 i80 := by kernel_rfl
 i85 := by kernel_rfl
 i127 := by kernel_rfl
 i143 := by kernel_rfl
 i145 := by kernel_rfl
 i167 := by kernel_rfl
 i168 := by kernel_rfl
 i171 := by kernel_rfl
 i173 := by kernel_rfl
 i175 := by kernel_rfl
 i210 := by kernel_rfl
 i212 := by kernel_rfl
 i232 := by kernel_rfl
 i233 := by kernel_rfl
 m15 := by kernel_rfl
 m16 := by kernel_rfl
 m17 := by kernel_rfl
 m18 := by kernel_rfl
 m19 := by kernel_rfl
 c0 := by kernel_rfl
 c2 := by kernel_rfl
 c3 := by kernel_rfl
 c4 := by kernel_rfl
 c5 := by kernel_rfl
 c9 := by kernel_rfl
 c20 := by kernel_rfl
 c21 := by kernel_rfl
 c37 := by kernel_rfl
 c46 := by kernel_rfl
 c51 := by kernel_rfl
 c53 := by kernel_rfl
 c75 := by kernel_rfl
 c76 := by kernel_rfl
 c80 := by kernel_rfl
 c85 := by kernel_rfl
 c127 := by kernel_rfl
 c143 := by kernel_rfl
 c145 := by kernel_rfl
 c167 := by kernel_rfl
 c168 := by kernel_rfl
 c171 := by kernel_rfl
 c173 := by kernel_rfl
 c175 := by kernel_rfl
 c210 := by kernel_rfl
 c212 := by kernel_rfl
 c213 := by kernel_rfl
 c232 := by kernel_rfl
 c233 := by kernel_rfl }
def Tryz.laysItoaM_ren : Go.Shelf.Ren := ⟨fun | 171 => 74 | 243 => 105 | 246 => 120 | 283 => 142 | 284 => 143 | 285 => 144 | 286 => 145 | 129 => 138 | 317 => 165 | 318 => 166 | 319 => 167 | 320 => 168 | 337 => 176 | 338 => 177 | n => n, fun | 3 => 3 | 9 => 9 | 2 => 2 | 4 => 4 | 171 => 149 | 0 => 0 | 53 => 57 | 37 => 22 | 5 => 5 | 173 => 151 | 212 => 172 | 51 => 142 | 20 => 20 | 213 => 173 | 46 => 111 | 232 => 192 | 233 => 193 | n => n, fun | 17 => 1 | 18 => 6 | 19 => 7 | n => n⟩
theorem Tryz.laysItoaM : Go.Proofs.LaysM.n171 Tryz.prog Tryz.laysItoaM_ren := {
 mixed := by kernel_rfl
 f129 := Tryz.func138.trans (congrArg some (by kernel_rfl))
 f171 := Tryz.func74.trans (congrArg some (by kernel_rfl))
 f243 := Tryz.func105.trans (congrArg some (by kernel_rfl))
 f246 := Tryz.func120.trans (congrArg some (by kernel_rfl))
 f283 := Tryz.func142.trans (congrArg some (by kernel_rfl))
 f284 := Tryz.func143.trans (congrArg some (by kernel_rfl))
 f285 := Tryz.func144.trans (congrArg some (by kernel_rfl))
 f286 := Tryz.func145.trans (congrArg some (by kernel_rfl))
 f317 := Tryz.func165.trans (congrArg some (by kernel_rfl))
 f318 := Tryz.func166.trans (congrArg some (by kernel_rfl))
 f319 := Tryz.func167.trans (congrArg some (by kernel_rfl))
 f320 := Tryz.func168.trans (congrArg some (by kernel_rfl))
 f337 := Tryz.func176.trans (congrArg some (by kernel_rfl))
 f338 := Tryz.func177.trans (congrArg some (by kernel_rfl))
 t0 := Tryz.underlying0
 a0 := Tryz.isAgg0
 z0 := Tryz.sizeOf0
 v0 := Tryz.zeroValue0
 t2 := Tryz.underlying2
 a2 := Tryz.isAgg2
 z2 := Tryz.sizeOf2
 v2 := Tryz.zeroValue2
 t3 := Tryz.underlying3
 a3 := Tryz.isAgg3
 z3 := Tryz.sizeOf3
 v3 := Tryz.zeroValue3
 t4 := Tryz.underlying4
 a4 := Tryz.isAgg4
 z4 := Tryz.sizeOf4
 v4 := Tryz.zeroValue4
 t5 := Tryz.underlying5
 a5 := Tryz.isAgg5
 z5 := Tryz.sizeOf5
 v5 := Tryz.zeroValue5
 t9 := Tryz.underlying9
 a9 := Tryz.isAgg9
 z9 := Tryz.sizeOf9
 v9 := Tryz.zeroValue9
 t20 := Tryz.underlying20
 a20 := Tryz.isAgg20
 z20 := Tryz.sizeOf20
 v20 := Tryz.zeroValue20
 t37 := Tryz.underlying22
 a37 := Tryz.isAgg22
 z37 := Tryz.sizeOf22
 v37 := Tryz.zeroValue22
 t46 := Tryz.underlying111
 a46 := Tryz.isAgg111
 z46 := Tryz.sizeOf111
 v46 := Tryz.zeroValue111
 t51 := Tryz.underlying142
 a51 := Tryz.isAgg142
 z51 := Tryz.sizeOf142
 v51 := Tryz.zeroValue142
 t53 := Tryz.underlying57
 a53 := Tryz.isAgg57
 z53 := Tryz.sizeOf57
 v53 := Tryz.zeroValue57
 t171 := Tryz.underlying149
 a171 := Tryz.isAgg149
 z171 := Tryz.sizeOf149
 v171 := Tryz.zeroValue149
 t173 := Tryz.underlying151
 a173 := Tryz.isAgg151
 z173 := Tryz.sizeOf151
 v173 := Tryz.zeroValue151
 t212 := Tryz.underlying172
 a212 := Tryz.isAgg172
 z212 := Tryz.sizeOf172
 v212 := Tryz.zeroValue172
 t213 := Tryz.underlying173
 a213 := Tryz.isAgg173
 z213 := Tryz.sizeOf173
 t232 := Tryz.underlying192
 a232 := Tryz.isAgg192
 z232 := Tryz.sizeOf192
 v232 := Tryz.zeroValue192
 t233 := Tryz.underlying193
 a233 := Tryz.isAgg193
 z233 := Tryz.sizeOf193
 v233 := Tryz.zeroValue193
 g17 := by kernel_rfl
 g18 := by kernel_rfl
 g19 := by kernel_rfl
 i0 := by kernel_rfl
 i2 := by kernel_rfl
 i3 := by kernel_rfl
 i4 := by kernel_rfl
 i5 := by kernel_rfl
 i9 := by kernel_rfl
 i20 := by kernel_rfl
 i37 := by kernel_rfl
 i46 := by kernel_rfl
 i51 := by kernel_rfl
 i53 := by kernel_rfl
 i171 := by kernel_rfl
 i173 := by kernel_rfl
 i212 := by kernel_rfl
 i232 := by kernel_rfl
 i233 := by kernel_rfl
 m17 := by kernel_rfl
 m18 := by kernel_rfl
 m19 := by kernel_rfl }
def Tryz.laysIndex_ren : Go.Shelf.Ren := ⟨fun | 219 => 126 | 217 => 151 | 225 => 152 | 224 => 153 | 267 => 154 | 266 => 170 | 314 => 171 | n => n, fun | 9 => 9 | 3 => 3 | 4 => 4 | 5 => 5 | 46 => 111 | 146 => 144 | 51 => 142 | n => n, fun | 1 => 0 | n => n⟩
theorem Tryz.laysIndex : Go.Proofs.Lays.n219 Tryz.prog Tryz.laysIndex_ren := {
 mixed := by kernel_rfl
 f217 := Tryz.func151.trans (congrArg some (by kernel_rfl))
 f219 := Tryz.func126.trans (congrArg some (by kernel_rfl))
 f224 := Tryz.func153.trans (congrArg some (by kernel_rfl))
 f225 := Tryz.func152.trans (congrArg some (by kernel_rfl))
 f266 := Tryz.func170.trans (congrArg some (by kernel_rfl))
 f267 := Tryz.func154.trans (congrArg some (by kernel_rfl))
 f314 := Tryz.func171.trans (congrArg some (by kernel_rfl))
 t3 := Tryz.underlying3
 a3 := Tryz.isAgg3
 z3 := Tryz.sizeOf3
 v3 := Tryz.zeroValue3
 t4 := Tryz.underlying4
 a4 := Tryz.isAgg4
 z4 := Tryz.sizeOf4
 v4 := Tryz.zeroValue4
 t5 := Tryz.underlying5
 a5 := Tryz.isAgg5
 z5 := Tryz.sizeOf5
 v5 := Tryz.zeroValue5
 t9 := Tryz.underlying9
 a9 := Tryz.isAgg9
 z9 := Tryz.sizeOf9
 v9 := Tryz.zeroValue9
 t46 := Tryz.underlying111
 a46 := Tryz.isAgg111
 z46 := Tryz.sizeOf111
 v46 := Tryz.zeroValue111
 t51 := Tryz.underlying142
 a51 := Tryz.isAgg142
 z51 := Tryz.sizeOf142
 v51 := Tryz.zeroValue142
 t146 := Tryz.underlying144
 a146 := Tryz.isAgg144
 z146 := Tryz.sizeOf144
 v146 := Tryz.zeroValue144
 g1 := by kernel_rfl }
end Go.Proofs
end
section
namespace Go.Proofs.YtnofekfoonmedaaGreatDoor.X
open Go.RowKit Go.Proofs.YtnofekfoonmedaaGreatDoorW.PrintWords Go.Proofs.YtnofekfoonmedaaGreatDoorW.PrintLast Go.Proofs.YtnofekfoonmedaaGreatDoorW.PrintMore
attribute [local go_sem] max2_int min2_int max_two min_two max_three min_three max_four min_four
set_option linter.unusedVariables false
set_option linter.unusedSimpArgs false
def errW : Option Int → Value
 | none => .nilIface
 | some c => .iface 0 (.int .i64 c)
theorem errW_none : errW none = .nilIface := rfl
theorem errW_some (c : Int) : errW (some c) = .iface 0 (.int .i64 c) := rfl
theorem info3 : (Tryz.prog.info? 3).map (fun i => (i.zero, i.size, i.bytes)) = some (some (.int .i64 0), 1, 8) := by kernel_rfl
theorem info4 : (Tryz.prog.info? 4).map (fun i => (i.zero, i.size, i.bytes)) = some (some (.bool false), 1, 1) := by kernel_rfl
theorem info9 : (Tryz.prog.info? 9).map (fun i => (i.zero, i.size, i.bytes)) = some (some (.string ⟨#[]⟩), 1, 16) := by kernel_rfl
theorem info39 : (Tryz.prog.info? 39).map (fun i => (i.zero, i.size, i.bytes)) = some (some (.agg #[(.int .i64 0), (.int .i64 0)]), 2, 16) := by kernel_rfl
theorem info46 : (Tryz.prog.info? 46).map (fun i => (i.zero, i.size, i.bytes)) = some (some (.slice none 0 0), 1, 24) := by kernel_rfl
structure S39 where
 f0 : Int
 f1 : Int
def z39 : S39 := ⟨(0 : Int), (0 : Int)⟩
def k39 : Kd S39 := Kd.iso (Kd.pair (Kd.int .i64) (Kd.int .i64)) (fun x : S39 => (x.f0, x.f1))
theorem k39_open {w : World} {x : S39} {cs : List Value} (h : k39.K w x cs) : cs = [.int .i64 x.f0, .int .i64 x.f1] := by
 obtain ⟨_, _, rfl, rfl, rfl⟩ := h;exact rfl
theorem k39_openM {w : World} {base : Nat} {ok : Nat → Prop} {x : S39} {cs : List Value} (h : k39.M w base ok x cs) : cs = [.int .i64 x.f0, .int .i64 x.f1] := by
 obtain ⟨_, _, rfl, rfl, rfl⟩ := h;exact rfl
theorem k39_mk (w : World) (x : S39)  : k39.K w x [.int .i64 x.f0, .int .i64 x.f1] := ⟨[.int .i64 x.f0], [.int .i64 x.f1], rfl, rfl, rfl⟩
theorem k39_mkM (w : World) (base : Nat) (ok : Nat → Prop) (x : S39)  : k39.M w base ok x [.int .i64 x.f0, .int .i64 x.f1] := ⟨[.int .i64 x.f0], [.int .i64 x.f1], rfl, rfl, rfl⟩
def rd_T39 (xs : List S39) (i : Int) : S39 := xs.getD i.toNat z39
theorem at_T39 {w : World} {A : Option Addr} {n : Nat} {xs : List S39} (h : Kd.C k39 w A n xs) (i : Int) (h0 : 0 ≤ i) (h1 : i < n) : ∃ ad , A = some ad ∧ w.cell? (ad.add (i.toNat * 2)) = some (.int .i64 (rd_T39 xs i).f0) ∧ w.cell? ⟨(ad.add (i.toNat * 2)).block, (ad.add (i.toNat * 2)).off + 1, none⟩ = some (.int .i64 (rd_T39 xs i).f1) := by
 obtain ⟨ad, c, e, _, hK, hc0⟩ := Kd.C_get h z39 i h0 h1;have hc : ∀ j u, c[j]? = some u → w.cell? (ad.add (i.toNat * 2 + j)) = some u := hc0;obtain rfl := k39_open hK;exact ⟨ad, e, hc 0 _ rfl, by rw [← add_field _ _ 1 (by omega)]; exact hc 1 _ rfl⟩
section
variable {P : Program} {ops : Array Oper} {Q : Exit → Act → World → Prop} {md : Region.Mode} {S : World → Prop} {ds : List Nat}
theorem pu_ (i : Nat) (N : Option Tmp) {oi : Oper} {v : Value} {fuel : Nat} {l : Array Bool} {a : Act} {w : World} {a' : Act} (h : wpAnyLast P md ops Q S ds fuel (l.setIfInBounds i true) a' w) (hi : ops[i]? = some oi := by rfl) (hN : oi.dst = N := by rfl) (hc : anyB md ops l (l.setIfInBounds i true) i = true := by kernel_rfl) (hQ : ∀ c a w, Q (.panic c) (a.put oi.dst v) w → Q (.panic c) a w := by exact fun _ _ _ h => h) (hy : Yields P ops oi v a := by exact Or.inl ⟨by rfl, by intro w'; go_simp; with_reducible rfl⟩) (ha : a.put N v = a' := by (simp only [Act.put, List.setIfInBounds_toArray, List.set_cons_zero, List.set_cons_succ, i64_w, i32_w]; rfl)) : wpAnyLast P md ops Q S ds (fuel + 1) l a w := pure_ _ hi hN hc hQ hy ha h
theorem pt_ {T : Bool × List (List Nat × List Nat)} (i : Nat) (N : Option Tmp) (HT : Aside0 (rtab md ops = T)) {oi : Oper} {v : Value} {fuel : Nat} {l : Array Bool} {a : Act} {w : World} {a' : Act} (h : wpAnyLast P md ops Q S ds fuel (l.setIfInBounds i true) a' w) (hi : ops[i]? = some oi := by rfl) (hN : oi.dst = N := by rfl) (hc : anyT T l.toList (l.setIfInBounds i true).toList i = true := by kernel_rfl) (hQ : ∀ c a w, Q (.panic c) (a.put oi.dst v) w → Q (.panic c) a w := by exact fun _ _ _ h => h) (hy : Yields P ops oi v a := by exact Or.inl ⟨by rfl, by intro w'; go_simp; with_reducible rfl⟩) (ha : a.put N v = a' := by (simp only [Act.put, List.setIfInBounds_toArray, List.set_cons_zero, List.set_cons_succ, i64_w, i32_w]; rfl)) : wpAnyLast P md ops Q S ds (fuel + 1) l a w := pure_ _ hi hN (any_of HT.out hc) hQ hy ha h
theorem po_ {T : Bool × List (List Nat × List Nat)} (i : Nat) (N : Option Tmp) (HT : Aside0 (rtab md ops = T)) {oi : Oper}  {fuel : Nat} {l : Array Bool} {a : Act} {w : World} {a' : Act} (h : wpAnyLast P md ops Q S ds fuel (l.setIfInBounds i true) a' w) (hi : ops[i]? = some oi := by rfl) (hN : oi.dst = N := by rfl) (hc : anyT T l.toList (l.setIfInBounds i true).toList i = true := by kernel_rfl) (hQ : ∀ c a w, Q (.panic c) (a.put oi.dst undef) w → Q (.panic c) a w := by exact fun _ _ _ h => h) (hy : Yields P ops oi undef a := by exact Or.inr ⟨by rfl, rfl⟩) (ha : a.put N undef = a' := by (simp only [Act.put, List.setIfInBounds_toArray, List.set_cons_zero, List.set_cons_succ, i64_w, i32_w]; rfl)) : wpAnyLast P md ops Q S ds (fuel + 1) l a w := pure_ _ hi hN (any_of HT.out hc) hQ hy ha h
theorem pv_ (i : Nat) (N : Option Tmp) {oi : Oper}  {fuel : Nat} {l : Array Bool} {a : Act} {w : World} {a' : Act} (h : wpAnyLast P md ops Q S ds fuel (l.setIfInBounds i true) a' w) (hi : ops[i]? = some oi := by rfl) (hN : oi.dst = N := by rfl) (hc : anyB md ops l (l.setIfInBounds i true) i = true := by kernel_rfl) (hQ : ∀ c a w, Q (.panic c) (a.put oi.dst undef) w → Q (.panic c) a w := by exact fun _ _ _ h => h) (hy : Yields P ops oi undef a := by exact Or.inr ⟨by rfl, rfl⟩) (ha : a.put N undef = a' := by (simp only [Act.put, List.setIfInBounds_toArray, List.set_cons_zero, List.set_cons_succ, i64_w, i32_w]; rfl)) : wpAnyLast P md ops Q S ds (fuel + 1) l a w := pure_ _ hi hN hc hQ hy ha h
theorem ta2_ (i : Nat) (N : Option Tmp) {w : World} (hS : S w) {oi : Oper} {v : Value} {fuel : Nat} {l : Array Bool} {a : Act} {a' : Act} (h : wpAnyLast P md ops Q S ds fuel (l.setIfInBounds i true) a' w) (hi : ops[i]? = some oi := by rfl) (hN : oi.dst = N := by rfl) (hc : takeB md ops ds l (l.setIfInBounds i true) i = true := by kernel_rfl) (hQ : ∀ c a w, Q (.panic c) (a.put oi.dst v) w → Q (.panic c) a w := by exact fun _ _ _ h => h) (hy : YieldsIf P ops S oi v a := by exact Or.inl ⟨by rfl, by rintro w' ⟨s0, s1⟩; go_simp; with_reducible rfl⟩) (ha : a.put N v = a' := by (simp only [Act.put, List.setIfInBounds_toArray, List.set_cons_zero, List.set_cons_succ, i64_w, i32_w]; rfl)) : wpAnyLast P md ops Q S ds (fuel + 1) l a w := take_ _ hi hN hc hQ hy hS ha h
theorem tb2_ {T : Bool × List (List Nat × List Nat)} {B : List Nat} (i : Nat) (N : Option Tmp) (HT : Aside0 (rtab md ops = T)) (HW : Aside0 (waitsOk T.2 B = true)) {w : World} (hS : S w) {oi : Oper} {v : Value} {fuel : Nat} {l : Array Bool} {a : Act} {a' : Act} (h : wpAnyLast P md ops Q S ds fuel (l.setIfInBounds i true) a' w) (hi : ops[i]? = some oi := by rfl) (hN : oi.dst = N := by rfl) (hc : takeW T B ds l.toList (l.setIfInBounds i true).toList i = true := by kernel_rfl) (hQ : ∀ c a w, Q (.panic c) (a.put oi.dst v) w → Q (.panic c) a w := by exact fun _ _ _ h => h) (hy : YieldsIf P ops S oi v a := by exact Or.inl ⟨by rfl, by rintro w' ⟨s0, s1⟩; go_simp; with_reducible rfl⟩) (ha : a.put N v = a' := by (simp only [Act.put, List.setIfInBounds_toArray, List.set_cons_zero, List.set_cons_succ, i64_w, i32_w]; rfl)) : wpAnyLast P md ops Q S ds (fuel + 1) l a w := take_ _ hi hN (take_ofW HT.out HW.out hc) hQ hy hS ha h
theorem tb3_ {T : Bool × List (List Nat × List Nat)} {B : List Nat} (i : Nat) (N : Option Tmp) (HT : Aside0 (rtab md ops = T)) (HW : Aside0 (waitsOk T.2 B = true)) {w : World} (hS : S w) {oi : Oper} {v : Value} {fuel : Nat} {l : Array Bool} {a : Act} {a' : Act} (h : wpAnyLast P md ops Q S ds fuel (l.setIfInBounds i true) a' w) (hi : ops[i]? = some oi := by rfl) (hN : oi.dst = N := by rfl) (hc : takeW T B ds l.toList (l.setIfInBounds i true).toList i = true := by kernel_rfl) (hQ : ∀ c a w, Q (.panic c) (a.put oi.dst v) w → Q (.panic c) a w := by exact fun _ _ _ h => h) (hy : YieldsIf P ops S oi v a := by exact Or.inl ⟨by rfl, by rintro w' ⟨s0, s1, s2⟩; go_simp; with_reducible rfl⟩) (ha : a.put N v = a' := by (simp only [Act.put, List.setIfInBounds_toArray, List.set_cons_zero, List.set_cons_succ, i64_w, i32_w]; rfl)) : wpAnyLast P md ops Q S ds (fuel + 1) l a w := take_ _ hi hN (take_ofW HT.out HW.out hc) hQ hy hS ha h
theorem ta4_ (i : Nat) (N : Option Tmp) {w : World} (hS : S w) {oi : Oper} {v : Value} {fuel : Nat} {l : Array Bool} {a : Act} {a' : Act} (h : wpAnyLast P md ops Q S ds fuel (l.setIfInBounds i true) a' w) (hi : ops[i]? = some oi := by rfl) (hN : oi.dst = N := by rfl) (hc : takeB md ops ds l (l.setIfInBounds i true) i = true := by kernel_rfl) (hQ : ∀ c a w, Q (.panic c) (a.put oi.dst v) w → Q (.panic c) a w := by exact fun _ _ _ h => h) (hy : YieldsIf P ops S oi v a := by exact Or.inl ⟨by rfl, by rintro w' ⟨s0, s1, s2, s3⟩; go_simp; with_reducible rfl⟩) (ha : a.put N v = a' := by (simp only [Act.put, List.setIfInBounds_toArray, List.set_cons_zero, List.set_cons_succ, i64_w, i32_w]; rfl)) : wpAnyLast P md ops Q S ds (fuel + 1) l a w := take_ _ hi hN hc hQ hy hS ha h
theorem tb4_ {T : Bool × List (List Nat × List Nat)} {B : List Nat} (i : Nat) (N : Option Tmp) (HT : Aside0 (rtab md ops = T)) (HW : Aside0 (waitsOk T.2 B = true)) {w : World} (hS : S w) {oi : Oper} {v : Value} {fuel : Nat} {l : Array Bool} {a : Act} {a' : Act} (h : wpAnyLast P md ops Q S ds fuel (l.setIfInBounds i true) a' w) (hi : ops[i]? = some oi := by rfl) (hN : oi.dst = N := by rfl) (hc : takeW T B ds l.toList (l.setIfInBounds i true).toList i = true := by kernel_rfl) (hQ : ∀ c a w, Q (.panic c) (a.put oi.dst v) w → Q (.panic c) a w := by exact fun _ _ _ h => h) (hy : YieldsIf P ops S oi v a := by exact Or.inl ⟨by rfl, by rintro w' ⟨s0, s1, s2, s3⟩; go_simp; with_reducible rfl⟩) (ha : a.put N v = a' := by (simp only [Act.put, List.setIfInBounds_toArray, List.set_cons_zero, List.set_cons_succ, i64_w, i32_w]; rfl)) : wpAnyLast P md ops Q S ds (fuel + 1) l a w := take_ _ hi hN (take_ofW HT.out HW.out hc) hQ hy hS ha h
theorem nm_ (N : Option Tmp) {v : Value} {fuel : Nat} {l : Array Bool} {a : Act} {w : World} {a' : Act} (h : wpAnyLast P md ops Q S ds fuel l a' w) (ha : a.put N v = a' := by (simp only [Act.put, List.setIfInBounds_toArray, List.set_cons_zero, List.set_cons_succ, i64_w, i32_w]; rfl)) : wpAnyLast P md ops Q S ds fuel l (a.put N v) w := norm_ ha h
end
theorem bl_ {b : Nat} {w0 w : World} (h : Below b w0 w := by repeat (first | (with_reducible first | exact HB.out | apply below_alloc | apply pw_below_drewN | apply below_drew1) | exact HB.out)) : Below b w0 w := h
theorem bg_ {b : Nat} {w0 w : World} (h : Below b w0 w := by repeat (first | (with_reducible first | exact HB.out | apply below_alloc | apply pw_below_drewN | apply below_drew1 | refine below_set ?_ (Aside0.out (by assumption))) | exact HB.out)) : Below b w0 w := h
theorem kb_ {w : World} {g : Nat} {o : Obj} (h : w.heap[g]? = some o := by ((with_reducible repeat (first | refine blk_drewN ?_ _ | refine blk_drew ?_ | refine blk_alloc ?_ _)); exact Aside0.out (by with_reducible assumption))) : w.heap[g]? = some o := h
theorem kr_ {α : Type} {d : Kd α} {e : Nat} {W W' : World} {base : Nat} {ok : Nat → Prop} {v : Value} {xs : List α} (h : d.R e W base ok v xs) (hs : d.R e W base ok v xs → d.R e W' base ok v xs := by (intro h_; (with_reducible repeat (first | apply Kd.R_alloc | apply Kd.R_drewN | apply Kd.R_drew)); exact h_)) : d.R e W' base ok v xs := hs h
theorem od_ {p : Prop} [Decidable p] (h : decide p = true := by first | (with_reducible assumption) | assumption) : p := of_decide_eq_true h
theorem ew_ {α : Sort _} {a b : α} (h : a = b := by first | rfl | (simp [errW_none, errW_some] <;> rfl) | (simp [*, errW_none, errW_some] <;> rfl)) : a = b := h
theorem ma_ {α : Sort _} {a b : α} (h : a = b := by (try simp only [List.map_toArray, List.map_cons, List.map_nil]); first | done | rfl | (simp only [List.length_drop, List.length_take]; rfl)) : a = b := h
theorem kc_ {α : Type} {d : Kd α} {A : Option Addr} {n : Nat} {W W' : World} {xs : List α} (h : d.C W A n xs) (hs : d.C W A n xs → d.C W' A n xs := by (intro h_; repeat (first | exact h_ | (with_reducible refine Kd.C_alloc ?_ _) | (with_reducible refine Kd.C_drewN ?_ _) | (with_reducible refine Kd.C_drew ?_)))) : d.C W' A n xs := hs h
theorem kk_ {W W' : World} {g : Nat} {o : Obj} (h : W.heap[g]? = some o) (hs : W.heap[g]? = some o → W'.heap[g]? = some o := by (intro h_; (with_reducible repeat (first | refine blk_drewN ?_ _ | refine blk_drew ?_ | refine blk_alloc ?_ _)); exact h_)) : W'.heap[g]? = some o := hs h
theorem lo_ {α : Type} {a b : Option α} (h : LeO a b := by
 repeat' first | (with_reducible apply ih0) | (with_reducible apply ih1) | (with_reducible apply ih2) | (with_reducible apply ih3) | (with_reducible apply m0_) | (with_reducible apply m1_) | (with_reducible apply m2_) | (with_reducible apply m3_) | (with_reducible exact LeO.refl _) | (with_reducible exact LeO.none _) | (with_reducible refine LeO.ite ?_ ?_) | (with_reducible refine LeO.bind ?_ (fun _ => ?_)) | apply ih0 | apply ih1 | apply ih2 | apply ih3 | apply m0_ | apply m1_ | apply m2_ | apply m3_ | exact LeO.none _ | refine LeO.ite ?_ ?_ | refine LeO.bind ?_ (fun _ => ?_)) : LeO a b := h
theorem es_ {α : Sort _} {a b : α} (h : a = b := by first | rfl | (simp; done) | (simp [*]; done)) : a = b := h
theorem dr_ {w w' : World} (h : Drawn0 w w' := by repeat (first | exact Drawn0.refl _ | apply Drawn0.step)) : Drawn0 w w' := h
theorem mk_ {p : Prop} (h : p) : Aside0 p := ⟨h⟩
theorem rp_ {p : Prop} (h : p := by first | (rw [hy_]; with_reducible exact H) | (have H2_ := (Option.bind_some _ _).symm.trans H; rw [hy_]; with_reducible exact H2_) | (have H2_ := (Option.bind_some _ _).symm.trans H; with_reducible exact H2_) | with_reducible exact H | (rw [hy_]; exact H) | exact H) : p := h
section
variable {P : Program} {ops : Array Oper} {Q : Exit → Act → World → Prop} {rest : List Oper} {oi : Oper} {a : Act} {w : World}
theorem gc_ (d : Tmp) {f : FuncId} {fn : Func} (hf : P.funcs[f]? = some fn) (args : Array Value) {xs : Array Operand} {ts : Array TypeId} (h : Calls P f args w fun e w' => ∃ v, e = .returned v ∧ wpList P ops Q rest (a.put (some d) v) w') (hop : oi.op = .call { callee := .value (.func f), args := xs, argTypes := ts } := by with_reducible rfl) (hd : oi.dst = some d := by rfl) (hg : oi.guard = none := by rfl) (hname : (fn.name == "runtime.NumGoroutine") = false := by kernel_rfl) (hb : fn.body.isSome = true := by rfl) (hargs : xs.map a.eval = args := by ((try simp only [List.map_toArray, List.map_cons, List.map_nil]); first | done | rfl | (simp only [List.length_drop, List.length_take]; rfl))) : wpList P ops Q (oi :: rest) a w := goesL_ (some d) hd hg hf hname hb args hop hargs h
theorem gd_ (d : Tmp) {f : FuncId} {fn : Func} (hf : P.funcs[f]? = some fn) {args : Array Value} {v : Value} (hc : Calls P f args w fun e w' => e = .returned v ∧ Drawn0 w w') {xs : Array Operand} {ts : Array TypeId} (h : ∀ nd, wpList P ops Q rest (a.put (some d) v) (w.drewN nd)) (hop : oi.op = .call { callee := .value (.func f), args := xs, argTypes := ts } := by with_reducible rfl) (hd : oi.dst = some d := by rfl) (hg : oi.guard = none := by rfl) (hname : (fn.name == "runtime.NumGoroutine") = false := by kernel_rfl) (hb : fn.body.isSome = true := by rfl) (hargs : xs.map a.eval = args := by ((try simp only [List.map_toArray, List.map_cons, List.map_nil]); first | done | with_reducible rfl | rfl | (simp only [List.length_drop, List.length_take]; rfl))) : wpList P ops Q (oi :: rest) a w := by
 refine goesL_ (some d) hd hg hf hname hb args hop hargs (hc.mono ?_)
 rintro e w' ⟨rfl, ⟨nd, rfl⟩⟩
 exact ⟨_, rfl, h nd⟩
theorem g_ (N : Tmp) (h : wpList P ops Q (oi :: rest) a w) (_hN : oi.dst = some N := by rfl) : wpList P ops Q (oi :: rest) a w := h
theorem bx_ (N : Tmp) (cs : Array Value) (t : TypeId) (h : ∀ g, g = w.heap.size → ∀ w1, w1.heap[g]? = some (.cells cs t (0, 0)) → Below w.heap.size w w1 → wpList P ops Q rest (a.put oi.dst (.pointer (some ⟨g, 0, none⟩))) w1) (hd : oi.dst = some N := by with_reducible rfl) (hgd : oi.guard = none := by rfl) (hrun : (execOp a.eval oi).run P w = .ok (.value (.pointer (some ⟨w.heap.size, 0, none⟩))) (w.alloc (.cells cs t (0, 0))) := by first | (go_simp; done) | (go_simp; rfl)) : wpList P ops Q (oi :: rest) a w := box_event hgd hd hrun h
end
mutual
def spec_cdPlane.l0 : Nat → Int → List Int → Int → Option (List Int)
 | 0, _, _, _ => none
 | k + 1, x0, x3, x4 => if x4 ≤ x0 then (spec_cdPlane.l1 k x0 x3 x4 1) else (some x3)
def spec_cdPlane.l1 : Nat → Int → List Int → Int → Int → Option (List Int)
 | 0, _, _, _, _ => none
 | k + 1, x0, x3, x4, x5 => if x5 < x4 then (if 0 ≤ x4 then (if x4 < (x3.length : Int) then (if 0 ≤ (wrap64 (x5 - 1)) then (if (wrap64 (x5 - 1)) < (x3.length : Int) then (if 0 ≤ (wrap64 ((wrap64 (x4 - 1)) - x5)) then (if (wrap64 ((wrap64 (x4 - 1)) - x5)) < (x3.length : Int) then (spec_cdPlane.l1 k x0 (x3.set (x4 : Int).toNat (wrap64 ((rd x3 x4) + (wrap64 ((rd x3 (wrap64 (x5 - 1))) * (rd x3 (wrap64 ((wrap64 (x4 - 1)) - x5)))))))) x4 (wrap64 (x5 + 2))) else (none)) else (none)) else (none)) else (none)) else (none)) else (none)) else (spec_cdPlane.l0 k x0 x3 (wrap64 (x4 + 2)))
end
def spec_cdPlane.f (k : Nat) (a0 : Int) : Option (List Int) := if 0 ≤ (wrap64 (a0 + 1)) then (if (wrap64 (a0 + 1) : Int).toNat ≤ 35184372088832 then ((some (List.replicate (wrap64 (a0 + 1) : Int).toNat 0 : List Int)).bind fun y102 => (if 0 < (y102.length : Int) then (spec_cdPlane.l0 k a0 (y102.set (0 : Int).toNat 1) 2) else (none))) else (none)) else (none)
theorem spec_cdPlane.mono_l : ∀ k, (∀ y0 y1 y2, LeO (spec_cdPlane.l0 k y0 y1 y2) (spec_cdPlane.l0 (k + 1) y0 y1 y2)) ∧ (∀ y0 y1 y2 y3, LeO (spec_cdPlane.l1 k y0 y1 y2 y3) (spec_cdPlane.l1 (k + 1) y0 y1 y2 y3))
 | 0 => ⟨fun _ _ _ r h => by simp [spec_cdPlane.l0] at h, fun _ _ _ _ r h => by simp [spec_cdPlane.l1] at h⟩
 | k + 1 => by
  obtain ⟨ih0, ih1⟩ := spec_cdPlane.mono_l k;refine ⟨?_, ?_⟩
  ·intro y0 y1 y2;unfold spec_cdPlane.l0;exact lo_
  ·intro y0 y1 y2 y3;unfold spec_cdPlane.l1;exact lo_
theorem spec_cdPlane.mono : ∀ a0 k, LeO (spec_cdPlane.f k a0) (spec_cdPlane.f (k + 1) a0) := by
 intro a0 k;obtain ⟨ih0, ih1⟩ := spec_cdPlane.mono_l k;unfold spec_cdPlane.f;exact lo_
def spec_cdPlane.T9 : Bool × List (List Nat × List Nat) := (true, [([], []), ([], []), ([0, 1], [0, 1]), ([2], [2]), ([], []), ([], []), ([5], [5]), ([4, 6], [4, 6]), ([7], [7]), ([], []), ([], []), ([10], [10]), ([], []), ([11, 12], [11, 12]), ([9, 13], [9, 13]), ([14], [14]), ([8, 15], [8, 15]), ([3, 16], [3, 16]), ([0, 1, 0, 1, 2, 3, 4, 5, 6, 7, 8, 9, 10, 11, 12, 13, 14, 15, 16, 17], [0, 1]), ([18, 17, 0, 1, 2, 3, 4, 5, 6, 7, 8, 9, 10, 11, 12, 13, 14, 15, 16, 17], [17, 18])])
def spec_cdPlane.B9 : List Nat := [0, 0, 3, 7, 0, 0, 32, 112, 240, 0, 0, 1024, 0, 7168, 15872, 32256, 65520, 131071, 262143, 524287]
theorem spec_cdPlane.tab9 : rtab .any (opsOf Tryz.f42 9) = spec_cdPlane.T9 := by kernel_rfl
theorem spec_cdPlane.bits9 : waitsOk spec_cdPlane.T9.2 spec_cdPlane.B9 = true := by kernel_rfl
theorem spec_cdPlane.calls (k : Nat) (a0 : Int) (r : List Int) (w : World) (h : spec_cdPlane.f k a0 = some r) :
  Calls Tryz.prog 42 #[.int .i64 a0] w fun e w' => ∃ v0_ : Value, e = .returned (v0_) ∧ Kd.R (Kd.int .i64) 3 w' w.heap.size (fun _ => True) v0_ r ∧ Below w.heap.size w w' := by
 have HB := mk_ (Below.refl w.heap.size w);have H : (if 0 ≤ (wrap64 (a0 + 1)) then (if (wrap64 (a0 + 1) : Int).toNat ≤ 35184372088832 then ((some (List.replicate (wrap64 (a0 + 1) : Int).toNat 0 : List Int)).bind fun y102 => (if 0 < (y102.length : Int) then (spec_cdPlane.l0 k a0 (y102.set (0 : Int).toNat 1) 2) else (none))) else (none)) else (none)) = some r := h;clear h;obtain ⟨ji2, hji2⟩ : ∃ j_ : Int, (wrap64 (a0 + 1)) = j_ := ⟨_, rfl⟩;replace H : (if 0 ≤ (ji2) then (if (ji2 : Int).toNat ≤ 35184372088832 then ((some (List.replicate (ji2 : Int).toNat 0 : List Int)).bind fun y102 => (if 0 < (y102.length : Int) then (spec_cdPlane.l0 k a0 (y102.set (0 : Int).toNat 1) 2) else (none))) else (none)) else (none)) = some r := by first | (rw [hji2] at H; exact H) | (simp only [hji2] at H ⊢; exact H)
 have hji2w : (IntKind.i64.wrap (a0 + 1)) = ji2 := (i64_w _).trans hji2;by_cases c3 : 0 ≤ (ji2);rotate_left
 ·rw [if_neg c3] at H;exact absurd H (by simp)
 rw [if_pos c3] at H;have c3b0 := eq_true c3;have c3b1 : decide (0 ≤ (ji2)) = true := decide_eq_true c3;clear c3;by_cases c4 : (ji2 : Int).toNat ≤ 35184372088832;rotate_left
 ·rw [if_neg c4] at H;exact absurd H (by simp)
 rw [if_pos c4] at H;have c4b0 := eq_true c4;have c4b1 : decide ((ji2 : Int).toNat ≤ 35184372088832) = true := decide_eq_true c4;clear c4;obtain ⟨y102, hy_⟩ : ∃ y_ : List Int, y_ = (List.replicate (ji2 : Int).toNat 0) := ⟨_, rfl⟩;replace H : (if 0 < (y102.length : Int) then (spec_cdPlane.l0 k a0 (y102.set (0 : Int).toNat 1) 2) else (none)) = some r := rp_;have Ny102 := mk_ hy_;clear hy_;by_cases c5 : 0 < (y102.length : Int);rotate_left
 ·rw [if_neg c5] at H;exact absurd H (by simp)
 rw [if_pos c5] at H;have c5b0 : decide (0 < (y102.length : Int)) = true := decide_eq_true c5;have c5b1 : decide (0 < y102.length) = true := decide_eq_true (by omega);clear c5;obtain ⟨y105, hy_⟩ : ∃ y_ : List Int, y_ = (y102.set (0 : Int).toNat 1) := ⟨_, rfl⟩;replace H : (spec_cdPlane.l0 k a0 y105 2) = some r := rp_;have Ny105 := mk_ hy_;clear hy_;have H' := mk_ H;clear H;go_enter Tryz.func42, Tryz.ntmps42;go_wp2_with (first | ((with_reducible refine g_ 8 ?_); refine Kd.R_make (Kd.int .i64) _ 3 rfl (N := 8) rfl 46 _ _ rfl ji2 rfl rfl Tryz.underlying46 (.int .i64 0) 8 info3 rfl (by decide) (by omega) 0 (ok := fun _ => True) (okp := fun _ => True) rfl (fun _ hk => hk) trivial (od_) (Nat.le_trans (Nat.mul_le_mul_right _ (od_ : ji2.toNat ≤ 35184372088832)) (by omega)) (Below.refl _ _) (Nat.le_refl _) ?_; intro v103 w7 ho8 hb hg_ hnew_; clear hg_ hnew_; (first | rw [← Ny102.out] at ho8 | (simp only [Int.reduceToNat] at ho8; rw [← Ny102.out] at ho8)); have n0_ := mk_ (Kd.R_lower ho8 (below_size bl_)); have n1_ := mk_ (below_step bl_ hb); clear HB; have HO104 := n0_; have HB := n1_; clear n0_ n1_ hb ho8; have p6 : 0 ≤ (0 : Int) := (by omega); have q6 : (0 : Int) < ((y102.length : Int) : Int) := od_; have qi6 : (0 < y102.length) = True := eq_true (by omega); obtain ⟨go6, co6, eo6, gb6, gl6, cl6, HG6⟩ := Kd.R_form HO104.out (by omega); (first | cases eo6 | (injection eo6 with ea_ en_ ec_; (first | subst ea_ | (injection ea_ with ea_; subst ea_)); subst ec_; clear en_)); have GB6 := mk_ gb6; have GG6 := mk_ HG6; clear gb6 gl6 HG6; obtain ⟨hx6_0, hf6_0⟩ := Kd.R_celln 0 HO104.out (0 : Int) p6 q6; (try rw [show ((0 : Int)).toNat = 0 from rfl] at hx6_0); (try simp only [Nat.reduceMul, Nat.zero_mul, Nat.zero_add, Nat.reduceAdd] at hx6_0); (try rw [show ((0 : Int)).toNat = 0 from rfl] at hf6_0); (try simp only [Nat.reduceMul, Nat.zero_mul, Nat.zero_add, Nat.reduceAdd] at hf6_0); replace p6 := eq_true p6; replace q6 := eq_true q6; obtain ⟨hy9_, hz9_⟩ := Kd.R_celln 0 HO104.out (0 : Int) (by omega) (od_); (try simp only [Int.reduceToNat, Int.toNat_zero, Int.toNat_ofNat, Nat.reduceMul, Nat.zero_mul, Nat.zero_add] at hy9_ hz9_); (try rw [show ((0 : Int)).toNat = 0 from rfl] at hy9_); (try rw [show ((0 : Int)).toNat = 0 from rfl] at hz9_); have HP9 := Kd.R_putg HO104.out (0 : Int) 1) | ((with_reducible refine gate_store (t := 3) (p := 10) rfl ?_); refine store_event (t := 3) (p := 10) (v := ?vo_w10) (w1 := (w7.setCell ⟨go6, (0 : Int).toNat, none⟩ (.int .i64 1))) ?hg ?ho ?hn ?hr ?_; (case ho => rfl); (case hg => rfl); (case hn => rfl); (case hr => first | (go_simp; done) | (go_simp; rfl)); intro w10 hw; have hg : w7.grownBy w10 (some go6) := (by rw [hw]; exact HP9.2); have hp_ : Kd.R (Kd.int .i64) 3 w10 w.heap.size (fun _ => True) (.slice (some ⟨go6, 0, none⟩) y102.length co6) y105 := (by rw [hw, Ny105.out]; exact HP9.1); clear HP9; have n0_ := mk_ (hp_); have n1_ := mk_ ((by rw [hw]; exact below_set (HB.out) GB6.out : Below w.heap.size w w10)); clear HO104 HB; have HO104 := n0_; have HB := n1_; clear n0_ n1_ hg hw hp_));go_loopg [4] k (fun kq v4 w' => ∃ (x3_1 : List Int) (x4_1 : Int), v4 = .int .i64 x4_1 ∧ Aside0 (spec_cdPlane.l0 kq a0 x3_1 x4_1 = some r) ∧ Aside0 (kq ≤ k) ∧ Aside0 (Kd.R (Kd.int .i64) 3 w' w.heap.size (fun _ => True) (.slice (some ⟨go6, 0, none⟩) y102.length co6) x3_1) ∧ Aside0 (Below w.heap.size w w'))
 case atStart => exact ⟨(y105), (2), (es_), H', ⟨Nat.le_refl _⟩, ⟨by exact kr_ <| HO104.out⟩, ⟨bl_⟩⟩
 case round =>
  clear H';try clear p2
  try clear c3
  try clear c3b0
  try clear c3b1
  try clear c4
  try clear c4b0
  try clear c4b1
  try clear c5
  try clear c5b0
  try clear c5b1
  try clear p6
  try clear q6
  try clear hx6
  try clear qi6
  try clear hf6
  try clear hx6_0
  try clear p6
  try clear q6
  obtain ⟨x3_1, x4_1, rfl, HA, HK1, HO_3, HB⟩ := hrel;have hl3_1 := (Kd.R_reads' HO_3.out).1;rw [hl3_1] at HO_3;(try simp only [hl3_1])
  cases gk with
  | zero => exact absurd HA.out (by simp [spec_cdPlane.l0])
  | succ k1 =>
   have H := HA.out;clear HA;simp only [spec_cdPlane.l0] at H;by_cases c11 : x4_1 ≤ a0
   ·rw [if_pos c11] at H;have c11b0 : decide (x4_1 ≤ a0) = true := decide_eq_true c11;clear c11;have H' := mk_ H;clear H;go_wp2;go_loopg [5] k1 (fun kq v5 w' => ∃ (x3_2 : List Int) (x5_2 : Int), v5 = .int .i64 x5_2 ∧ Aside0 (spec_cdPlane.l1 kq a0 x3_2 x4_1 x5_2 = some r) ∧ Aside0 (kq ≤ k1) ∧ Aside0 (Kd.R (Kd.int .i64) 3 w' w.heap.size (fun _ => True) (.slice (some ⟨go6, 0, none⟩) x3_1.length co6) x3_2) ∧ Aside0 (Below w.heap.size w w'))
    case atStart => exact ⟨(x3_1), (1), (es_), H', ⟨Nat.le_refl _⟩, ⟨by (try simp only [hl3_1]); exact kr_ <| HO_3.out⟩, ⟨bl_⟩⟩
    case round =>
     clear H';try clear c1
     try clear p2
     try clear c3
     try clear c3b0
     try clear c3b1
     try clear c4
     try clear c4b0
     try clear c4b1
     try clear c5
     try clear c5b0
     try clear c5b1
     try clear p6
     try clear q6
     try clear hx6
     try clear qi6
     try clear hf6
     try clear c11
     try clear c11b0
     try clear hx6_0
     try clear p2
     try clear p6
     try clear q6
     obtain ⟨x3_2, x5_2, rfl, HA, HK2, HO_3, HB⟩ := hrel;have hl3_2 := (Kd.R_reads' HO_3.out).1;rw [hl3_2] at HO_3;(try simp only [hl3_2])
     cases gk with
     | zero => exact absurd HA.out (by simp [spec_cdPlane.l1])
     | succ k2 =>
      have H := HA.out;clear HA;simp only [spec_cdPlane.l1] at H;by_cases c12 : x5_2 < x4_1
      ·rw [if_pos c12] at H;have c12b0 : decide (x5_2 < x4_1) = true := decide_eq_true c12;clear c12;by_cases c13 : 0 ≤ x4_1;rotate_left
       ·rw [if_neg c13] at H;exact absurd H (by simp)
       rw [if_pos c13] at H;have c13b0 : decide (0 ≤ x4_1) = true := decide_eq_true c13;clear c13;by_cases c14 : x4_1 < (x3_2.length : Int);rotate_left
       ·rw [if_neg c14] at H;exact absurd H (by simp)
       rw [if_pos c14] at H;have c14b0 : decide (x4_1 < (x3_2.length : Int)) = true := decide_eq_true c14;clear c14;obtain ⟨ji15, hji15⟩ : ∃ j_ : Int, (wrap64 (x5_2 - 1)) = j_ := ⟨_, rfl⟩;replace H : (if 0 ≤ (ji15) then (if (ji15) < (x3_2.length : Int) then (if 0 ≤ (wrap64 ((wrap64 (x4_1 - 1)) - x5_2)) then (if (wrap64 ((wrap64 (x4_1 - 1)) - x5_2)) < (x3_2.length : Int) then (spec_cdPlane.l1 k2 a0 (x3_2.set (x4_1 : Int).toNat (wrap64 ((rd x3_2 x4_1) + (wrap64 ((rd x3_2 (ji15)) * (rd x3_2 (wrap64 ((wrap64 (x4_1 - 1)) - x5_2)))))))) x4_1 (wrap64 (x5_2 + 2))) else (none)) else (none)) else (none)) else (none)) = some r := by first | (rw [hji15] at H; exact H) | (simp only [hji15] at H ⊢; exact H)
       have hji15w : (IntKind.i64.wrap (x5_2 - 1)) = ji15 := (i64_w _).trans hji15;by_cases c16 : 0 ≤ (ji15);rotate_left
       ·rw [if_neg c16] at H;exact absurd H (by simp)
       rw [if_pos c16] at H;have c16b0 : decide (0 ≤ (ji15)) = true := decide_eq_true c16;clear c16;by_cases c17 : (ji15) < (x3_2.length : Int);rotate_left
       ·rw [if_neg c17] at H;exact absurd H (by simp)
       rw [if_pos c17] at H;have c17b0 : decide ((ji15) < (x3_2.length : Int)) = true := decide_eq_true c17;clear c17;obtain ⟨ji18, hji18⟩ : ∃ j_ : Int, (wrap64 ((wrap64 (x4_1 - 1)) - x5_2)) = j_ := ⟨_, rfl⟩;replace H : (if 0 ≤ (ji18) then (if (ji18) < (x3_2.length : Int) then (spec_cdPlane.l1 k2 a0 (x3_2.set (x4_1 : Int).toNat (wrap64 ((rd x3_2 x4_1) + (wrap64 ((rd x3_2 (ji15)) * (rd x3_2 (ji18))))))) x4_1 (wrap64 (x5_2 + 2))) else (none)) else (none)) = some r := by first | (rw [hji18] at H; exact H) | (simp only [hji18] at H ⊢; exact H)
       have hji18w : (IntKind.i64.wrap ((wrap64 (x4_1 - 1)) - x5_2)) = ji18 := (i64_w _).trans hji18;by_cases c19 : 0 ≤ (ji18);rotate_left
       ·rw [if_neg c19] at H;exact absurd H (by simp)
       rw [if_pos c19] at H;have c19b0 : decide (0 ≤ (ji18)) = true := decide_eq_true c19;clear c19;by_cases c20 : (ji18) < (x3_2.length : Int);rotate_left
       ·rw [if_neg c20] at H;exact absurd H (by simp)
       rw [if_pos c20] at H;have c20b0 : decide ((ji18) < (x3_2.length : Int)) = true := decide_eq_true c20;clear c20;obtain ⟨y109, hy_⟩ : ∃ y_ : List Int, y_ = (x3_2.set (x4_1 : Int).toNat (wrap64 ((rd x3_2 x4_1) + (wrap64 ((rd x3_2 (ji15)) * (rd x3_2 (ji18))))))) := ⟨_, rfl⟩;replace H : (spec_cdPlane.l1 k2 a0 y109 x4_1 (wrap64 (x5_2 + 2))) = some r := rp_;have Ny109 := mk_ hy_;clear hy_;have H' := mk_ H;clear H;try go_wp2
       have n0_ := mk_ (Kd.R_drew HO_3.out);have n1_ := mk_ (below_drew1 HB.out);clear HO_3 HB;have HO_3 := n0_;have HB := n1_;clear n0_ n1_;have p106 : 0 ≤ (x4_1 : Int) := od_;have q106 : x4_1 < (x3_2.length : Int) := od_;obtain ⟨ad106, e106, hx106_0⟩ := Kd.at_int (Kd.R_reads' HO_3.out).2.2 x4_1 p106 q106;obtain rfl : (⟨go6, 0, none⟩ : Addr) = ad106 := (by injection e106);(first | simp only [add_plain] at hx106_0 | simp only [add_at] at hx106_0 | simp only [Addr.add, Nat.zero_add] at hx106_0 | skip);replace p106 := eq_true p106;replace q106 := eq_true q106;have p107 : 0 ≤ ((ji15) : Int) := od_;have q107 : (ji15) < (x3_2.length : Int) := od_;obtain ⟨ad107, e107, hx107_0⟩ := Kd.at_int (Kd.R_reads' HO_3.out).2.2 (ji15) p107 q107;obtain rfl : (⟨go6, 0, none⟩ : Addr) = ad107 := (by injection e107);(first | simp only [add_plain] at hx107_0 | simp only [add_at] at hx107_0 | simp only [Addr.add, Nat.zero_add] at hx107_0 | skip);replace p107 := eq_true p107;replace q107 := eq_true q107;have p108 : 0 ≤ ((ji18) : Int) := od_;have q108 : (ji18) < (x3_2.length : Int) := od_;obtain ⟨ad108, e108, hx108_0⟩ := Kd.at_int (Kd.R_reads' HO_3.out).2.2 (ji18) p108 q108;obtain rfl : (⟨go6, 0, none⟩ : Addr) = ad108 := (by injection e108);(first | simp only [add_plain] at hx108_0 | simp only [add_at] at hx108_0 | simp only [Addr.add, Nat.zero_add] at hx108_0 | skip);replace p108 := eq_true p108;replace q108 := eq_true q108;have p21 : 0 ≤ (x4_1 : Int) := od_;have q21 : (x4_1 : Int) < ((x3_2.length : Int) : Int) := od_;obtain ⟨hx21_0, hf21_0⟩ := Kd.R_celln 0 HO_3.out (x4_1 : Int) p21 q21;replace p21 := eq_true p21;replace q21 := eq_true q21;have HP23 := Kd.R_putn HO_3.out (x4_1 : Int) (wrap64 ((rd x3_2 x4_1) + (wrap64 ((rd x3_2 (ji15)) * (rd x3_2 (ji18))))));rw [← Ny109.out] at HP23;have HQ23 := mk_ HP23;clear HP23;refine start_ (n := 20) (S := fun w' => w'.cell? ⟨go6, (x4_1).toNat, none⟩ = some (.int .i64 (rd x3_2 x4_1)) ∧ w'.cell? ⟨go6, ((ji15)).toNat, none⟩ = some (.int .i64 (rd x3_2 (ji15))) ∧ w'.cell? ⟨go6, ((ji18)).toNat, none⟩ = some (.int .i64 (rd x3_2 (ji18)))) (ds := [19]) #[false, false, false, false, false, false, false, false, false, false, false, false, false, false, false, false, false, false, false, false] (by kernel_rfl) rfl rfl ⟨hx106_0, hx107_0, hx108_0⟩ (fun hHeld => ?_); refine with_tabW spec_cdPlane.tab9 spec_cdPlane.bits9 (fun HT_ HW_ => ?_);generalize wr.drew = w22 at HO_3 HB HQ23 hf21_0 hx106_0 hx107_0 hx108_0 hx21_0 hHeld ⊢;refine pt_ 0 (some 21) HT_ ?_;refine pt_ 1 (some 22) HT_ ?_;refine pt_ 2 (some 23) HT_ ?_;refine pt_ 4 (some 25) HT_ ?_;refine pt_ 5 (some 26) HT_ ?_;refine pt_ 6 (some 27) HT_ ?_;refine pt_ 7 (some 28) HT_ ?_;refine pt_ 9 (some 30) HT_ ?_;refine pt_ 10 (some 31) HT_ ?_;refine pt_ 11 (some 32) HT_ ?_;refine pt_ 12 (some 33) HT_ ?_;refine pt_ 13 (some 34) HT_ ?_;refine pt_ 14 (some 35) HT_ ?_;refine tb3_ 3 (some 24) HT_ HW_ hHeld ?_;refine tb3_ 8 (some 29) HT_ HW_ hHeld ?_;refine tb3_ 15 (some 36) HT_ HW_ hHeld ?_;refine pt_ 16 (some 37) HT_ ?_;refine pt_ 17 (some 38) HT_ ?_;refine pt_ 18 (some 39) HT_ ?_;refine last_ (i := 19) (N := none) #[true, true, true, true, true, true, true, true, true, true, true, true, true, true, true, true, true, true, true, true] rfl rfl (one_of HT_.out (by kernel_rfl)) (by decide) (fun K hK => ?_);refine skip_ (w1 := ?_) (by rfl) rfl ?_ ?_;rotate_left
       ·go_simp;rfl
       refine hK.out _ _ ?_;clear hK K;refine done_ (done_of HT_.out (by kernel_rfl)) ?_;try go_wp2
       (try simp only [← hl3_2]);go_roundg k2
       case measure => have := HK1.out; have := HK2.out; omega
       case rel => exact ⟨(y109), (wrap64 (x5_2 + 2)), (es_), H', ⟨by have := HK1.out; have := HK2.out; omega⟩, ⟨by (try simp only [hl3_1]); (try simp only [hl3_2]); exact kr_ <| HQ23.out⟩, ⟨by repeat (first | (with_reducible first | exact HB.out | apply below_alloc | apply pw_below_drewN | apply below_drew1 | refine below_set ?_ GB6.out) | exact HB.out)⟩⟩
      ·rw [if_neg c12] at H;have c12b0 : decide (x5_2 < x4_1) = false := decide_eq_false c12;clear c12;have H' := mk_ H;clear H;go_wp2;(try simp only [← hl3_1, ← hl3_2]);go_roundg k2
       case measure => have := HK1.out; have := HK2.out; omega
       case rel => exact ⟨(x3_2), (wrap64 (x4_1 + 2)), (es_), H', ⟨by have := HK1.out; have := HK2.out; omega⟩, ⟨by (try simp only [hl3_1]); (try simp only [hl3_2]); exact kr_ <| HO_3.out⟩, ⟨bl_⟩⟩
   ·rw [if_neg c11] at H;have c11b0 : decide (x4_1 ≤ a0) = false := decide_eq_false c11;clear c11;obtain rfl := Option.some.inj H;go_wp2;go_ret;exact ⟨_, by first | rfl | (simp [errW_none, errW_some] <;> rfl) | (simp only [← hji2]; first | rfl | (simp [errW_none, errW_some] <;> rfl)) | (simp [*, errW_none, errW_some] <;> rfl), by exact kr_ <| HO_3.out, bl_⟩
def impl_within.f (a0 : Int) (a1 : Int) (a2 : Int) : Option (Bool) := if a0 ≥ a1 then (some (decide (a0 ≤ a2))) else (some false)
theorem impl_within.calls (a0 : Int) (a1 : Int) (a2 : Int) (r : Bool) (w : World) (h : impl_within.f a0 a1 a2 = some r) :
  Calls Tryz.prog 44 #[.int .i64 a0, .int .i64 a1, .int .i64 a2] w fun e w' => e = .returned (.bool r) ∧ Drawn0 w w' := by
 have H : (if a0 ≥ a1 then (some (decide (a0 ≤ a2))) else (some false)) = some r := h;clear h;by_cases c4 : a0 ≥ a1
 ·rw [if_pos c4] at H;have c4b0 : decide (a1 ≤ a0) = true := decide_eq_true c4;clear c4;obtain rfl := Option.some.inj H;go_enter Tryz.func44, Tryz.ntmps44;go_wp2;go_ret;exact ⟨es_, dr_⟩
 ·rw [if_neg c4] at H;have c4b0 : decide (a1 ≤ a0) = false := decide_eq_false c4;clear c4;obtain rfl := Option.some.inj H;go_enter Tryz.func44, Tryz.ntmps44;go_wp2;go_ret;exact ⟨es_, dr_⟩
def impl_isCircle.f (a0 : Int) : Option (Bool) := (impl_within.f a0 3 60).bind fun t110 => (some t110)
theorem impl_isCircle.calls (a0 : Int) (r : Bool) (w : World) (h : impl_isCircle.f a0 = some r) :
  Calls Tryz.prog 85 #[.int .i64 a0] w fun e w' => e = .returned (.bool r) ∧ Drawn0 w w' := by
 have H : ((impl_within.f a0 3 60).bind fun t110 => (some t110)) = some r := h;clear h;replace H := Option.bind_eq_some_iff.mp H;obtain ⟨t110, A20, H⟩ := H;try dsimp only at H
 have A2 := mk_ A20;clear A20;obtain rfl := Option.some.inj H;go_enter Tryz.func85, Tryz.ntmps85;go_wp2_with (first | (refine gd_ 4 Tryz.func44 (impl_within.calls a0 3 60 t110 _ A2.out) ?_; intro nd));go_ret;exact ⟨es_, dr_⟩
def impl_isEven.f (a0 : Int) (a1 : Int) : Option (Bool) := (impl_isCircle.f a0).bind fun t111 => (if t111 = true then (if (Int.tmod a0 2) = 0 then (some (decide (a0 ≤ a1))) else (some false)) else (some false))
theorem impl_isEven.calls (a0 : Int) (a1 : Int) (r : Bool) (w : World) (h : impl_isEven.f a0 a1 = some r) :
  Calls Tryz.prog 43 #[.int .i64 a0, .int .i64 a1] w fun e w' => e = .returned (.bool r) ∧ Drawn0 w w' := by
 have H : ((impl_isCircle.f a0).bind fun t111 => (if t111 = true then (if (Int.tmod a0 2) = 0 then (some (decide (a0 ≤ a1))) else (some false)) else (some false))) = some r := h;clear h;replace H := Option.bind_eq_some_iff.mp H;obtain ⟨t111, A30, H⟩ := H;try dsimp only at H
 have A3 := mk_ A30;clear A30;by_cases c4 : t111 = true
 ·subst c4;have H1 : (if (Int.tmod a0 2) = 0 then (some (decide (a0 ≤ a1))) else (some false)) = some r := by rw [if_pos rfl] at H; exact H
  clear H;have H := H1;clear H1;by_cases c5 : (Int.tmod a0 2) = 0
  ·rw [if_pos c5] at H;have c5b0 : ((Int.tmod a0 2) == 0) = true := beq_iff_eq.mpr c5;have c5b1 : ((Int.tmod a0 2) != 0) = false := bne_eq_false_iff_eq.mpr c5;clear c5;obtain rfl := Option.some.inj H;go_enter Tryz.func43, Tryz.ntmps43;go_wp2_with (first | (refine gd_ 6 Tryz.func85 (impl_isCircle.calls a0 true _ A3.out) ?_; intro nd));go_ret;exact ⟨es_, dr_⟩
  ·rw [if_neg c5] at H;have c5b0 : ((Int.tmod a0 2) == 0) = false := beq_eq_false_iff_ne.mpr c5;have c5b1 : ((Int.tmod a0 2) != 0) = true := bne_iff_ne.mpr c5;obtain rfl := Option.some.inj H;go_enter Tryz.func43, Tryz.ntmps43;go_wp2_with (first | (refine gd_ 6 Tryz.func85 (impl_isCircle.calls a0 true _ A3.out) ?_; intro nd));go_ret;exact ⟨es_, dr_⟩
 ·replace c4 := Bool.eq_false_iff.mpr c4;subst c4;have H1 : (some false) = some r := by rw [if_neg (show ¬ (false = true) by decide)] at H; exact H
  clear H;have H := H1;clear H1;obtain rfl := Option.some.inj H;go_enter Tryz.func43, Tryz.ntmps43;go_wp2_with (first | (refine gd_ 6 Tryz.func85 (impl_isCircle.calls a0 false _ A3.out) ?_; intro nd));go_ret;exact ⟨es_, dr_⟩
def impl_countPlane.l0 : Nat → Int → Int → Int → Option (Int)
 | 0, _, _, _ => none
 | k + 1, x0, x3, x4 => if x4 < (wrap64 (Int.tdiv x0 2)) then (if (wrap64 (x4 + 2)) = 0 then (none) else (impl_countPlane.l0 k x0 (wrap64 (Int.tdiv (wrap64 (x3 * (wrap64 ((wrap64 (4 * x4)) + 2)))) (wrap64 (x4 + 2)))) (wrap64 (x4 + 1)))) else (some x3)
def impl_countPlane.f (k : Nat) (a0 : Int) : Option (Int) := impl_countPlane.l0 k a0 1 0
theorem impl_countPlane.mono_l : ∀ k, (∀ y0 y1 y2, LeO (impl_countPlane.l0 k y0 y1 y2) (impl_countPlane.l0 (k + 1) y0 y1 y2))
 | 0 => fun _ _ _ r h => by simp [impl_countPlane.l0] at h
 | k + 1 => by
  have ih0 := impl_countPlane.mono_l k
  ·intro y0 y1 y2;unfold impl_countPlane.l0;exact lo_
theorem impl_countPlane.mono : ∀ a0 k, LeO (impl_countPlane.f k a0) (impl_countPlane.f (k + 1) a0) := by
 intro a0 k;have ih0 := impl_countPlane.mono_l k;unfold impl_countPlane.f;exact lo_
theorem impl_countPlane.calls (k : Nat) (a0 : Int) (r : Int) (w : World) (h : impl_countPlane.f k a0 = some r) :
  Calls Tryz.prog 45 #[.int .i64 a0] w fun e w' => e = .returned (.int .i64 r) ∧ Drawn0 w w' := by
 have H : (impl_countPlane.l0 k a0 1 0) = some r := h;clear h;have H' := mk_ H;clear H;go_enter Tryz.func45, Tryz.ntmps45;go_wp2;go_loopg [3, 4] k (fun kq v3 v4 w' => ∃ (x3_1 : Int) (x4_1 : Int), v3 = .int .i64 x3_1 ∧ v4 = .int .i64 x4_1 ∧ Aside0 (impl_countPlane.l0 kq a0 x3_1 x4_1 = some r) ∧ Aside0 (kq ≤ k) ∧ Drawn0 w w')
 case atStart => exact ⟨(1), (0), (es_), (es_), H', ⟨Nat.le_refl _⟩, dr_⟩
 case round =>
  clear H';obtain ⟨x3_1, x4_1, rfl, rfl, HA, HK1, ⟨m1, rfl⟩⟩ := hrel
  cases gk with
  | zero => exact absurd HA.out (by simp [impl_countPlane.l0])
  | succ k1 =>
   have H := HA.out;clear HA;simp only [impl_countPlane.l0] at H;by_cases c2 : x4_1 < (wrap64 (Int.tdiv a0 2))
   ·rw [if_pos c2] at H;have c2b0 : decide (x4_1 < (wrap64 (Int.tdiv a0 2))) = true := decide_eq_true c2;clear c2;by_cases c3 : (wrap64 (x4_1 + 2)) = 0
    ·rw [if_pos c3] at H;exact absurd H (by simp)
    ·rw [if_neg c3] at H;have c3b0 : ((wrap64 (x4_1 + 2)) == 0) = false := beq_eq_false_iff_ne.mpr c3;have c3b1 : ((wrap64 (x4_1 + 2)) != 0) = true := bne_iff_ne.mpr c3;have H' := mk_ H;clear H;go_wp2;go_roundg k1
     case measure => have := HK1.out; omega
     case rel => exact ⟨(wrap64 (Int.tdiv (wrap64 (x3_1 * (wrap64 ((wrap64 (4 * x4_1)) + 2)))) (wrap64 (x4_1 + 2)))), (wrap64 (x4_1 + 1)), (es_), (es_), H', ⟨by have := HK1.out; omega⟩, dr_⟩
   ·rw [if_neg c2] at H;have c2b0 : decide (x4_1 < (wrap64 (Int.tdiv a0 2))) = false := decide_eq_false c2;clear c2;obtain rfl := Option.some.inj H;go_wp2;go_ret;exact ⟨es_, dr_⟩
def cmp_Or_int.l0 : Nat → Int → List Int → Int → Int → Option (Int)
 | 0, _, _, _, _ => none
 | k + 1, x3, x6, x7, x8 => if x8 < x7 then (if 0 ≤ x8 then (if x8 < (x6.length : Int) then (if (rd x6 x8) = x3 then (cmp_Or_int.l0 k x3 x6 x7 (wrap64 (x8 + 1))) else (some (rd x6 x8))) else (none)) else (none)) else (some x3)
def cmp_Or_int.f (k : Nat) (l0 : List Int) : Option (Int) := cmp_Or_int.l0 k 0 l0 (l0.length : Int) 0
theorem cmp_Or_int.calls (k : Nat) (A0 : Option Addr) (c0 : Nat) (l0 : List Int) (r : Int) (w : World) (hr0 : Kd.C (Kd.int .i64) w A0 l0.length l0) (hc0 : l0.length ≤ c0) (h : cmp_Or_int.f k l0 = some r) :
  Calls Tryz.prog 101 #[.slice A0 l0.length c0] w fun e w' => e = .returned (.int .i64 r) ∧ Drawn0 w w' := by
 have HR0 := mk_ hr0;have HC0 := mk_ hc0;clear hr0 hc0;have H : (cmp_Or_int.l0 k 0 l0 (l0.length : Int) 0) = some r := h;clear h;have H' := mk_ H;clear H;go_enter Tryz.func101, Tryz.ntmps101;go_wp2;go_loopg [8] k (fun kq v8 w' => ∃ (x8_1 : Int), v8 = .int .i64 x8_1 ∧ Aside0 (cmp_Or_int.l0 kq 0 l0 (l0.length : Int) x8_1 = some r) ∧ Aside0 (kq ≤ k) ∧ Drawn0 w w')
 case atStart => exact ⟨(0), (es_), H', ⟨Nat.le_refl _⟩, dr_⟩
 case round =>
  clear H';try clear c1
  obtain ⟨x8_1, rfl, HA, HK1, ⟨m1, rfl⟩⟩ := hrel
  cases gk with
  | zero => exact absurd HA.out (by simp [cmp_Or_int.l0])
  | succ k1 =>
   have H := HA.out;clear HA;simp only [cmp_Or_int.l0] at H;by_cases c2 : x8_1 < (l0.length : Int)
   ·rw [if_pos c2] at H;have c2b0 : decide (x8_1 < (l0.length : Int)) = true := decide_eq_true c2;clear c2;by_cases c3 : 0 ≤ x8_1;rotate_left
    ·rw [if_neg c3] at H;exact absurd H (by simp)
    rw [if_pos c3] at H;have c3b0 : decide (0 ≤ x8_1) = true := decide_eq_true c3;clear c3;by_cases c4 : x8_1 < (l0.length : Int);rotate_left
    ·rw [if_neg c4] at H;exact absurd H (by simp)
    rw [if_pos c4] at H;have c4b0 : decide (x8_1 < (l0.length : Int)) = true := decide_eq_true c4;clear c4;by_cases c5 : (rd l0 x8_1) = 0
    ·rw [if_pos c5] at H;have c5b0 : ((rd l0 x8_1) == 0) = true := beq_iff_eq.mpr c5;have c5b1 : ((rd l0 x8_1) != 0) = false := bne_eq_false_iff_eq.mpr c5;clear c5;have H' := mk_ H;clear H;have p112 : 0 ≤ (x8_1 : Int) := od_;have q112 : x8_1 < (l0.length : Int) := od_;obtain ⟨ad112, e112, hx112_0⟩ := Kd.at_int HR0.out x8_1 p112 q112;cases e112;replace p112 := eq_true p112;replace q112 := eq_true q112;go_wp2;go_roundg k1
     case measure => have := HK1.out; omega
     case rel => exact ⟨(wrap64 (x8_1 + 1)), (es_), H', ⟨by have := HK1.out; omega⟩, dr_⟩
    ·rw [if_neg c5] at H;have c5b0 : ((rd l0 x8_1) == 0) = false := beq_eq_false_iff_ne.mpr c5;have c5b1 : ((rd l0 x8_1) != 0) = true := bne_iff_ne.mpr c5;obtain rfl := Option.some.inj H;have p112 : 0 ≤ (x8_1 : Int) := od_;have q112 : x8_1 < (l0.length : Int) := od_;obtain ⟨ad112, e112, hx112_0⟩ := Kd.at_int HR0.out x8_1 p112 q112;cases e112;replace p112 := eq_true p112;replace q112 := eq_true q112;go_wp2;go_ret;exact ⟨es_, dr_⟩
   ·rw [if_neg c2] at H;have c2b0 : decide (x8_1 < (l0.length : Int)) = false := decide_eq_false c2;clear c2;obtain rfl := Option.some.inj H;go_wp2;go_ret;exact ⟨es_, dr_⟩
def cmp_isNaN_int.f (a0 : Int) : Option (Bool) := some (a0 != a0)
theorem cmp_isNaN_int.calls (a0 : Int) (r : Bool) (w : World) (h : cmp_isNaN_int.f a0 = some r) :
  Calls Tryz.prog 118 #[.int .i64 a0] w fun e w' => e = .returned (.bool r) ∧ Drawn0 w w' := by
 have H : (some (a0 != a0)) = some r := h;clear h;obtain rfl := Option.some.inj H;go_enter Tryz.func118, Tryz.ntmps118;go_wp2;go_ret;exact ⟨es_, dr_⟩
def cmp_Compare_int.f (a0 : Int) (a1 : Int) : Option (Int) := (cmp_isNaN_int.f a0).bind fun t113 => ((cmp_isNaN_int.f a1).bind fun t114 => (if t113 = true then (if t114 = true then (some 0) else (some (-1))) else (if t114 = true then (some 1) else (if a0 < a1 then (some (-1)) else (if a0 > a1 then (some 1) else (some 0))))))
theorem cmp_Compare_int.calls (a0 : Int) (a1 : Int) (r : Int) (w : World) (h : cmp_Compare_int.f a0 a1 = some r) :
  Calls Tryz.prog 102 #[.int .i64 a0, .int .i64 a1] w fun e w' => e = .returned (.int .i64 r) ∧ Drawn0 w w' := by
 have H : ((cmp_isNaN_int.f a0).bind fun t113 => ((cmp_isNaN_int.f a1).bind fun t114 => (if t113 = true then (if t114 = true then (some 0) else (some (-1))) else (if t114 = true then (some 1) else (if a0 < a1 then (some (-1)) else (if a0 > a1 then (some 1) else (some 0))))))) = some r := h;clear h;replace H := Option.bind_eq_some_iff.mp H;obtain ⟨t113, A30, H⟩ := H;try dsimp only at H
 have A3 := mk_ A30;clear A30;replace H := Option.bind_eq_some_iff.mp H;obtain ⟨t114, A40, H⟩ := H;try dsimp only at H
 have A4 := mk_ A40;clear A40;by_cases c5 : t113 = true
 ·subst c5;have H1 : (if t114 = true then (some 0) else (some (-1))) = some r := by rw [if_pos rfl] at H; exact H
  clear H;have H := H1;clear H1;by_cases c6 : t114 = true
  ·subst c6;have H1 : (some 0) = some r := by rw [if_pos rfl] at H; exact H
   clear H;have H := H1;clear H1;obtain rfl := Option.some.inj H;go_enter Tryz.func102, Tryz.ntmps102;go_wp2_with (first | (refine gd_ 8 Tryz.func118 (cmp_isNaN_int.calls a0 true _ A3.out) ?_; intro nd) | (refine gd_ 10 Tryz.func118 (cmp_isNaN_int.calls a1 true _ A4.out) ?_; intro nd));go_ret;exact ⟨es_, dr_⟩
  ·replace c6 := Bool.eq_false_iff.mpr c6;subst c6;have H1 : (some (-1)) = some r := by rw [if_neg (show ¬ (false = true) by decide)] at H; exact H
   clear H;have H := H1;clear H1;obtain rfl := Option.some.inj H;go_enter Tryz.func102, Tryz.ntmps102;go_wp2_with (first | (refine gd_ 8 Tryz.func118 (cmp_isNaN_int.calls a0 true _ A3.out) ?_; intro nd) | (refine gd_ 10 Tryz.func118 (cmp_isNaN_int.calls a1 false _ A4.out) ?_; intro nd));go_ret;exact ⟨es_, dr_⟩
 ·replace c5 := Bool.eq_false_iff.mpr c5;subst c5;have H1 : (if t114 = true then (some 1) else (if a0 < a1 then (some (-1)) else (if a0 > a1 then (some 1) else (some 0)))) = some r := by rw [if_neg (show ¬ (false = true) by decide)] at H; exact H
  clear H;have H := H1;clear H1;by_cases c7 : t114 = true
  ·subst c7;have H1 : (some 1) = some r := by rw [if_pos rfl] at H; exact H
   clear H;have H := H1;clear H1;obtain rfl := Option.some.inj H;go_enter Tryz.func102, Tryz.ntmps102;go_wp2_with (first | (refine gd_ 8 Tryz.func118 (cmp_isNaN_int.calls a0 false _ A3.out) ?_; intro nd) | (refine gd_ 10 Tryz.func118 (cmp_isNaN_int.calls a1 true _ A4.out) ?_; intro nd));go_ret;exact ⟨es_, dr_⟩
  ·replace c7 := Bool.eq_false_iff.mpr c7;subst c7;have H1 : (if a0 < a1 then (some (-1)) else (if a0 > a1 then (some 1) else (some 0))) = some r := by rw [if_neg (show ¬ (false = true) by decide)] at H; exact H
   clear H;have H := H1;clear H1;by_cases c8 : a0 < a1
   ·rw [if_pos c8] at H;have c8b0 : decide (a0 < a1) = true := decide_eq_true c8;clear c8;obtain rfl := Option.some.inj H;go_enter Tryz.func102, Tryz.ntmps102;go_wp2_with (first | (refine gd_ 8 Tryz.func118 (cmp_isNaN_int.calls a0 false _ A3.out) ?_; intro nd) | (refine gd_ 10 Tryz.func118 (cmp_isNaN_int.calls a1 false _ A4.out) ?_; intro nd));go_ret;exact ⟨es_, dr_⟩
   ·rw [if_neg c8] at H;have c8b0 : decide (a0 < a1) = false := decide_eq_false c8;clear c8;by_cases c9 : a0 > a1
    ·rw [if_pos c9] at H;have c9b0 : decide (a1 < a0) = true := decide_eq_true c9;clear c9;obtain rfl := Option.some.inj H;go_enter Tryz.func102, Tryz.ntmps102;go_wp2_with (first | (refine gd_ 8 Tryz.func118 (cmp_isNaN_int.calls a0 false _ A3.out) ?_; intro nd) | (refine gd_ 10 Tryz.func118 (cmp_isNaN_int.calls a1 false _ A4.out) ?_; intro nd));go_ret;exact ⟨es_, dr_⟩
    ·rw [if_neg c9] at H;have c9b0 : decide (a1 < a0) = false := decide_eq_false c9;clear c9;obtain rfl := Option.some.inj H;go_enter Tryz.func102, Tryz.ntmps102;go_wp2_with (first | (refine gd_ 8 Tryz.func118 (cmp_isNaN_int.calls a0 false _ A3.out) ?_; intro nd) | (refine gd_ 10 Tryz.func118 (cmp_isNaN_int.calls a1 false _ A4.out) ?_; intro nd));go_ret;exact ⟨es_, dr_⟩
def impl_compareChords.f (k : Nat) (a0_0 : Int) (a0_1 : Int) (a1_0 : Int) (a1_1 : Int) : Option (Int) := (cmp_Compare_int.f a0_0 a1_0).bind fun t117 => ((cmp_Compare_int.f a0_1 a1_1).bind fun t118 => ((cmp_Or_int.f k (([t117, t118] : List Int))).bind fun t122 => (some t122)))
def impl_compareChords.T1 : Bool × List (List Nat × List Nat) := (true, [([], []), ([0], [0]), ([], []), ([2], [2]), ([1, 3], [1, 3]), ([], []), ([5], [5]), ([], []), ([7], [7]), ([6, 8, 4], [6, 8]), ([4, 9], [4, 9]), ([10, 9], [10]), ([11, 11, 0, 1, 2, 3, 4, 5, 6, 7, 8, 9, 10, 11], [11])])
def impl_compareChords.B1 : List Nat := [0, 1, 0, 4, 15, 0, 32, 0, 128, 511, 1023, 2047, 4095]
theorem impl_compareChords.tab1 : rtab .any (opsOf Tryz.f67 1) = impl_compareChords.T1 := by kernel_rfl
theorem impl_compareChords.bits1 : waitsOk impl_compareChords.T1.2 impl_compareChords.B1 = true := by kernel_rfl
theorem impl_compareChords.calls (k : Nat) (a0_0 : Int) (a0_1 : Int) (a1_0 : Int) (a1_1 : Int) (r : Int) (w : World) (h : impl_compareChords.f k a0_0 a0_1 a1_0 a1_1 = some r) :
  Calls Tryz.prog 67 #[.agg #[.int .i64 a0_0, .int .i64 a0_1], .agg #[.int .i64 a1_0, .int .i64 a1_1]] w fun e w' => e = .returned (.int .i64 r) ∧ Below w.heap.size w w' := by
 have hu39 := Tryz.underlying39;have HB := mk_ (Below.refl w.heap.size w);have H : ((cmp_Compare_int.f a0_0 a1_0).bind fun t117 => ((cmp_Compare_int.f a0_1 a1_1).bind fun t118 => ((cmp_Or_int.f k (([t117, t118] : List Int))).bind fun t122 => (some t122)))) = some r := h;clear h;replace H := Option.bind_eq_some_iff.mp H;obtain ⟨t117, A30, H⟩ := H;try dsimp only at H
 have A3 := mk_ A30;clear A30;replace H := Option.bind_eq_some_iff.mp H;obtain ⟨t118, A40, H⟩ := H;try dsimp only at H
 have A4 := mk_ A40;clear A40;obtain ⟨y119, hy_⟩ : ∃ y_ : List Int, y_ = (([t117, t118] : List Int)) := ⟨_, rfl⟩;replace H : ((cmp_Or_int.f k y119).bind fun t122 => (some t122)) = some r := rp_;have Ny119 := mk_ hy_;clear hy_;replace H := Option.bind_eq_some_iff.mp H;obtain ⟨t122, A50, H⟩ := H;try dsimp only at H
 have A5 := mk_ A50;clear A50;obtain rfl := Option.some.inj H;go_enter Tryz.func67, Tryz.ntmps67;try go_wp2_with (first | ((with_reducible refine g_ 2 ?_); refine bx_ 2 #[.int .i64 a0_0, .int .i64 a0_1] 39 ?_; intro gb115 hg w6 hbox hb; have n0_ := mk_ (below_step bl_ hb); have n1_ := mk_ (hbox); have n2_ := mk_ ((by rw [hg]; exact (below_size bl_) : w.heap.size ≤ gb115)); have n3_ := n2_; clear HB; have HB := n0_; have BK115 := n1_; have GW115 := n2_; have GE115 := n3_; clear n0_ n1_ n2_ n3_ hb hbox hg) | ((with_reducible refine g_ 3 ?_); refine bx_ 3 #[.int .i64 a1_0, .int .i64 a1_1] 39 ?_; intro gb116 hg w7 hbox hb; have n0_ := mk_ (blk_below (g := gb115) (o := .cells #[.int .i64 a0_0, .int .i64 a0_1] 39 (0, 0)) kb_ hb); have n1_ := mk_ (below_step bg_ hb); have n2_ := mk_ (hbox); have n3_ := mk_ ((by rw [hg]; exact (below_size bg_) : w.heap.size ≤ gb116)); have n4_ := n3_; have n5_ := mk_ ((by rw [hg]; exact Nat.ne_of_lt (blk_lt (g := gb115) (o := .cells #[.int .i64 a0_0, .int .i64 a0_1] 39 (0, 0)) kb_) : gb115 ≠ gb116)); have n6_ := mk_ ((by rw [hg]; exact Nat.ne_of_gt (blk_lt (g := gb115) (o := .cells #[.int .i64 a0_0, .int .i64 a0_1] 39 (0, 0)) kb_) : gb116 ≠ gb115)); clear BK115 HB; have BK115 := n0_; have HB := n1_; have BK116 := n2_; have GW116 := n3_; have GE116 := n4_; have NB115_116 := n5_; have NB116_115 := n6_; clear n0_ n1_ n2_ n3_ n4_ n5_ n6_ hb hbox hg))
 have n0_ := mk_ (blk_drew BK115.out);have n1_ := mk_ (blk_drew BK116.out);have n2_ := mk_ (below_drew1 HB.out);clear BK115 BK116 HB;have BK115 := n0_;have BK116 := n1_;have HB := n2_;clear n0_ n1_ n2_;refine start_ (n := 13) (S := fun w' => w'.cell? ⟨gb115, 0, none⟩ = some (.int .i64 a0_0) ∧ w'.cell? ⟨gb115, 1, none⟩ = some (.int .i64 a0_1) ∧ w'.cell? ⟨gb116, 0, none⟩ = some (.int .i64 a1_0) ∧ w'.cell? ⟨gb116, 1, none⟩ = some (.int .i64 a1_1)) (ds := []) #[false, false, false, false, false, false, false, false, false, false, false, false, false] (by kernel_rfl) rfl rfl ⟨(blk_cell BK115.out 0).trans rfl, (blk_cell BK115.out 1).trans rfl, (blk_cell BK116.out 0).trans rfl, (blk_cell BK116.out 1).trans rfl⟩ (fun hHeld => ?_); refine with_tabW impl_compareChords.tab1 impl_compareChords.bits1 (fun HT_ HW_ => ?_);generalize w7.drew = w8 at BK115 BK116 HB hHeld ⊢;refine pt_ 0 (some 5) HT_ ?_;refine pt_ 2 (some 7) HT_ ?_;refine pt_ 5 (some 10) HT_ ?_;refine pt_ 7 (some 12) HT_ ?_;refine tb4_ 1 (some 6) HT_ HW_ hHeld ?_;refine tb4_ 3 (some 8) HT_ HW_ hHeld ?_;refine tb4_ 6 (some 11) HT_ HW_ hHeld ?_;refine tb4_ 8 (some 13) HT_ HW_ hHeld ?_;refine one_ (i := 4) (N := some 9) #[true, true, true, true, true, true, true, true, true, false, false, false, false] rfl rfl (one_of HT_.out (by kernel_rfl)) (by decide) (fun K hK => ?_);refine goes_ Tryz.func102 (by kernel_rfl) rfl #[.int .i64 a0_0, .int .i64 a1_0] (by rfl) rfl rfl ma_ ?_;with_reducible refine (cmp_Compare_int.calls a0_0 a1_0 t117 _ A3.out).mono ?_
 rintro e w' ⟨rfl, ⟨nd, rfl⟩⟩;refine ⟨_, rfl, ?_⟩;refine hK.out _ _ ⟨(blk_cell BK115.out 0).trans rfl, (blk_cell BK115.out 1).trans rfl, (blk_cell BK116.out 0).trans rfl, (blk_cell BK116.out 1).trans rfl⟩ (fun hHeld => ?_);clear hK K;refine nm_ (some 9) ?_;refine one_ (i := 9) (N := some 14) #[true, true, true, true, true, true, true, true, true, true, false, false, false] rfl rfl (one_of HT_.out (by kernel_rfl)) (by decide) (fun K hK => ?_);refine goes_ Tryz.func102 (by kernel_rfl) rfl #[.int .i64 a0_1, .int .i64 a1_1] (by rfl) rfl rfl ma_ ?_;with_reducible refine (cmp_Compare_int.calls a0_1 a1_1 t118 _ A4.out).mono ?_
 rintro e w' ⟨rfl, ⟨nd, rfl⟩⟩;refine ⟨_, rfl, ?_⟩;refine hK.out _ _ ⟨(blk_cell BK115.out 0).trans rfl, (blk_cell BK115.out 1).trans rfl, (blk_cell BK116.out 0).trans rfl, (blk_cell BK116.out 1).trans rfl⟩ (fun hHeld => ?_);clear hK K;refine nm_ (some 14) ?_;refine one_ (i := 10) (N := some 15) #[true, true, true, true, true, true, true, true, true, true, true, false, false] rfl rfl (one_of HT_.out (by kernel_rfl)) (by decide) (fun K hK => ?_);refine Kd.R_lit_step (Kd.int .i64) _ 3 ?hg (N := 15) ?hd (xs := ([t117, t118] : List Int)) (inner := [.int .i64 t117, .int .i64 t118]) (ok := fun _ => True) (okp := fun _ => True) ?hr ?hp (fun _ hk => hk) trivial (Below.refl _ _) (Nat.le_refl _) (by simp) ?_; (case hd => rfl); (case hg => rfl); (case hr => first | (go_simp; done) | (go_simp; rfl)); (case hp => exact (Reps.one (show Kd.M (Kd.int .i64) _ _ _ t117 [.int .i64 t117] from rfl) (Reps.one (show Kd.M (Kd.int .i64) _ _ _ t118 [.int .i64 t118] from rfl) (Reps.none _ _))));intro v120 w9 ho10 hb hg_ hnew_;clear hg_ hnew_;(first | rw [← Ny119.out] at ho10 | (simp only [Int.reduceToNat] at ho10; rw [← Ny119.out] at ho10));have n0_ := mk_ (Kd.R_lower ho10 (below_size bg_));have n1_ := mk_ (blk_below (g := gb115) (o := .cells #[.int .i64 a0_0, .int .i64 a0_1] 39 (0, 0)) kb_ hb);have n2_ := mk_ (blk_below (g := gb116) (o := .cells #[.int .i64 a1_0, .int .i64 a1_1] 39 (0, 0)) kb_ hb);have n3_ := mk_ (below_step bg_ hb);clear BK115 BK116 HB;have HO121 := n0_;have BK115 := n1_;have BK116 := n2_;have HB := n3_;clear n0_ n1_ n2_ n3_ hb ho10;obtain ⟨Ao11, co11, eo11⟩ := Kd.R_slice HO121.out;(first | subst eo11 | (injection eo11 with f1_ f2_ f3_; have f4_ := f1_.symm; have f5_ := f3_.symm; clear f1_ f2_ f3_; subst f4_; subst f5_));refine hK.out _ _ ⟨(blk_cell BK115.out 0).trans rfl, (blk_cell BK115.out 1).trans rfl, (blk_cell BK116.out 0).trans rfl, (blk_cell BK116.out 1).trans rfl⟩ (fun hHeld => ?_);clear hK K;refine nm_ (some 15) ?_;refine one_ (i := 11) (N := some 16) #[true, true, true, true, true, true, true, true, true, true, true, true, false] rfl rfl (one_of HT_.out (by kernel_rfl)) (by decide) (fun K hK => ?_);refine goes_ Tryz.func101 (by kernel_rfl) rfl #[.slice Ao11 y119.length co11] (by rfl) rfl rfl ma_ ?_;with_reducible refine (cmp_Or_int.calls k _ _ y119 t122 _ ?side1 ?side2 A5.out).mono ?_
 (case side1 => exact kc_ <| (Kd.R_reads' HO121.out).2.2);(case side2 => exact (Kd.R_reads' HO121.out).2.1);rintro e w' ⟨rfl, ⟨nd, rfl⟩⟩;refine ⟨_, rfl, ?_⟩;refine hK.out _ _ ⟨(blk_cell BK115.out 0).trans rfl, (blk_cell BK115.out 1).trans rfl, (blk_cell BK116.out 0).trans rfl, (blk_cell BK116.out 1).trans rfl⟩ (fun hHeld => ?_);clear hK K;refine nm_ (some 16) ?_;refine pt_ 12 (some 4) HT_ ?_;refine done_ (done_of HT_.out (by kernel_rfl)) ?_;try go_wp2
 go_ret;exact ⟨ew_, bg_⟩
theorem eqA39 (d : Nat) (w : World) (x0 y0 : Int) (x1 y1 : Int) :
  (Op.equalIn (d + 2) 39 (.agg #[.int .i64 x0, .int .i64 x1]) (.agg #[.int .i64 y0, .int .i64 y1])).run Tryz.prog w = .ok (x0 == y0 && (x1 == y1)) w := by
 refine eqA_of Tryz.underlying39 (by kernel_rfl) ?_;refine eqf_cons (by rfl) (by go_simp; rfl) (by go_simp; rfl) (by go_simp) ?_;exact eqf_last (by rfl) (by go_simp; rfl) (by go_simp; rfl) (by go_simp)
end Go.Proofs.YtnofekfoonmedaaGreatDoor.X
end
section
namespace Go.Proofs.YtnofekfoonmedaaGreatDoor.X
open Go.RowKit Go.Proofs.YtnofekfoonmedaaGreatDoorW.PrintWords Go.Proofs.YtnofekfoonmedaaGreatDoorW.PrintLast Go.Proofs.YtnofekfoonmedaaGreatDoorW.PrintMore
attribute [local go_sem] max2_int min2_int max_two min_two max_three min_three max_four min_four
set_option linter.unusedVariables false
set_option linter.unusedSimpArgs false
attribute [local go_sem high] eqA39
def laws_gChords.l0 : Nat → List (S39) → List (S39) → Int → Int → Option (Bool)
 | 0, _, _, _, _ => none
 | k + 1, x0, x1, x12, x13 => if x13 < x12 then (if 0 ≤ x13 then (if x13 < (x0.length : Int) then (if x13 < (x1.length : Int) then (if (!(((rd_T39 x0 x13).f0) == ((rd_T39 x1 x13).f0)) || (!(((rd_T39 x0 x13).f1) == ((rd_T39 x1 x13).f1)))) = true then (some false) else (laws_gChords.l0 k x0 x1 x12 (wrap64 (x13 + 1)))) else (none)) else (none)) else (none)) else (some true)
def laws_gChords.f (k : Nat) (l0 : List (S39)) (l1 : List (S39)) : Option (Bool) := if (l0.length : Int) = (l1.length : Int) then (laws_gChords.l0 k l0 l1 (l0.length : Int) 0) else (some false)
theorem laws_gChords.calls (k : Nat) (A0 : Option Addr) (c0 : Nat) (l0 : List (S39)) (A1 : Option Addr) (c1 : Nat) (l1 : List (S39)) (r : Bool) (w : World) (hr0 : Kd.C k39 w A0 l0.length l0) (hc0 : l0.length ≤ c0) (hr1 : Kd.C k39 w A1 l1.length l1) (hc1 : l1.length ≤ c1) (h : laws_gChords.f k l0 l1 = some r) :
  Calls Tryz.prog 10 #[.slice A0 l0.length c0, .slice A1 l1.length c1] w fun e w' => e = .returned (.bool r) ∧ Drawn0 w w' := by
 have hu39 := Tryz.underlying39;have HR0 := mk_ hr0;have HC0 := mk_ hc0;clear hr0 hc0;have HR1 := mk_ hr1;have HC1 := mk_ hc1;clear hr1 hc1;have H : (if (l0.length : Int) = (l1.length : Int) then (laws_gChords.l0 k l0 l1 (l0.length : Int) 0) else (some false)) = some r := h;clear h;by_cases c3 : (l0.length : Int) = (l1.length : Int)
 ·rw [if_pos c3] at H;have c3b0 : ((l0.length : Int) == (l1.length : Int)) = true := beq_iff_eq.mpr c3;have c3b1 : ((l0.length : Int) != (l1.length : Int)) = false := bne_eq_false_iff_eq.mpr c3;have c3b2 : (l0.length == l1.length) = true := by first | simpa using c3 | (simp at c3 ⊢; omega)
  clear c3;have H' := mk_ H;clear H;go_enter Tryz.func10, Tryz.ntmps10;go_wp2;repeat (go_quiet (fail); try go_wp2)
  go_loopg [13] k (fun kq v13 w' => ∃ (x13_1 : Int), v13 = .int .i64 x13_1 ∧ Aside0 (laws_gChords.l0 kq l0 l1 (l0.length : Int) x13_1 = some r) ∧ Aside0 (kq ≤ k) ∧ Drawn0 w w')
  case atStart => exact ⟨(0), (es_), H', ⟨Nat.le_refl _⟩, dr_⟩
  case round =>
   clear H';try clear c1
   try clear p2
   try clear c3
   try clear c3b0
   try clear c3b1
   try clear c3b2
   obtain ⟨x13_1, rfl, HA, HK1, ⟨m1, rfl⟩⟩ := hrel
   cases gk with
   | zero => exact absurd HA.out (by simp [laws_gChords.l0])
   | succ k1 =>
    have H := HA.out;clear HA;simp only [laws_gChords.l0] at H;by_cases c4 : x13_1 < (l0.length : Int)
    ·rw [if_pos c4] at H;have c4b0 : decide (x13_1 < (l0.length : Int)) = true := decide_eq_true c4;clear c4;by_cases c5 : 0 ≤ x13_1;rotate_left
     ·rw [if_neg c5] at H;exact absurd H (by simp)
     rw [if_pos c5] at H;have c5b0 : decide (0 ≤ x13_1) = true := decide_eq_true c5;clear c5;by_cases c6 : x13_1 < (l0.length : Int);rotate_left
     ·rw [if_neg c6] at H;exact absurd H (by simp)
     rw [if_pos c6] at H;have c6b0 : decide (x13_1 < (l0.length : Int)) = true := decide_eq_true c6;clear c6;by_cases c7 : x13_1 < (l1.length : Int);rotate_left
     ·rw [if_neg c7] at H;exact absurd H (by simp)
     rw [if_pos c7] at H;have c7b0 : decide (x13_1 < (l1.length : Int)) = true := decide_eq_true c7;clear c7;by_cases c8 : (!(((rd_T39 l0 x13_1).f0) == ((rd_T39 l1 x13_1).f0)) || (!(((rd_T39 l0 x13_1).f1) == ((rd_T39 l1 x13_1).f1)))) = true
     ·rw [if_pos c8] at H;have c8b0 : (!(((rd_T39 l0 x13_1).f0) == ((rd_T39 l1 x13_1).f0)) || (!(((rd_T39 l0 x13_1).f1) == ((rd_T39 l1 x13_1).f1)))) = true := c8;clear c8;obtain rfl := Option.some.inj H;have p198 : 0 ≤ (x13_1 : Int) := od_;have q198 : x13_1 < (l0.length : Int) := od_;obtain ⟨ad198, e198, hx198_0, hx198_1⟩ := at_T39 HR0.out x13_1 p198 q198;cases e198;replace p198 := eq_true p198;replace q198 := eq_true q198;have p199 : 0 ≤ (x13_1 : Int) := od_;have q199 : x13_1 < (l1.length : Int) := od_;obtain ⟨ad199, e199, hx199_0, hx199_1⟩ := at_T39 HR1.out x13_1 p199 q199;cases e199;replace p199 := eq_true p199;replace q199 := eq_true q199;go_wp2;repeat (go_quiet (fail); try go_wp2)
      go_ret;exact ⟨es_, dr_⟩
     ·rw [if_neg c8] at H;have c8b0 : (!(((rd_T39 l0 x13_1).f0) == ((rd_T39 l1 x13_1).f0)) || (!(((rd_T39 l0 x13_1).f1) == ((rd_T39 l1 x13_1).f1)))) = false := by simpa using c8
      clear c8;have H' := mk_ H;clear H;have p198 : 0 ≤ (x13_1 : Int) := od_;have q198 : x13_1 < (l0.length : Int) := od_;obtain ⟨ad198, e198, hx198_0, hx198_1⟩ := at_T39 HR0.out x13_1 p198 q198;cases e198;replace p198 := eq_true p198;replace q198 := eq_true q198;have p199 : 0 ≤ (x13_1 : Int) := od_;have q199 : x13_1 < (l1.length : Int) := od_;obtain ⟨ad199, e199, hx199_0, hx199_1⟩ := at_T39 HR1.out x13_1 p199 q199;cases e199;replace p199 := eq_true p199;replace q199 := eq_true q199;go_wp2;repeat (go_quiet (fail); try go_wp2)
      go_roundg k1
      case measure => have := HK1.out; omega
      case rel => exact ⟨(wrap64 (x13_1 + 1)), (es_), H', ⟨by have := HK1.out; omega⟩, dr_⟩
    ·rw [if_neg c4] at H;have c4b0 : decide (x13_1 < (l0.length : Int)) = false := decide_eq_false c4;clear c4;obtain rfl := Option.some.inj H;go_wp2;repeat (go_quiet (fail); try go_wp2)
     go_ret;exact ⟨es_, dr_⟩
 ·rw [if_neg c3] at H;have c3b0 : ((l0.length : Int) == (l1.length : Int)) = false := beq_eq_false_iff_ne.mpr c3;have c3b1 : ((l0.length : Int) != (l1.length : Int)) = true := bne_iff_ne.mpr c3;have c3b2 : (l0.length == l1.length) = false := by first | simpa using c3 | (simp at c3 ⊢; omega)
  obtain rfl := Option.some.inj H;go_enter Tryz.func10, Tryz.ntmps10;go_wp2;repeat (go_quiet (fail); try go_wp2)
  go_ret;exact ⟨es_, dr_⟩
def impl_isChord.f (a0 : Int) (a1_0 : Int) (a1_1 : Int) : Option (Bool) := if a1_0 ≥ 0 then (if a1_0 < a1_1 then (some (decide (a1_1 < a0))) else (some false)) else (some false)
theorem impl_isChord.calls (a0 : Int) (a1_0 : Int) (a1_1 : Int) (r : Bool) (w : World) (h : impl_isChord.f a0 a1_0 a1_1 = some r) :
  Calls Tryz.prog 68 #[.int .i64 a0, .agg #[.int .i64 a1_0, .int .i64 a1_1]] w fun e w' => e = .returned (.bool r) ∧ Below w.heap.size w w' := by
 have hu39 := Tryz.underlying39;have HB := mk_ (Below.refl w.heap.size w);have H : (if a1_0 ≥ 0 then (if a1_0 < a1_1 then (some (decide (a1_1 < a0))) else (some false)) else (some false)) = some r := h;clear h;by_cases c3 : a1_0 ≥ 0
 ·rw [if_pos c3] at H;have c3b0 : decide (0 ≤ a1_0) = true := decide_eq_true c3;clear c3;by_cases c4 : a1_0 < a1_1
  ·rw [if_pos c4] at H;have c4b0 : decide (a1_0 < a1_1) = true := decide_eq_true c4;clear c4;obtain rfl := Option.some.inj H;go_enter Tryz.func68, Tryz.ntmps68;go_wp2_with (first | ((with_reducible refine g_ 3 ?_); refine bx_ 3 #[.int .i64 a1_0, .int .i64 a1_1] 39 ?_; intro gb200 hg w5 hbox hb; have n0_ := mk_ (below_step bl_ hb); have n1_ := mk_ (hbox); have n2_ := mk_ ((by rw [hg]; exact (below_size bl_) : w.heap.size ≤ gb200)); have n3_ := n2_; clear HB; have HB := n0_; have BK200 := n1_; have GW200 := n2_; have GE200 := n3_; clear n0_ n1_ n2_ n3_ hb hbox hg; have hcz6_0 : w5.cell? ⟨gb200, 0, none⟩ = some (.int .i64 a1_0) := (blk_cell BK200.out 0).trans rfl; have hcz6_1 : w5.cell? ⟨gb200, 1, none⟩ = some (.int .i64 a1_1) := (blk_cell BK200.out 1).trans rfl; have hfz6_0 := blk_frozen BK200.out 0; have hfz6_1 := blk_frozen BK200.out 1));go_ret;exact ⟨ew_, bg_⟩
  ·rw [if_neg c4] at H;have c4b0 : decide (a1_0 < a1_1) = false := decide_eq_false c4;clear c4;obtain rfl := Option.some.inj H;go_enter Tryz.func68, Tryz.ntmps68;go_wp2_with (first | ((with_reducible refine g_ 3 ?_); refine bx_ 3 #[.int .i64 a1_0, .int .i64 a1_1] 39 ?_; intro gb200 hg w7 hbox hb; have n0_ := mk_ (below_step bl_ hb); have n1_ := mk_ (hbox); have n2_ := mk_ ((by rw [hg]; exact (below_size bl_) : w.heap.size ≤ gb200)); have n3_ := n2_; clear HB; have HB := n0_; have BK200 := n1_; have GW200 := n2_; have GE200 := n3_; clear n0_ n1_ n2_ n3_ hb hbox hg; have hcz8_0 : w7.cell? ⟨gb200, 0, none⟩ = some (.int .i64 a1_0) := (blk_cell BK200.out 0).trans rfl; have hcz8_1 : w7.cell? ⟨gb200, 1, none⟩ = some (.int .i64 a1_1) := (blk_cell BK200.out 1).trans rfl; have hfz8_0 := blk_frozen BK200.out 0; have hfz8_1 := blk_frozen BK200.out 1));go_ret;exact ⟨ew_, bg_⟩
 ·rw [if_neg c3] at H;have c3b0 : decide (0 ≤ a1_0) = false := decide_eq_false c3;clear c3;obtain rfl := Option.some.inj H;go_enter Tryz.func68, Tryz.ntmps68;go_wp2_with (first | ((with_reducible refine g_ 3 ?_); refine bx_ 3 #[.int .i64 a1_0, .int .i64 a1_1] 39 ?_; intro gb200 hg w9 hbox hb; have n0_ := mk_ (below_step bl_ hb); have n1_ := mk_ (hbox); have n2_ := mk_ ((by rw [hg]; exact (below_size bl_) : w.heap.size ≤ gb200)); have n3_ := n2_; clear HB; have HB := n0_; have BK200 := n1_; have GW200 := n2_; have GE200 := n3_; clear n0_ n1_ n2_ n3_ hb hbox hg; have hcz10_0 : w9.cell? ⟨gb200, 0, none⟩ = some (.int .i64 a1_0) := (blk_cell BK200.out 0).trans rfl; have hcz10_1 : w9.cell? ⟨gb200, 1, none⟩ = some (.int .i64 a1_1) := (blk_cell BK200.out 1).trans rfl; have hfz10_0 := blk_frozen BK200.out 0; have hfz10_1 := blk_frozen BK200.out 1));go_ret;exact ⟨ew_, bg_⟩
end Go.Proofs.YtnofekfoonmedaaGreatDoor.X
end
section
namespace Go.Proofs.YtnofekfoonmedaaGreatDoor.X
open Go.RowKit Go.Proofs.YtnofekfoonmedaaGreatDoorW.PrintWords Go.Proofs.YtnofekfoonmedaaGreatDoorW.PrintLast Go.Proofs.YtnofekfoonmedaaGreatDoorW.PrintMore
attribute [local go_sem] max2_int min2_int max_two min_two max_three min_three max_four min_four
set_option linter.unusedVariables false
set_option linter.unusedSimpArgs false
def impl_AreChords.l0 : Nat → Int → List (S39) → List (S39) → Int → Int → Option (Bool)
 | 0, _, _, _, _, _ => none
 | k + 1, x0, x1, x10, x11, x12 => if x12 < x11 then (if 0 ≤ x12 then (if x12 < (x10.length : Int) then ((impl_isChord.f x0 ((rd_T39 x10 x12).f0) ((rd_T39 x10 x12).f1)).bind fun t204 => (if t204 = true then (if x12 > 0 then (if 0 ≤ (wrap64 (x12 - 1)) then (if (wrap64 (x12 - 1)) < (x1.length : Int) then ((impl_compareChords.f k ((rd_T39 x1 (wrap64 (x12 - 1))).f0) ((rd_T39 x1 (wrap64 (x12 - 1))).f1) ((rd_T39 x10 x12).f0) ((rd_T39 x10 x12).f1)).bind fun t206 => (if t206 ≥ 0 then (some false) else (impl_AreChords.l0 k x0 x1 x10 x11 (wrap64 (x12 + 1))))) else (none)) else (none)) else (impl_AreChords.l0 k x0 x1 x10 x11 (wrap64 (x12 + 1)))) else (some false))) else (none)) else (none)) else (some (decide ((x1.length : Int) ≤ 40)))
def impl_AreChords.f (k : Nat) (a0 : Int) (l1 : List (S39)) : Option (Bool) := (impl_within.f a0 3 60).bind fun t201 => (if t201 = true then (impl_AreChords.l0 k a0 l1 l1 (l1.length : Int) 0) else (some false))
def impl_AreChords.T6 : Bool × List (List Nat × List Nat) := (true, [([], []), ([], []), ([0, 1], [0, 1]), ([2], [2]), ([3, 2], [3]), ([4], [4]), ([5, 4], [4, 5]), ([6, 4, 4], [4, 6]), ([7], [7]), ([7], [7]), ([9, 7], [7, 9]), ([8, 10, 7], [7, 8, 10]), ([11, 7], [7, 11]), ([7], [7]), ([12, 13, 7, 7], [7, 12, 13]), ([14, 7], [7, 14]), ([7, 15, 4], [4, 7, 15]), ([4, 16], [4, 16])])
def impl_AreChords.B6 : List Nat := [0, 0, 3, 7, 15, 31, 63, 127, 255, 255, 767, 2047, 4095, 255, 16383, 32767, 65535, 131071]
theorem impl_AreChords.tab6 : rtab .any (opsOf Tryz.f36 6) = impl_AreChords.T6 := by kernel_rfl
theorem impl_AreChords.bits6 : waitsOk impl_AreChords.T6.2 impl_AreChords.B6 = true := by kernel_rfl
theorem impl_AreChords.calls (k : Nat) (a0 : Int) (A1 : Option Addr) (c1 : Nat) (l1 : List (S39)) (r : Bool) (w : World) (hr1 : Kd.C k39 w A1 l1.length l1) (hc1 : l1.length ≤ c1) (h : impl_AreChords.f k a0 l1 = some r) :
  Calls Tryz.prog 36 #[.int .i64 a0, .slice A1 l1.length c1] w fun e w' => e = .returned (.bool r) ∧ Below w.heap.size w w' := by
 have hu39 := Tryz.underlying39;have HR1 := mk_ hr1;have HC1 := mk_ hc1;clear hr1 hc1;have HB := mk_ (Below.refl w.heap.size w);have H : ((impl_within.f a0 3 60).bind fun t201 => (if t201 = true then (impl_AreChords.l0 k a0 l1 l1 (l1.length : Int) 0) else (some false))) = some r := h;clear h;replace H := Option.bind_eq_some_iff.mp H;obtain ⟨t201, A30, H⟩ := H;try dsimp only at H
 have A3 := mk_ A30;clear A30;by_cases c4 : t201 = true
 ·subst c4;have H1 : (impl_AreChords.l0 k a0 l1 l1 (l1.length : Int) 0) = some r := by rw [if_pos rfl] at H; exact H
  clear H;have H := H1;clear H1;have H' := mk_ H;clear H;go_enter Tryz.func36, Tryz.ntmps36;go_wp2_with (first | (refine gd_ 8 Tryz.func44 (impl_within.calls a0 3 60 true _ A3.out) ?_; intro nd));go_loopg [12] k (fun kq v12 w' => ∃ (x12_1 : Int), v12 = .int .i64 x12_1 ∧ Aside0 (impl_AreChords.l0 kq a0 l1 l1 (l1.length : Int) x12_1 = some r) ∧ Aside0 (kq ≤ k) ∧ Aside0 (Below w.heap.size w w'))
  case atStart => exact ⟨(0), (es_), H', ⟨Nat.le_refl _⟩, ⟨bl_⟩⟩
  case round =>
   clear H';try clear c1
   try clear p2
   try clear c3
   try clear c4
   obtain ⟨x12_1, rfl, HA, HK1, HB⟩ := hrel
   cases gk with
   | zero => exact absurd HA.out (by simp [impl_AreChords.l0])
   | succ k1 =>
    have H := HA.out;clear HA;simp only [impl_AreChords.l0] at H;by_cases c5 : x12_1 < (l1.length : Int)
    ·rw [if_pos c5] at H;have c5b0 : decide (x12_1 < (l1.length : Int)) = true := decide_eq_true c5;clear c5;by_cases c6 : 0 ≤ x12_1;rotate_left
     ·rw [if_neg c6] at H;exact absurd H (by simp)
     rw [if_pos c6] at H;have c6b0 : decide (0 ≤ x12_1) = true := decide_eq_true c6;clear c6;by_cases c7 : x12_1 < (l1.length : Int);rotate_left
     ·rw [if_neg c7] at H;exact absurd H (by simp)
     rw [if_pos c7] at H;have c7b0 : decide (x12_1 < (l1.length : Int)) = true := decide_eq_true c7;clear c7;replace H := Option.bind_eq_some_iff.mp H;obtain ⟨t204, A80, H⟩ := H;try dsimp only at H
     have A8 := mk_ A80;clear A80;by_cases c9 : t204 = true
     ·subst c9;have H1 : (if x12_1 > 0 then (if 0 ≤ (wrap64 (x12_1 - 1)) then (if (wrap64 (x12_1 - 1)) < (l1.length : Int) then ((impl_compareChords.f k1 ((rd_T39 l1 (wrap64 (x12_1 - 1))).f0) ((rd_T39 l1 (wrap64 (x12_1 - 1))).f1) ((rd_T39 l1 x12_1).f0) ((rd_T39 l1 x12_1).f1)).bind fun t206 => (if t206 ≥ 0 then (some false) else (impl_AreChords.l0 k1 a0 l1 l1 (l1.length : Int) (wrap64 (x12_1 + 1))))) else (none)) else (none)) else (impl_AreChords.l0 k1 a0 l1 l1 (l1.length : Int) (wrap64 (x12_1 + 1)))) = some r := by rw [if_pos rfl] at H; exact H
      clear H;have H := H1;clear H1;by_cases c10 : x12_1 > 0
      ·rw [if_pos c10] at H;have c10b0 : decide (0 < x12_1) = true := decide_eq_true c10;clear c10;obtain ⟨ji11, hji11⟩ : ∃ j_ : Int, (wrap64 (x12_1 - 1)) = j_ := ⟨_, rfl⟩;replace H : (if 0 ≤ (ji11) then (if (ji11) < (l1.length : Int) then ((impl_compareChords.f k1 ((rd_T39 l1 (ji11)).f0) ((rd_T39 l1 (ji11)).f1) ((rd_T39 l1 x12_1).f0) ((rd_T39 l1 x12_1).f1)).bind fun t206 => (if t206 ≥ 0 then (some false) else (impl_AreChords.l0 k1 a0 l1 l1 (l1.length : Int) (wrap64 (x12_1 + 1))))) else (none)) else (none)) = some r := by first | (rw [hji11] at H; exact H) | (simp only [hji11] at H ⊢; exact H)
       (try rw [hji11] at A8);have hji11w : (IntKind.i64.wrap (x12_1 - 1)) = ji11 := (i64_w _).trans hji11;by_cases c12 : 0 ≤ (ji11);rotate_left
       ·rw [if_neg c12] at H;exact absurd H (by simp)
       rw [if_pos c12] at H;have c12b0 : decide (0 ≤ (ji11)) = true := decide_eq_true c12;clear c12;by_cases c13 : (ji11) < (l1.length : Int);rotate_left
       ·rw [if_neg c13] at H;exact absurd H (by simp)
       rw [if_pos c13] at H;have c13b0 : decide ((ji11) < (l1.length : Int)) = true := decide_eq_true c13;clear c13;replace H := Option.bind_eq_some_iff.mp H;obtain ⟨t206, A140, H⟩ := H;try dsimp only at H
       have A14 := mk_ A140;clear A140;by_cases c15 : t206 ≥ 0
       ·rw [if_pos c15] at H;have c15b0 : decide (0 ≤ t206) = true := decide_eq_true c15;clear c15;obtain rfl := Option.some.inj H;have p202 : 0 ≤ (x12_1 : Int) := od_;have q202 : x12_1 < (l1.length : Int) := od_;obtain ⟨ad202, e202, hx202_0, hx202_1⟩ := at_T39 HR1.out x12_1 p202 q202;cases e202;replace hx202_0 := (HB.out.cell (World.block_lt_of_cell? w _ hx202_0)).trans hx202_0;replace hx202_1 := (HB.out.cell (World.block_lt_of_cell? w _ hx202_1)).trans hx202_1;replace p202 := eq_true p202;replace q202 := eq_true q202;try go_wp2_with (first | ((with_reducible refine g_ 6 ?_); refine bx_ 6 #[.int .i64 0, .int .i64 0] 39 ?_; intro gb203 hg w16 hbox hb; have n0_ := mk_ (below_step bl_ hb); have n1_ := mk_ (hbox); have n2_ := mk_ ((by rw [hg]; exact (below_size bl_) : w.heap.size ≤ gb203)); have n3_ := n2_; clear HB; have HB := n0_; have BK203 := n1_; have GW203 := n2_; have GE203 := n3_; clear n0_ n1_ n2_ n3_ hb hbox hg; have hcz17_0 : w16.cell? ⟨gb203, 0, none⟩ = some (.int .i64 0) := (blk_cell BK203.out 0).trans rfl; have hcz17_1 : w16.cell? ⟨gb203, 1, none⟩ = some (.int .i64 0) := (blk_cell BK203.out 1).trans rfl; have hfz17_0 := blk_frozen BK203.out 0; have hfz17_1 := blk_frozen BK203.out 1))
        have n0_ : Aside0 (((w16.setCell ⟨gb203, 0, none⟩ (.int .i64 ((rd_T39 l1 x12_1).f0))).setCell ⟨gb203, 1, none⟩ (.int .i64 ((rd_T39 l1 x12_1).f1))).heap[gb203]? = some (.cells #[.int .i64 ((rd_T39 l1 x12_1).f0), .int .i64 ((rd_T39 l1 x12_1).f1)] 39 (0, 0))) := ⟨by (with_reducible repeat (first | refine blk_drewN ?_ _ | refine blk_drew ?_ | refine blk_alloc ?_ _)); refine blk_put (cs := #[.int .i64 ((rd_T39 l1 x12_1).f0), .int .i64 0]) ?_ 1 _ rfl; (with_reducible repeat (first | refine blk_drewN ?_ _ | refine blk_drew ?_ | refine blk_alloc ?_ _)); refine blk_put (cs := #[.int .i64 0, .int .i64 0]) ?_ 0 _ rfl; exact kk_ <| BK203.out⟩;have n1_ : Aside0 (Below w.heap.size w ((w16.setCell ⟨gb203, 0, none⟩ (.int .i64 ((rd_T39 l1 x12_1).f0))).setCell ⟨gb203, 1, none⟩ (.int .i64 ((rd_T39 l1 x12_1).f1)))) := ⟨bg_⟩;(try clear BK203);(try clear HB);generalize ((w16.setCell ⟨gb203, 0, none⟩ (.int .i64 ((rd_T39 l1 x12_1).f0))).setCell ⟨gb203, 1, none⟩ (.int .i64 ((rd_T39 l1 x12_1).f1))) = w18 at n0_ n1_ ⊢;have BK203 := n0_;have HB := n1_;clear n0_ n1_;have n0_ := mk_ (blk_drew BK203.out);have n1_ := mk_ (below_drew1 HB.out);clear BK203 HB;have BK203 := n0_;have HB := n1_;clear n0_ n1_;have p205 : 0 ≤ ((ji11) : Int) := od_;have q205 : (ji11) < (l1.length : Int) := od_;obtain ⟨ad205, e205, hx205_0, hx205_1⟩ := at_T39 HR1.out (ji11) p205 q205;have hw205_1 := hx205_1;have hw205_0 := hx205_0;obtain rfl : ad202 = ad205 := (by injection e205);replace hx205_0 := (HB.out.cell (World.block_lt_of_cell? w _ hx205_0)).trans hx205_0;replace hx205_1 := (HB.out.cell (World.block_lt_of_cell? w _ hx205_1)).trans hx205_1;replace p205 := eq_true p205;replace q205 := eq_true q205;refine start_ (n := 18) (S := fun w' => w'.cell? ⟨gb203, 0, none⟩ = some (.int .i64 ((rd_T39 l1 x12_1).f0)) ∧ w'.cell? ⟨gb203, 1, none⟩ = some (.int .i64 ((rd_T39 l1 x12_1).f1)) ∧ w'.cell? (ad202.add (((ji11)).toNat * 2)) = some (.int .i64 ((rd_T39 l1 (ji11)).f0)) ∧ w'.cell? ⟨(ad202.add (((ji11)).toNat * 2)).block, (ad202.add (((ji11)).toNat * 2)).off + 1, none⟩ = some (.int .i64 ((rd_T39 l1 (ji11)).f1))) (ds := []) #[false, false, false, false, false, false, false, false, false, false, false, false, false, false, false, false, false, false] (by kernel_rfl) rfl rfl ⟨(blk_cell BK203.out 0).trans rfl, (blk_cell BK203.out 1).trans rfl, ((HB.out.cell (World.block_lt_of_cell? w _ hw205_0)).trans hw205_0), ((HB.out.cell (World.block_lt_of_cell? w _ hw205_1)).trans hw205_1)⟩ (fun hHeld => ?_); refine with_tabW impl_AreChords.tab6 impl_AreChords.bits6 (fun HT_ HW_ => ?_);generalize w18.drew = w19 at BK203 HB hx205_0 hx205_1 hHeld ⊢;refine pt_ 0 (some 17) HT_ ?_;refine tb4_ 1 (some 18) HT_ HW_ hHeld ?_;refine one_ (i := 2) (N := some 19) #[true, true, true, false, false, false, false, false, false, false, false, false, false, false, false, false, false, false] rfl rfl (one_of HT_.out (by kernel_rfl)) (by decide) (fun K hK => ?_);refine goes_ Tryz.func68 (by kernel_rfl) rfl #[.int .i64 a0, .agg #[.int .i64 ((rd_T39 l1 x12_1).f0), .int .i64 ((rd_T39 l1 x12_1).f1)]] (by rfl) rfl rfl ma_ ?_;with_reducible refine (impl_isChord.calls a0 ((rd_T39 l1 x12_1).f0) ((rd_T39 l1 x12_1).f1) true _ A8.out).mono ?_
        rintro e w20 ⟨rfl, hb⟩;refine ⟨_, rfl, ?_⟩;have n0_ := mk_ (blk_below (g := gb203) (o := .cells #[.int .i64 ((rd_T39 l1 x12_1).f0), .int .i64 ((rd_T39 l1 x12_1).f1)] 39 (0, 0)) kb_ hb);have n1_ := mk_ (below_step bg_ hb);clear BK203 HB;have BK203 := n0_;have HB := n1_;clear n0_ n1_;(try clear hb);(try clear hb2);(try clear hk);(try clear hi);refine hK.out _ _ ⟨(blk_cell BK203.out 0).trans rfl, (blk_cell BK203.out 1).trans rfl, ((HB.out.cell (World.block_lt_of_cell? w _ hw205_0)).trans hw205_0), ((HB.out.cell (World.block_lt_of_cell? w _ hw205_1)).trans hw205_1)⟩ (fun hHeld => ?_);clear hK K;refine nm_ (some 19) ?_;refine pt_ 3 (some 20) HT_ ?_;refine pt_ 4 (some 21) HT_ ?_;refine pt_ 5 (some 22) HT_ ?_;refine pt_ 6 (some 23) HT_ ?_;refine pt_ 7 (some 24) HT_ ?_;refine pt_ 8 (some 25) HT_ ?_;refine pt_ 9 (some 26) HT_ ?_;refine pt_ 10 (some 27) HT_ ?_;refine pt_ 11 (some 28) HT_ ?_;refine tb4_ 12 (some 29) HT_ HW_ hHeld ?_;refine tb4_ 13 (some 30) HT_ HW_ hHeld ?_;refine one_ (i := 14) (N := some 31) #[true, true, true, true, true, true, true, true, true, true, true, true, true, true, true, false, false, false] rfl rfl (one_of HT_.out (by kernel_rfl)) (by decide) (fun K hK => ?_);refine goes_ Tryz.func67 (by kernel_rfl) rfl #[.agg #[.int .i64 ((rd_T39 l1 (ji11)).f0), .int .i64 ((rd_T39 l1 (ji11)).f1)], .agg #[.int .i64 ((rd_T39 l1 x12_1).f0), .int .i64 ((rd_T39 l1 x12_1).f1)]] (by rfl) rfl rfl (by (try simp only [List.map_toArray, List.map_cons, List.map_nil]); first | done | (simp only [hji11]; rfl) | rfl | (simp only [List.length_drop, List.length_take]; rfl)) ?_;with_reducible refine (impl_compareChords.calls k1 ((rd_T39 l1 (ji11)).f0) ((rd_T39 l1 (ji11)).f1) ((rd_T39 l1 x12_1).f0) ((rd_T39 l1 x12_1).f1) t206 _ A14.out).mono ?_
        rintro e w21 ⟨rfl, hb⟩;refine ⟨_, rfl, ?_⟩;have n0_ := mk_ (blk_below (g := gb203) (o := .cells #[.int .i64 ((rd_T39 l1 x12_1).f0), .int .i64 ((rd_T39 l1 x12_1).f1)] 39 (0, 0)) kb_ hb);have n1_ := mk_ (below_step bg_ hb);clear BK203 HB;have BK203 := n0_;have HB := n1_;clear n0_ n1_;(try clear hb);(try clear hb2);(try clear hk);(try clear hi);refine hK.out _ _ ⟨(blk_cell BK203.out 0).trans rfl, (blk_cell BK203.out 1).trans rfl, ((HB.out.cell (World.block_lt_of_cell? w _ hw205_0)).trans hw205_0), ((HB.out.cell (World.block_lt_of_cell? w _ hw205_1)).trans hw205_1)⟩ (fun hHeld => ?_);clear hK K;refine nm_ (some 31) ?_;refine pt_ 15 (some 32) HT_ ?_;refine pt_ 16 (some 33) HT_ ?_;refine pt_ 17 (some 34) HT_ ?_;refine done_ (done_of HT_.out (by kernel_rfl)) ?_;try go_wp2
        go_ret;exact ⟨by first | rfl | (simp [errW_none, errW_some] <;> rfl) | (simp only [← hji11]; first | rfl | (simp [errW_none, errW_some] <;> rfl)) | (simp [*, errW_none, errW_some] <;> rfl), bg_⟩
       ·rw [if_neg c15] at H;have c15b0 : decide (0 ≤ t206) = false := decide_eq_false c15;clear c15;have H' := mk_ H;clear H;have p202 : 0 ≤ (x12_1 : Int) := od_;have q202 : x12_1 < (l1.length : Int) := od_;obtain ⟨ad202, e202, hx202_0, hx202_1⟩ := at_T39 HR1.out x12_1 p202 q202;cases e202;replace hx202_0 := (HB.out.cell (World.block_lt_of_cell? w _ hx202_0)).trans hx202_0;replace hx202_1 := (HB.out.cell (World.block_lt_of_cell? w _ hx202_1)).trans hx202_1;replace p202 := eq_true p202;replace q202 := eq_true q202;try go_wp2_with (first | ((with_reducible refine g_ 6 ?_); refine bx_ 6 #[.int .i64 0, .int .i64 0] 39 ?_; intro gb203 hg w22 hbox hb; have n0_ := mk_ (below_step bl_ hb); have n1_ := mk_ (hbox); have n2_ := mk_ ((by rw [hg]; exact (below_size bl_) : w.heap.size ≤ gb203)); have n3_ := n2_; clear HB; have HB := n0_; have BK203 := n1_; have GW203 := n2_; have GE203 := n3_; clear n0_ n1_ n2_ n3_ hb hbox hg; have hcz23_0 : w22.cell? ⟨gb203, 0, none⟩ = some (.int .i64 0) := (blk_cell BK203.out 0).trans rfl; have hcz23_1 : w22.cell? ⟨gb203, 1, none⟩ = some (.int .i64 0) := (blk_cell BK203.out 1).trans rfl; have hfz23_0 := blk_frozen BK203.out 0; have hfz23_1 := blk_frozen BK203.out 1))
        have n0_ : Aside0 (((w22.setCell ⟨gb203, 0, none⟩ (.int .i64 ((rd_T39 l1 x12_1).f0))).setCell ⟨gb203, 1, none⟩ (.int .i64 ((rd_T39 l1 x12_1).f1))).heap[gb203]? = some (.cells #[.int .i64 ((rd_T39 l1 x12_1).f0), .int .i64 ((rd_T39 l1 x12_1).f1)] 39 (0, 0))) := ⟨by (with_reducible repeat (first | refine blk_drewN ?_ _ | refine blk_drew ?_ | refine blk_alloc ?_ _)); refine blk_put (cs := #[.int .i64 ((rd_T39 l1 x12_1).f0), .int .i64 0]) ?_ 1 _ rfl; (with_reducible repeat (first | refine blk_drewN ?_ _ | refine blk_drew ?_ | refine blk_alloc ?_ _)); refine blk_put (cs := #[.int .i64 0, .int .i64 0]) ?_ 0 _ rfl; exact kk_ <| BK203.out⟩;have n1_ : Aside0 (Below w.heap.size w ((w22.setCell ⟨gb203, 0, none⟩ (.int .i64 ((rd_T39 l1 x12_1).f0))).setCell ⟨gb203, 1, none⟩ (.int .i64 ((rd_T39 l1 x12_1).f1)))) := ⟨bg_⟩;(try clear BK203);(try clear HB);generalize ((w22.setCell ⟨gb203, 0, none⟩ (.int .i64 ((rd_T39 l1 x12_1).f0))).setCell ⟨gb203, 1, none⟩ (.int .i64 ((rd_T39 l1 x12_1).f1))) = w24 at n0_ n1_ ⊢;have BK203 := n0_;have HB := n1_;clear n0_ n1_;have n0_ := mk_ (blk_drew BK203.out);have n1_ := mk_ (below_drew1 HB.out);clear BK203 HB;have BK203 := n0_;have HB := n1_;clear n0_ n1_;have p205 : 0 ≤ ((ji11) : Int) := od_;have q205 : (ji11) < (l1.length : Int) := od_;obtain ⟨ad205, e205, hx205_0, hx205_1⟩ := at_T39 HR1.out (ji11) p205 q205;have hw205_1 := hx205_1;have hw205_0 := hx205_0;obtain rfl : ad202 = ad205 := (by injection e205);replace hx205_0 := (HB.out.cell (World.block_lt_of_cell? w _ hx205_0)).trans hx205_0;replace hx205_1 := (HB.out.cell (World.block_lt_of_cell? w _ hx205_1)).trans hx205_1;replace p205 := eq_true p205;replace q205 := eq_true q205;refine start_ (n := 18) (S := fun w' => w'.cell? ⟨gb203, 0, none⟩ = some (.int .i64 ((rd_T39 l1 x12_1).f0)) ∧ w'.cell? ⟨gb203, 1, none⟩ = some (.int .i64 ((rd_T39 l1 x12_1).f1)) ∧ w'.cell? (ad202.add (((ji11)).toNat * 2)) = some (.int .i64 ((rd_T39 l1 (ji11)).f0)) ∧ w'.cell? ⟨(ad202.add (((ji11)).toNat * 2)).block, (ad202.add (((ji11)).toNat * 2)).off + 1, none⟩ = some (.int .i64 ((rd_T39 l1 (ji11)).f1))) (ds := []) #[false, false, false, false, false, false, false, false, false, false, false, false, false, false, false, false, false, false] (by kernel_rfl) rfl rfl ⟨(blk_cell BK203.out 0).trans rfl, (blk_cell BK203.out 1).trans rfl, ((HB.out.cell (World.block_lt_of_cell? w _ hw205_0)).trans hw205_0), ((HB.out.cell (World.block_lt_of_cell? w _ hw205_1)).trans hw205_1)⟩ (fun hHeld => ?_); refine with_tabW impl_AreChords.tab6 impl_AreChords.bits6 (fun HT_ HW_ => ?_);generalize w24.drew = w25 at BK203 HB hx205_0 hx205_1 hHeld ⊢;refine pt_ 0 (some 17) HT_ ?_;refine tb4_ 1 (some 18) HT_ HW_ hHeld ?_;refine one_ (i := 2) (N := some 19) #[true, true, true, false, false, false, false, false, false, false, false, false, false, false, false, false, false, false] rfl rfl (one_of HT_.out (by kernel_rfl)) (by decide) (fun K hK => ?_);refine goes_ Tryz.func68 (by kernel_rfl) rfl #[.int .i64 a0, .agg #[.int .i64 ((rd_T39 l1 x12_1).f0), .int .i64 ((rd_T39 l1 x12_1).f1)]] (by rfl) rfl rfl ma_ ?_;with_reducible refine (impl_isChord.calls a0 ((rd_T39 l1 x12_1).f0) ((rd_T39 l1 x12_1).f1) true _ A8.out).mono ?_
        rintro e w26 ⟨rfl, hb⟩;refine ⟨_, rfl, ?_⟩;have n0_ := mk_ (blk_below (g := gb203) (o := .cells #[.int .i64 ((rd_T39 l1 x12_1).f0), .int .i64 ((rd_T39 l1 x12_1).f1)] 39 (0, 0)) kb_ hb);have n1_ := mk_ (below_step bg_ hb);clear BK203 HB;have BK203 := n0_;have HB := n1_;clear n0_ n1_;(try clear hb);(try clear hb2);(try clear hk);(try clear hi);refine hK.out _ _ ⟨(blk_cell BK203.out 0).trans rfl, (blk_cell BK203.out 1).trans rfl, ((HB.out.cell (World.block_lt_of_cell? w _ hw205_0)).trans hw205_0), ((HB.out.cell (World.block_lt_of_cell? w _ hw205_1)).trans hw205_1)⟩ (fun hHeld => ?_);clear hK K;refine nm_ (some 19) ?_;refine pt_ 3 (some 20) HT_ ?_;refine pt_ 4 (some 21) HT_ ?_;refine pt_ 5 (some 22) HT_ ?_;refine pt_ 6 (some 23) HT_ ?_;refine pt_ 7 (some 24) HT_ ?_;refine pt_ 8 (some 25) HT_ ?_;refine pt_ 9 (some 26) HT_ ?_;refine pt_ 10 (some 27) HT_ ?_;refine pt_ 11 (some 28) HT_ ?_;refine tb4_ 12 (some 29) HT_ HW_ hHeld ?_;refine tb4_ 13 (some 30) HT_ HW_ hHeld ?_;refine one_ (i := 14) (N := some 31) #[true, true, true, true, true, true, true, true, true, true, true, true, true, true, true, false, false, false] rfl rfl (one_of HT_.out (by kernel_rfl)) (by decide) (fun K hK => ?_);refine goes_ Tryz.func67 (by kernel_rfl) rfl #[.agg #[.int .i64 ((rd_T39 l1 (ji11)).f0), .int .i64 ((rd_T39 l1 (ji11)).f1)], .agg #[.int .i64 ((rd_T39 l1 x12_1).f0), .int .i64 ((rd_T39 l1 x12_1).f1)]] (by rfl) rfl rfl (by (try simp only [List.map_toArray, List.map_cons, List.map_nil]); first | done | (simp only [hji11]; rfl) | rfl | (simp only [List.length_drop, List.length_take]; rfl)) ?_;with_reducible refine (impl_compareChords.calls k1 ((rd_T39 l1 (ji11)).f0) ((rd_T39 l1 (ji11)).f1) ((rd_T39 l1 x12_1).f0) ((rd_T39 l1 x12_1).f1) t206 _ A14.out).mono ?_
        rintro e w27 ⟨rfl, hb⟩;refine ⟨_, rfl, ?_⟩;have n0_ := mk_ (blk_below (g := gb203) (o := .cells #[.int .i64 ((rd_T39 l1 x12_1).f0), .int .i64 ((rd_T39 l1 x12_1).f1)] 39 (0, 0)) kb_ hb);have n1_ := mk_ (below_step bg_ hb);clear BK203 HB;have BK203 := n0_;have HB := n1_;clear n0_ n1_;(try clear hb);(try clear hb2);(try clear hk);(try clear hi);refine hK.out _ _ ⟨(blk_cell BK203.out 0).trans rfl, (blk_cell BK203.out 1).trans rfl, ((HB.out.cell (World.block_lt_of_cell? w _ hw205_0)).trans hw205_0), ((HB.out.cell (World.block_lt_of_cell? w _ hw205_1)).trans hw205_1)⟩ (fun hHeld => ?_);clear hK K;refine nm_ (some 31) ?_;refine pt_ 15 (some 32) HT_ ?_;refine pt_ 16 (some 33) HT_ ?_;refine pt_ 17 (some 34) HT_ ?_;refine done_ (done_of HT_.out (by kernel_rfl)) ?_;try go_wp2
        go_roundg k1
        case measure => have := HK1.out; omega
        case rel => exact ⟨(wrap64 (x12_1 + 1)), (es_), H', ⟨by have := HK1.out; omega⟩, ⟨bg_⟩⟩
      ·rw [if_neg c10] at H;have c10b0 : decide (0 < x12_1) = false := decide_eq_false c10;clear c10;have H' := mk_ H;clear H;have p202 : 0 ≤ (x12_1 : Int) := od_;have q202 : x12_1 < (l1.length : Int) := od_;obtain ⟨ad202, e202, hx202_0, hx202_1⟩ := at_T39 HR1.out x12_1 p202 q202;cases e202;replace hx202_0 := (HB.out.cell (World.block_lt_of_cell? w _ hx202_0)).trans hx202_0;replace hx202_1 := (HB.out.cell (World.block_lt_of_cell? w _ hx202_1)).trans hx202_1;replace p202 := eq_true p202;replace q202 := eq_true q202;try go_wp2_with (first | ((with_reducible refine g_ 6 ?_); refine bx_ 6 #[.int .i64 0, .int .i64 0] 39 ?_; intro gb203 hg w28 hbox hb; have n0_ := mk_ (below_step bl_ hb); have n1_ := mk_ (hbox); have n2_ := mk_ ((by rw [hg]; exact (below_size bl_) : w.heap.size ≤ gb203)); have n3_ := n2_; clear HB; have HB := n0_; have BK203 := n1_; have GW203 := n2_; have GE203 := n3_; clear n0_ n1_ n2_ n3_ hb hbox hg; have hcz29_0 : w28.cell? ⟨gb203, 0, none⟩ = some (.int .i64 0) := (blk_cell BK203.out 0).trans rfl; have hcz29_1 : w28.cell? ⟨gb203, 1, none⟩ = some (.int .i64 0) := (blk_cell BK203.out 1).trans rfl; have hfz29_0 := blk_frozen BK203.out 0; have hfz29_1 := blk_frozen BK203.out 1))
       have n0_ : Aside0 (((w28.setCell ⟨gb203, 0, none⟩ (.int .i64 ((rd_T39 l1 x12_1).f0))).setCell ⟨gb203, 1, none⟩ (.int .i64 ((rd_T39 l1 x12_1).f1))).heap[gb203]? = some (.cells #[.int .i64 ((rd_T39 l1 x12_1).f0), .int .i64 ((rd_T39 l1 x12_1).f1)] 39 (0, 0))) := ⟨by (with_reducible repeat (first | refine blk_drewN ?_ _ | refine blk_drew ?_ | refine blk_alloc ?_ _)); refine blk_put (cs := #[.int .i64 ((rd_T39 l1 x12_1).f0), .int .i64 0]) ?_ 1 _ rfl; (with_reducible repeat (first | refine blk_drewN ?_ _ | refine blk_drew ?_ | refine blk_alloc ?_ _)); refine blk_put (cs := #[.int .i64 0, .int .i64 0]) ?_ 0 _ rfl; exact kk_ <| BK203.out⟩;have n1_ : Aside0 (Below w.heap.size w ((w28.setCell ⟨gb203, 0, none⟩ (.int .i64 ((rd_T39 l1 x12_1).f0))).setCell ⟨gb203, 1, none⟩ (.int .i64 ((rd_T39 l1 x12_1).f1)))) := ⟨bg_⟩;(try clear BK203);(try clear HB);generalize ((w28.setCell ⟨gb203, 0, none⟩ (.int .i64 ((rd_T39 l1 x12_1).f0))).setCell ⟨gb203, 1, none⟩ (.int .i64 ((rd_T39 l1 x12_1).f1))) = w30 at n0_ n1_ ⊢;have BK203 := n0_;have HB := n1_;clear n0_ n1_;have n0_ := mk_ (blk_drew BK203.out);have n1_ := mk_ (below_drew1 HB.out);clear BK203 HB;have BK203 := n0_;have HB := n1_;clear n0_ n1_;refine start_ (n := 18) (S := fun w' => w'.cell? ⟨gb203, 0, none⟩ = some (.int .i64 ((rd_T39 l1 x12_1).f0)) ∧ w'.cell? ⟨gb203, 1, none⟩ = some (.int .i64 ((rd_T39 l1 x12_1).f1))) (ds := []) #[false, false, false, false, false, false, false, false, false, false, false, false, false, false, false, false, false, false] (by kernel_rfl) rfl rfl ⟨(blk_cell BK203.out 0).trans rfl, (blk_cell BK203.out 1).trans rfl⟩ (fun hHeld => ?_); refine with_tabW impl_AreChords.tab6 impl_AreChords.bits6 (fun HT_ HW_ => ?_);generalize w30.drew = w31 at BK203 HB hHeld ⊢;refine pt_ 0 (some 17) HT_ ?_;refine tb2_ 1 (some 18) HT_ HW_ hHeld ?_;refine one_ (i := 2) (N := some 19) #[true, true, true, false, false, false, false, false, false, false, false, false, false, false, false, false, false, false] rfl rfl (one_of HT_.out (by kernel_rfl)) (by decide) (fun K hK => ?_);refine goes_ Tryz.func68 (by kernel_rfl) rfl #[.int .i64 a0, .agg #[.int .i64 ((rd_T39 l1 x12_1).f0), .int .i64 ((rd_T39 l1 x12_1).f1)]] (by rfl) rfl rfl ma_ ?_;with_reducible refine (impl_isChord.calls a0 ((rd_T39 l1 x12_1).f0) ((rd_T39 l1 x12_1).f1) true _ A8.out).mono ?_
       rintro e w32 ⟨rfl, hb⟩;refine ⟨_, rfl, ?_⟩;have n0_ := mk_ (blk_below (g := gb203) (o := .cells #[.int .i64 ((rd_T39 l1 x12_1).f0), .int .i64 ((rd_T39 l1 x12_1).f1)] 39 (0, 0)) kb_ hb);have n1_ := mk_ (below_step bg_ hb);clear BK203 HB;have BK203 := n0_;have HB := n1_;clear n0_ n1_;(try clear hb);(try clear hb2);(try clear hk);(try clear hi);refine hK.out _ _ ⟨(blk_cell BK203.out 0).trans rfl, (blk_cell BK203.out 1).trans rfl⟩ (fun hHeld => ?_);clear hK K;refine nm_ (some 19) ?_;refine pt_ 3 (some 20) HT_ ?_;refine pt_ 4 (some 21) HT_ ?_;refine pt_ 5 (some 22) HT_ ?_;refine pt_ 6 (some 23) HT_ ?_;refine pt_ 7 (some 24) HT_ ?_;refine po_ 8 (some 25) HT_ ?_;refine po_ 9 (some 26) HT_ ?_;refine po_ 10 (some 27) HT_ ?_;refine po_ 11 (some 28) HT_ ?_;refine po_ 12 (some 29) HT_ ?_;refine po_ 13 (some 30) HT_ ?_;refine po_ 14 (some 31) HT_ ?_;refine po_ 15 (some 32) HT_ ?_;refine pt_ 16 (some 33) HT_ ?_;refine pt_ 17 (some 34) HT_ ?_;refine done_ (done_of HT_.out (by kernel_rfl)) ?_;try go_wp2
       go_roundg k1
       case measure => have := HK1.out; omega
       case rel => exact ⟨(wrap64 (x12_1 + 1)), (es_), H', ⟨by have := HK1.out; omega⟩, ⟨bg_⟩⟩
     ·replace c9 := Bool.eq_false_iff.mpr c9;subst c9;have H1 : (some false) = some r := by rw [if_neg (show ¬ (false = true) by decide)] at H; exact H
      clear H;have H := H1;clear H1;obtain rfl := Option.some.inj H;have p202 : 0 ≤ (x12_1 : Int) := od_;have q202 : x12_1 < (l1.length : Int) := od_;obtain ⟨ad202, e202, hx202_0, hx202_1⟩ := at_T39 HR1.out x12_1 p202 q202;cases e202;replace hx202_0 := (HB.out.cell (World.block_lt_of_cell? w _ hx202_0)).trans hx202_0;replace hx202_1 := (HB.out.cell (World.block_lt_of_cell? w _ hx202_1)).trans hx202_1;replace p202 := eq_true p202;replace q202 := eq_true q202;try go_wp2_with (first | ((with_reducible refine g_ 6 ?_); refine bx_ 6 #[.int .i64 0, .int .i64 0] 39 ?_; intro gb203 hg w33 hbox hb; have n0_ := mk_ (below_step bl_ hb); have n1_ := mk_ (hbox); have n2_ := mk_ ((by rw [hg]; exact (below_size bl_) : w.heap.size ≤ gb203)); have n3_ := n2_; clear HB; have HB := n0_; have BK203 := n1_; have GW203 := n2_; have GE203 := n3_; clear n0_ n1_ n2_ n3_ hb hbox hg; have hcz34_0 : w33.cell? ⟨gb203, 0, none⟩ = some (.int .i64 0) := (blk_cell BK203.out 0).trans rfl; have hcz34_1 : w33.cell? ⟨gb203, 1, none⟩ = some (.int .i64 0) := (blk_cell BK203.out 1).trans rfl; have hfz34_0 := blk_frozen BK203.out 0; have hfz34_1 := blk_frozen BK203.out 1))
      have n0_ : Aside0 (((w33.setCell ⟨gb203, 0, none⟩ (.int .i64 ((rd_T39 l1 x12_1).f0))).setCell ⟨gb203, 1, none⟩ (.int .i64 ((rd_T39 l1 x12_1).f1))).heap[gb203]? = some (.cells #[.int .i64 ((rd_T39 l1 x12_1).f0), .int .i64 ((rd_T39 l1 x12_1).f1)] 39 (0, 0))) := ⟨by (with_reducible repeat (first | refine blk_drewN ?_ _ | refine blk_drew ?_ | refine blk_alloc ?_ _)); refine blk_put (cs := #[.int .i64 ((rd_T39 l1 x12_1).f0), .int .i64 0]) ?_ 1 _ rfl; (with_reducible repeat (first | refine blk_drewN ?_ _ | refine blk_drew ?_ | refine blk_alloc ?_ _)); refine blk_put (cs := #[.int .i64 0, .int .i64 0]) ?_ 0 _ rfl; exact kk_ <| BK203.out⟩;have n1_ : Aside0 (Below w.heap.size w ((w33.setCell ⟨gb203, 0, none⟩ (.int .i64 ((rd_T39 l1 x12_1).f0))).setCell ⟨gb203, 1, none⟩ (.int .i64 ((rd_T39 l1 x12_1).f1)))) := ⟨bg_⟩;(try clear BK203);(try clear HB);generalize ((w33.setCell ⟨gb203, 0, none⟩ (.int .i64 ((rd_T39 l1 x12_1).f0))).setCell ⟨gb203, 1, none⟩ (.int .i64 ((rd_T39 l1 x12_1).f1))) = w35 at n0_ n1_ ⊢;have BK203 := n0_;have HB := n1_;clear n0_ n1_;have n0_ := mk_ (blk_drew BK203.out);have n1_ := mk_ (below_drew1 HB.out);clear BK203 HB;have BK203 := n0_;have HB := n1_;clear n0_ n1_;refine start_ (n := 18) (S := fun w' => w'.cell? ⟨gb203, 0, none⟩ = some (.int .i64 ((rd_T39 l1 x12_1).f0)) ∧ w'.cell? ⟨gb203, 1, none⟩ = some (.int .i64 ((rd_T39 l1 x12_1).f1))) (ds := []) #[false, false, false, false, false, false, false, false, false, false, false, false, false, false, false, false, false, false] (by kernel_rfl) rfl rfl ⟨(blk_cell BK203.out 0).trans rfl, (blk_cell BK203.out 1).trans rfl⟩ (fun hHeld => ?_); refine with_tabW impl_AreChords.tab6 impl_AreChords.bits6 (fun HT_ HW_ => ?_);generalize w35.drew = w36 at BK203 HB hHeld ⊢;refine pt_ 0 (some 17) HT_ ?_;refine tb2_ 1 (some 18) HT_ HW_ hHeld ?_;refine one_ (i := 2) (N := some 19) #[true, true, true, false, false, false, false, false, false, false, false, false, false, false, false, false, false, false] rfl rfl (one_of HT_.out (by kernel_rfl)) (by decide) (fun K hK => ?_);refine goes_ Tryz.func68 (by kernel_rfl) rfl #[.int .i64 a0, .agg #[.int .i64 ((rd_T39 l1 x12_1).f0), .int .i64 ((rd_T39 l1 x12_1).f1)]] (by rfl) rfl rfl ma_ ?_;with_reducible refine (impl_isChord.calls a0 ((rd_T39 l1 x12_1).f0) ((rd_T39 l1 x12_1).f1) false _ A8.out).mono ?_
      rintro e w37 ⟨rfl, hb⟩;refine ⟨_, rfl, ?_⟩;have n0_ := mk_ (blk_below (g := gb203) (o := .cells #[.int .i64 ((rd_T39 l1 x12_1).f0), .int .i64 ((rd_T39 l1 x12_1).f1)] 39 (0, 0)) kb_ hb);have n1_ := mk_ (below_step bg_ hb);clear BK203 HB;have BK203 := n0_;have HB := n1_;clear n0_ n1_;(try clear hb);(try clear hb2);(try clear hk);(try clear hi);refine hK.out _ _ ⟨(blk_cell BK203.out 0).trans rfl, (blk_cell BK203.out 1).trans rfl⟩ (fun hHeld => ?_);clear hK K;refine nm_ (some 19) ?_;refine pt_ 3 (some 20) HT_ ?_;refine pt_ 4 (some 21) HT_ ?_;refine po_ 5 (some 22) HT_ ?_;refine po_ 6 (some 23) HT_ ?_;refine po_ 7 (some 24) HT_ ?_;refine po_ 8 (some 25) HT_ ?_;refine po_ 9 (some 26) HT_ ?_;refine po_ 10 (some 27) HT_ ?_;refine po_ 11 (some 28) HT_ ?_;refine po_ 12 (some 29) HT_ ?_;refine po_ 13 (some 30) HT_ ?_;refine po_ 14 (some 31) HT_ ?_;refine po_ 15 (some 32) HT_ ?_;refine po_ 16 (some 33) HT_ ?_;refine pt_ 17 (some 34) HT_ ?_;refine done_ (done_of HT_.out (by kernel_rfl)) ?_;try go_wp2
      go_ret;exact ⟨ew_, bg_⟩
    ·rw [if_neg c5] at H;have c5b0 : decide (x12_1 < (l1.length : Int)) = false := decide_eq_false c5;clear c5;obtain rfl := Option.some.inj H;go_wp2;go_ret;exact ⟨ew_, bl_⟩
 ·replace c4 := Bool.eq_false_iff.mpr c4;subst c4;have H1 : (some false) = some r := by rw [if_neg (show ¬ (false = true) by decide)] at H; exact H
  clear H;have H := H1;clear H1;obtain rfl := Option.some.inj H;go_enter Tryz.func36, Tryz.ntmps36;go_wp2_with (first | (refine gd_ 8 Tryz.func44 (impl_within.calls a0 3 60 false _ A3.out) ?_; intro nd));go_ret;exact ⟨ew_, bl_⟩
def impl_crossing.f (a0_0 : Int) (a0_1 : Int) (a1_0 : Int) (a1_1 : Int) : Option (Bool) := if a0_0 < a1_0 then (if a1_0 < a0_1 then (if a0_1 < a1_1 then (some true) else (if a1_0 < a0_0 then (if a0_0 < a1_1 then (some (decide (a1_1 < a0_1))) else (some false)) else (some false))) else (if a1_0 < a0_0 then (if a0_0 < a1_1 then (some (decide (a1_1 < a0_1))) else (some false)) else (some false))) else (if a1_0 < a0_0 then (if a0_0 < a1_1 then (some (decide (a1_1 < a0_1))) else (some false)) else (some false))
theorem impl_crossing.calls (a0_0 : Int) (a0_1 : Int) (a1_0 : Int) (a1_1 : Int) (r : Bool) (w : World) (h : impl_crossing.f a0_0 a0_1 a1_0 a1_1 = some r) :
  Calls Tryz.prog 115 #[.agg #[.int .i64 a0_0, .int .i64 a0_1], .agg #[.int .i64 a1_0, .int .i64 a1_1]] w fun e w' => e = .returned (.bool r) ∧ Below w.heap.size w w' := by
 have hu39 := Tryz.underlying39;have HB := mk_ (Below.refl w.heap.size w);have H : (if a0_0 < a1_0 then (if a1_0 < a0_1 then (if a0_1 < a1_1 then (some true) else (if a1_0 < a0_0 then (if a0_0 < a1_1 then (some (decide (a1_1 < a0_1))) else (some false)) else (some false))) else (if a1_0 < a0_0 then (if a0_0 < a1_1 then (some (decide (a1_1 < a0_1))) else (some false)) else (some false))) else (if a1_0 < a0_0 then (if a0_0 < a1_1 then (some (decide (a1_1 < a0_1))) else (some false)) else (some false))) = some r := h;clear h;by_cases c3 : a0_0 < a1_0
 ·rw [if_pos c3] at H;have c3b0 : decide (a0_0 < a1_0) = true := decide_eq_true c3;clear c3;by_cases c4 : a1_0 < a0_1
  ·rw [if_pos c4] at H;have c4b0 : decide (a1_0 < a0_1) = true := decide_eq_true c4;clear c4;by_cases c5 : a0_1 < a1_1
   ·rw [if_pos c5] at H;have c5b0 : decide (a0_1 < a1_1) = true := decide_eq_true c5;clear c5;obtain rfl := Option.some.inj H;go_enter Tryz.func115, Tryz.ntmps115;go_wp2_with (first | ((with_reducible refine g_ 2 ?_); refine bx_ 2 #[.int .i64 a0_0, .int .i64 a0_1] 39 ?_; intro gb207 hg w6 hbox hb; have n0_ := mk_ (below_step bl_ hb); have n1_ := mk_ (hbox); have n2_ := mk_ ((by rw [hg]; exact (below_size bl_) : w.heap.size ≤ gb207)); have n3_ := n2_; clear HB; have HB := n0_; have BK207 := n1_; have GW207 := n2_; have GE207 := n3_; clear n0_ n1_ n2_ n3_ hb hbox hg) | ((with_reducible refine g_ 3 ?_); refine bx_ 3 #[.int .i64 a1_0, .int .i64 a1_1] 39 ?_; intro gb208 hg w7 hbox hb; have n0_ := mk_ (blk_below (g := gb207) (o := .cells #[.int .i64 a0_0, .int .i64 a0_1] 39 (0, 0)) kb_ hb); have n1_ := mk_ (below_step bg_ hb); have n2_ := mk_ (hbox); have n3_ := mk_ ((by rw [hg]; exact (below_size bg_) : w.heap.size ≤ gb208)); have n4_ := n3_; have n5_ := mk_ ((by rw [hg]; exact Nat.ne_of_lt (blk_lt (g := gb207) (o := .cells #[.int .i64 a0_0, .int .i64 a0_1] 39 (0, 0)) kb_) : gb207 ≠ gb208)); have n6_ := mk_ ((by rw [hg]; exact Nat.ne_of_gt (blk_lt (g := gb207) (o := .cells #[.int .i64 a0_0, .int .i64 a0_1] 39 (0, 0)) kb_) : gb208 ≠ gb207)); clear BK207 HB; have BK207 := n0_; have HB := n1_; have BK208 := n2_; have GW208 := n3_; have GE208 := n4_; have NB207_208 := n5_; have NB208_207 := n6_; clear n0_ n1_ n2_ n3_ n4_ n5_ n6_ hb hbox hg; have hnb8 := NB207_208.out; have hnc8 := NB208_207.out; have hcz9_0 : w7.cell? ⟨gb207, 0, none⟩ = some (.int .i64 a0_0) := (blk_cell BK207.out 0).trans rfl; have hcz9_1 : w7.cell? ⟨gb207, 1, none⟩ = some (.int .i64 a0_1) := (blk_cell BK207.out 1).trans rfl; have hfz9_0 := blk_frozen BK207.out 0; have hfz9_1 := blk_frozen BK207.out 1; have hcz10_0 : w7.cell? ⟨gb208, 0, none⟩ = some (.int .i64 a1_0) := (blk_cell BK208.out 0).trans rfl; have hcz10_1 : w7.cell? ⟨gb208, 1, none⟩ = some (.int .i64 a1_1) := (blk_cell BK208.out 1).trans rfl; have hfz10_0 := blk_frozen BK208.out 0; have hfz10_1 := blk_frozen BK208.out 1));go_ret;exact ⟨ew_, bg_⟩
   ·rw [if_neg c5] at H;have c5b0 : decide (a0_1 < a1_1) = false := decide_eq_false c5;clear c5;by_cases c11 : a1_0 < a0_0
    ·rw [if_pos c11] at H;have c11b0 : decide (a1_0 < a0_0) = true := decide_eq_true c11;clear c11;by_cases c12 : a0_0 < a1_1
     ·rw [if_pos c12] at H;have c12b0 : decide (a0_0 < a1_1) = true := decide_eq_true c12;clear c12;obtain rfl := Option.some.inj H;go_enter Tryz.func115, Tryz.ntmps115;go_wp2_with (first | ((with_reducible refine g_ 2 ?_); refine bx_ 2 #[.int .i64 a0_0, .int .i64 a0_1] 39 ?_; intro gb207 hg w13 hbox hb; have n0_ := mk_ (below_step bl_ hb); have n1_ := mk_ (hbox); have n2_ := mk_ ((by rw [hg]; exact (below_size bl_) : w.heap.size ≤ gb207)); have n3_ := n2_; clear HB; have HB := n0_; have BK207 := n1_; have GW207 := n2_; have GE207 := n3_; clear n0_ n1_ n2_ n3_ hb hbox hg) | ((with_reducible refine g_ 3 ?_); refine bx_ 3 #[.int .i64 a1_0, .int .i64 a1_1] 39 ?_; intro gb208 hg w14 hbox hb; have n0_ := mk_ (blk_below (g := gb207) (o := .cells #[.int .i64 a0_0, .int .i64 a0_1] 39 (0, 0)) kb_ hb); have n1_ := mk_ (below_step bg_ hb); have n2_ := mk_ (hbox); have n3_ := mk_ ((by rw [hg]; exact (below_size bg_) : w.heap.size ≤ gb208)); have n4_ := n3_; have n5_ := mk_ ((by rw [hg]; exact Nat.ne_of_lt (blk_lt (g := gb207) (o := .cells #[.int .i64 a0_0, .int .i64 a0_1] 39 (0, 0)) kb_) : gb207 ≠ gb208)); have n6_ := mk_ ((by rw [hg]; exact Nat.ne_of_gt (blk_lt (g := gb207) (o := .cells #[.int .i64 a0_0, .int .i64 a0_1] 39 (0, 0)) kb_) : gb208 ≠ gb207)); clear BK207 HB; have BK207 := n0_; have HB := n1_; have BK208 := n2_; have GW208 := n3_; have GE208 := n4_; have NB207_208 := n5_; have NB208_207 := n6_; clear n0_ n1_ n2_ n3_ n4_ n5_ n6_ hb hbox hg; have hnb15 := NB207_208.out; have hnc15 := NB208_207.out; have hcz16_0 : w14.cell? ⟨gb207, 0, none⟩ = some (.int .i64 a0_0) := (blk_cell BK207.out 0).trans rfl; have hcz16_1 : w14.cell? ⟨gb207, 1, none⟩ = some (.int .i64 a0_1) := (blk_cell BK207.out 1).trans rfl; have hfz16_0 := blk_frozen BK207.out 0; have hfz16_1 := blk_frozen BK207.out 1; have hcz17_0 : w14.cell? ⟨gb208, 0, none⟩ = some (.int .i64 a1_0) := (blk_cell BK208.out 0).trans rfl; have hcz17_1 : w14.cell? ⟨gb208, 1, none⟩ = some (.int .i64 a1_1) := (blk_cell BK208.out 1).trans rfl; have hfz17_0 := blk_frozen BK208.out 0; have hfz17_1 := blk_frozen BK208.out 1));go_ret;exact ⟨ew_, bg_⟩
     ·rw [if_neg c12] at H;have c12b0 : decide (a0_0 < a1_1) = false := decide_eq_false c12;clear c12;obtain rfl := Option.some.inj H;go_enter Tryz.func115, Tryz.ntmps115;go_wp2_with (first | ((with_reducible refine g_ 2 ?_); refine bx_ 2 #[.int .i64 a0_0, .int .i64 a0_1] 39 ?_; intro gb207 hg w18 hbox hb; have n0_ := mk_ (below_step bl_ hb); have n1_ := mk_ (hbox); have n2_ := mk_ ((by rw [hg]; exact (below_size bl_) : w.heap.size ≤ gb207)); have n3_ := n2_; clear HB; have HB := n0_; have BK207 := n1_; have GW207 := n2_; have GE207 := n3_; clear n0_ n1_ n2_ n3_ hb hbox hg) | ((with_reducible refine g_ 3 ?_); refine bx_ 3 #[.int .i64 a1_0, .int .i64 a1_1] 39 ?_; intro gb208 hg w19 hbox hb; have n0_ := mk_ (blk_below (g := gb207) (o := .cells #[.int .i64 a0_0, .int .i64 a0_1] 39 (0, 0)) kb_ hb); have n1_ := mk_ (below_step bg_ hb); have n2_ := mk_ (hbox); have n3_ := mk_ ((by rw [hg]; exact (below_size bg_) : w.heap.size ≤ gb208)); have n4_ := n3_; have n5_ := mk_ ((by rw [hg]; exact Nat.ne_of_lt (blk_lt (g := gb207) (o := .cells #[.int .i64 a0_0, .int .i64 a0_1] 39 (0, 0)) kb_) : gb207 ≠ gb208)); have n6_ := mk_ ((by rw [hg]; exact Nat.ne_of_gt (blk_lt (g := gb207) (o := .cells #[.int .i64 a0_0, .int .i64 a0_1] 39 (0, 0)) kb_) : gb208 ≠ gb207)); clear BK207 HB; have BK207 := n0_; have HB := n1_; have BK208 := n2_; have GW208 := n3_; have GE208 := n4_; have NB207_208 := n5_; have NB208_207 := n6_; clear n0_ n1_ n2_ n3_ n4_ n5_ n6_ hb hbox hg; have hnb20 := NB207_208.out; have hnc20 := NB208_207.out; have hcz21_0 : w19.cell? ⟨gb207, 0, none⟩ = some (.int .i64 a0_0) := (blk_cell BK207.out 0).trans rfl; have hcz21_1 : w19.cell? ⟨gb207, 1, none⟩ = some (.int .i64 a0_1) := (blk_cell BK207.out 1).trans rfl; have hfz21_0 := blk_frozen BK207.out 0; have hfz21_1 := blk_frozen BK207.out 1; have hcz22_0 : w19.cell? ⟨gb208, 0, none⟩ = some (.int .i64 a1_0) := (blk_cell BK208.out 0).trans rfl; have hcz22_1 : w19.cell? ⟨gb208, 1, none⟩ = some (.int .i64 a1_1) := (blk_cell BK208.out 1).trans rfl; have hfz22_0 := blk_frozen BK208.out 0; have hfz22_1 := blk_frozen BK208.out 1));go_ret;exact ⟨ew_, bg_⟩
    ·rw [if_neg c11] at H;have c11b0 : decide (a1_0 < a0_0) = false := decide_eq_false c11;clear c11;obtain rfl := Option.some.inj H;go_enter Tryz.func115, Tryz.ntmps115;go_wp2_with (first | ((with_reducible refine g_ 2 ?_); refine bx_ 2 #[.int .i64 a0_0, .int .i64 a0_1] 39 ?_; intro gb207 hg w23 hbox hb; have n0_ := mk_ (below_step bl_ hb); have n1_ := mk_ (hbox); have n2_ := mk_ ((by rw [hg]; exact (below_size bl_) : w.heap.size ≤ gb207)); have n3_ := n2_; clear HB; have HB := n0_; have BK207 := n1_; have GW207 := n2_; have GE207 := n3_; clear n0_ n1_ n2_ n3_ hb hbox hg) | ((with_reducible refine g_ 3 ?_); refine bx_ 3 #[.int .i64 a1_0, .int .i64 a1_1] 39 ?_; intro gb208 hg w24 hbox hb; have n0_ := mk_ (blk_below (g := gb207) (o := .cells #[.int .i64 a0_0, .int .i64 a0_1] 39 (0, 0)) kb_ hb); have n1_ := mk_ (below_step bg_ hb); have n2_ := mk_ (hbox); have n3_ := mk_ ((by rw [hg]; exact (below_size bg_) : w.heap.size ≤ gb208)); have n4_ := n3_; have n5_ := mk_ ((by rw [hg]; exact Nat.ne_of_lt (blk_lt (g := gb207) (o := .cells #[.int .i64 a0_0, .int .i64 a0_1] 39 (0, 0)) kb_) : gb207 ≠ gb208)); have n6_ := mk_ ((by rw [hg]; exact Nat.ne_of_gt (blk_lt (g := gb207) (o := .cells #[.int .i64 a0_0, .int .i64 a0_1] 39 (0, 0)) kb_) : gb208 ≠ gb207)); clear BK207 HB; have BK207 := n0_; have HB := n1_; have BK208 := n2_; have GW208 := n3_; have GE208 := n4_; have NB207_208 := n5_; have NB208_207 := n6_; clear n0_ n1_ n2_ n3_ n4_ n5_ n6_ hb hbox hg; have hnb25 := NB207_208.out; have hnc25 := NB208_207.out; have hcz26_0 : w24.cell? ⟨gb207, 0, none⟩ = some (.int .i64 a0_0) := (blk_cell BK207.out 0).trans rfl; have hcz26_1 : w24.cell? ⟨gb207, 1, none⟩ = some (.int .i64 a0_1) := (blk_cell BK207.out 1).trans rfl; have hfz26_0 := blk_frozen BK207.out 0; have hfz26_1 := blk_frozen BK207.out 1; have hcz27_0 : w24.cell? ⟨gb208, 0, none⟩ = some (.int .i64 a1_0) := (blk_cell BK208.out 0).trans rfl; have hcz27_1 : w24.cell? ⟨gb208, 1, none⟩ = some (.int .i64 a1_1) := (blk_cell BK208.out 1).trans rfl; have hfz27_0 := blk_frozen BK208.out 0; have hfz27_1 := blk_frozen BK208.out 1));go_ret;exact ⟨ew_, bg_⟩
  ·rw [if_neg c4] at H;have c4b0 : decide (a1_0 < a0_1) = false := decide_eq_false c4;clear c4;by_cases c28 : a1_0 < a0_0
   ·rw [if_pos c28] at H;have c28b0 : decide (a1_0 < a0_0) = true := decide_eq_true c28;clear c28;by_cases c29 : a0_0 < a1_1
    ·rw [if_pos c29] at H;have c29b0 : decide (a0_0 < a1_1) = true := decide_eq_true c29;clear c29;obtain rfl := Option.some.inj H;go_enter Tryz.func115, Tryz.ntmps115;go_wp2_with (first | ((with_reducible refine g_ 2 ?_); refine bx_ 2 #[.int .i64 a0_0, .int .i64 a0_1] 39 ?_; intro gb207 hg w30 hbox hb; have n0_ := mk_ (below_step bl_ hb); have n1_ := mk_ (hbox); have n2_ := mk_ ((by rw [hg]; exact (below_size bl_) : w.heap.size ≤ gb207)); have n3_ := n2_; clear HB; have HB := n0_; have BK207 := n1_; have GW207 := n2_; have GE207 := n3_; clear n0_ n1_ n2_ n3_ hb hbox hg) | ((with_reducible refine g_ 3 ?_); refine bx_ 3 #[.int .i64 a1_0, .int .i64 a1_1] 39 ?_; intro gb208 hg w31 hbox hb; have n0_ := mk_ (blk_below (g := gb207) (o := .cells #[.int .i64 a0_0, .int .i64 a0_1] 39 (0, 0)) kb_ hb); have n1_ := mk_ (below_step bg_ hb); have n2_ := mk_ (hbox); have n3_ := mk_ ((by rw [hg]; exact (below_size bg_) : w.heap.size ≤ gb208)); have n4_ := n3_; have n5_ := mk_ ((by rw [hg]; exact Nat.ne_of_lt (blk_lt (g := gb207) (o := .cells #[.int .i64 a0_0, .int .i64 a0_1] 39 (0, 0)) kb_) : gb207 ≠ gb208)); have n6_ := mk_ ((by rw [hg]; exact Nat.ne_of_gt (blk_lt (g := gb207) (o := .cells #[.int .i64 a0_0, .int .i64 a0_1] 39 (0, 0)) kb_) : gb208 ≠ gb207)); clear BK207 HB; have BK207 := n0_; have HB := n1_; have BK208 := n2_; have GW208 := n3_; have GE208 := n4_; have NB207_208 := n5_; have NB208_207 := n6_; clear n0_ n1_ n2_ n3_ n4_ n5_ n6_ hb hbox hg; have hnb32 := NB207_208.out; have hnc32 := NB208_207.out; have hcz33_0 : w31.cell? ⟨gb207, 0, none⟩ = some (.int .i64 a0_0) := (blk_cell BK207.out 0).trans rfl; have hcz33_1 : w31.cell? ⟨gb207, 1, none⟩ = some (.int .i64 a0_1) := (blk_cell BK207.out 1).trans rfl; have hfz33_0 := blk_frozen BK207.out 0; have hfz33_1 := blk_frozen BK207.out 1; have hcz34_0 : w31.cell? ⟨gb208, 0, none⟩ = some (.int .i64 a1_0) := (blk_cell BK208.out 0).trans rfl; have hcz34_1 : w31.cell? ⟨gb208, 1, none⟩ = some (.int .i64 a1_1) := (blk_cell BK208.out 1).trans rfl; have hfz34_0 := blk_frozen BK208.out 0; have hfz34_1 := blk_frozen BK208.out 1));go_ret;exact ⟨ew_, bg_⟩
    ·rw [if_neg c29] at H;have c29b0 : decide (a0_0 < a1_1) = false := decide_eq_false c29;clear c29;obtain rfl := Option.some.inj H;go_enter Tryz.func115, Tryz.ntmps115;go_wp2_with (first | ((with_reducible refine g_ 2 ?_); refine bx_ 2 #[.int .i64 a0_0, .int .i64 a0_1] 39 ?_; intro gb207 hg w35 hbox hb; have n0_ := mk_ (below_step bl_ hb); have n1_ := mk_ (hbox); have n2_ := mk_ ((by rw [hg]; exact (below_size bl_) : w.heap.size ≤ gb207)); have n3_ := n2_; clear HB; have HB := n0_; have BK207 := n1_; have GW207 := n2_; have GE207 := n3_; clear n0_ n1_ n2_ n3_ hb hbox hg) | ((with_reducible refine g_ 3 ?_); refine bx_ 3 #[.int .i64 a1_0, .int .i64 a1_1] 39 ?_; intro gb208 hg w36 hbox hb; have n0_ := mk_ (blk_below (g := gb207) (o := .cells #[.int .i64 a0_0, .int .i64 a0_1] 39 (0, 0)) kb_ hb); have n1_ := mk_ (below_step bg_ hb); have n2_ := mk_ (hbox); have n3_ := mk_ ((by rw [hg]; exact (below_size bg_) : w.heap.size ≤ gb208)); have n4_ := n3_; have n5_ := mk_ ((by rw [hg]; exact Nat.ne_of_lt (blk_lt (g := gb207) (o := .cells #[.int .i64 a0_0, .int .i64 a0_1] 39 (0, 0)) kb_) : gb207 ≠ gb208)); have n6_ := mk_ ((by rw [hg]; exact Nat.ne_of_gt (blk_lt (g := gb207) (o := .cells #[.int .i64 a0_0, .int .i64 a0_1] 39 (0, 0)) kb_) : gb208 ≠ gb207)); clear BK207 HB; have BK207 := n0_; have HB := n1_; have BK208 := n2_; have GW208 := n3_; have GE208 := n4_; have NB207_208 := n5_; have NB208_207 := n6_; clear n0_ n1_ n2_ n3_ n4_ n5_ n6_ hb hbox hg; have hnb37 := NB207_208.out; have hnc37 := NB208_207.out; have hcz38_0 : w36.cell? ⟨gb207, 0, none⟩ = some (.int .i64 a0_0) := (blk_cell BK207.out 0).trans rfl; have hcz38_1 : w36.cell? ⟨gb207, 1, none⟩ = some (.int .i64 a0_1) := (blk_cell BK207.out 1).trans rfl; have hfz38_0 := blk_frozen BK207.out 0; have hfz38_1 := blk_frozen BK207.out 1; have hcz39_0 : w36.cell? ⟨gb208, 0, none⟩ = some (.int .i64 a1_0) := (blk_cell BK208.out 0).trans rfl; have hcz39_1 : w36.cell? ⟨gb208, 1, none⟩ = some (.int .i64 a1_1) := (blk_cell BK208.out 1).trans rfl; have hfz39_0 := blk_frozen BK208.out 0; have hfz39_1 := blk_frozen BK208.out 1));go_ret;exact ⟨ew_, bg_⟩
   ·rw [if_neg c28] at H;have c28b0 : decide (a1_0 < a0_0) = false := decide_eq_false c28;clear c28;obtain rfl := Option.some.inj H;go_enter Tryz.func115, Tryz.ntmps115;go_wp2_with (first | ((with_reducible refine g_ 2 ?_); refine bx_ 2 #[.int .i64 a0_0, .int .i64 a0_1] 39 ?_; intro gb207 hg w40 hbox hb; have n0_ := mk_ (below_step bl_ hb); have n1_ := mk_ (hbox); have n2_ := mk_ ((by rw [hg]; exact (below_size bl_) : w.heap.size ≤ gb207)); have n3_ := n2_; clear HB; have HB := n0_; have BK207 := n1_; have GW207 := n2_; have GE207 := n3_; clear n0_ n1_ n2_ n3_ hb hbox hg) | ((with_reducible refine g_ 3 ?_); refine bx_ 3 #[.int .i64 a1_0, .int .i64 a1_1] 39 ?_; intro gb208 hg w41 hbox hb; have n0_ := mk_ (blk_below (g := gb207) (o := .cells #[.int .i64 a0_0, .int .i64 a0_1] 39 (0, 0)) kb_ hb); have n1_ := mk_ (below_step bg_ hb); have n2_ := mk_ (hbox); have n3_ := mk_ ((by rw [hg]; exact (below_size bg_) : w.heap.size ≤ gb208)); have n4_ := n3_; have n5_ := mk_ ((by rw [hg]; exact Nat.ne_of_lt (blk_lt (g := gb207) (o := .cells #[.int .i64 a0_0, .int .i64 a0_1] 39 (0, 0)) kb_) : gb207 ≠ gb208)); have n6_ := mk_ ((by rw [hg]; exact Nat.ne_of_gt (blk_lt (g := gb207) (o := .cells #[.int .i64 a0_0, .int .i64 a0_1] 39 (0, 0)) kb_) : gb208 ≠ gb207)); clear BK207 HB; have BK207 := n0_; have HB := n1_; have BK208 := n2_; have GW208 := n3_; have GE208 := n4_; have NB207_208 := n5_; have NB208_207 := n6_; clear n0_ n1_ n2_ n3_ n4_ n5_ n6_ hb hbox hg; have hnb42 := NB207_208.out; have hnc42 := NB208_207.out; have hcz43_0 : w41.cell? ⟨gb207, 0, none⟩ = some (.int .i64 a0_0) := (blk_cell BK207.out 0).trans rfl; have hcz43_1 : w41.cell? ⟨gb207, 1, none⟩ = some (.int .i64 a0_1) := (blk_cell BK207.out 1).trans rfl; have hfz43_0 := blk_frozen BK207.out 0; have hfz43_1 := blk_frozen BK207.out 1; have hcz44_0 : w41.cell? ⟨gb208, 0, none⟩ = some (.int .i64 a1_0) := (blk_cell BK208.out 0).trans rfl; have hcz44_1 : w41.cell? ⟨gb208, 1, none⟩ = some (.int .i64 a1_1) := (blk_cell BK208.out 1).trans rfl; have hfz44_0 := blk_frozen BK208.out 0; have hfz44_1 := blk_frozen BK208.out 1));go_ret;exact ⟨ew_, bg_⟩
 ·rw [if_neg c3] at H;have c3b0 : decide (a0_0 < a1_0) = false := decide_eq_false c3;clear c3;by_cases c45 : a1_0 < a0_0
  ·rw [if_pos c45] at H;have c45b0 : decide (a1_0 < a0_0) = true := decide_eq_true c45;clear c45;by_cases c46 : a0_0 < a1_1
   ·rw [if_pos c46] at H;have c46b0 : decide (a0_0 < a1_1) = true := decide_eq_true c46;clear c46;obtain rfl := Option.some.inj H;go_enter Tryz.func115, Tryz.ntmps115;go_wp2_with (first | ((with_reducible refine g_ 2 ?_); refine bx_ 2 #[.int .i64 a0_0, .int .i64 a0_1] 39 ?_; intro gb207 hg w47 hbox hb; have n0_ := mk_ (below_step bl_ hb); have n1_ := mk_ (hbox); have n2_ := mk_ ((by rw [hg]; exact (below_size bl_) : w.heap.size ≤ gb207)); have n3_ := n2_; clear HB; have HB := n0_; have BK207 := n1_; have GW207 := n2_; have GE207 := n3_; clear n0_ n1_ n2_ n3_ hb hbox hg) | ((with_reducible refine g_ 3 ?_); refine bx_ 3 #[.int .i64 a1_0, .int .i64 a1_1] 39 ?_; intro gb208 hg w48 hbox hb; have n0_ := mk_ (blk_below (g := gb207) (o := .cells #[.int .i64 a0_0, .int .i64 a0_1] 39 (0, 0)) kb_ hb); have n1_ := mk_ (below_step bg_ hb); have n2_ := mk_ (hbox); have n3_ := mk_ ((by rw [hg]; exact (below_size bg_) : w.heap.size ≤ gb208)); have n4_ := n3_; have n5_ := mk_ ((by rw [hg]; exact Nat.ne_of_lt (blk_lt (g := gb207) (o := .cells #[.int .i64 a0_0, .int .i64 a0_1] 39 (0, 0)) kb_) : gb207 ≠ gb208)); have n6_ := mk_ ((by rw [hg]; exact Nat.ne_of_gt (blk_lt (g := gb207) (o := .cells #[.int .i64 a0_0, .int .i64 a0_1] 39 (0, 0)) kb_) : gb208 ≠ gb207)); clear BK207 HB; have BK207 := n0_; have HB := n1_; have BK208 := n2_; have GW208 := n3_; have GE208 := n4_; have NB207_208 := n5_; have NB208_207 := n6_; clear n0_ n1_ n2_ n3_ n4_ n5_ n6_ hb hbox hg; have hnb49 := NB207_208.out; have hnc49 := NB208_207.out; have hcz50_0 : w48.cell? ⟨gb207, 0, none⟩ = some (.int .i64 a0_0) := (blk_cell BK207.out 0).trans rfl; have hcz50_1 : w48.cell? ⟨gb207, 1, none⟩ = some (.int .i64 a0_1) := (blk_cell BK207.out 1).trans rfl; have hfz50_0 := blk_frozen BK207.out 0; have hfz50_1 := blk_frozen BK207.out 1; have hcz51_0 : w48.cell? ⟨gb208, 0, none⟩ = some (.int .i64 a1_0) := (blk_cell BK208.out 0).trans rfl; have hcz51_1 : w48.cell? ⟨gb208, 1, none⟩ = some (.int .i64 a1_1) := (blk_cell BK208.out 1).trans rfl; have hfz51_0 := blk_frozen BK208.out 0; have hfz51_1 := blk_frozen BK208.out 1));go_ret;exact ⟨ew_, bg_⟩
   ·rw [if_neg c46] at H;have c46b0 : decide (a0_0 < a1_1) = false := decide_eq_false c46;clear c46;obtain rfl := Option.some.inj H;go_enter Tryz.func115, Tryz.ntmps115;go_wp2_with (first | ((with_reducible refine g_ 2 ?_); refine bx_ 2 #[.int .i64 a0_0, .int .i64 a0_1] 39 ?_; intro gb207 hg w52 hbox hb; have n0_ := mk_ (below_step bl_ hb); have n1_ := mk_ (hbox); have n2_ := mk_ ((by rw [hg]; exact (below_size bl_) : w.heap.size ≤ gb207)); have n3_ := n2_; clear HB; have HB := n0_; have BK207 := n1_; have GW207 := n2_; have GE207 := n3_; clear n0_ n1_ n2_ n3_ hb hbox hg) | ((with_reducible refine g_ 3 ?_); refine bx_ 3 #[.int .i64 a1_0, .int .i64 a1_1] 39 ?_; intro gb208 hg w53 hbox hb; have n0_ := mk_ (blk_below (g := gb207) (o := .cells #[.int .i64 a0_0, .int .i64 a0_1] 39 (0, 0)) kb_ hb); have n1_ := mk_ (below_step bg_ hb); have n2_ := mk_ (hbox); have n3_ := mk_ ((by rw [hg]; exact (below_size bg_) : w.heap.size ≤ gb208)); have n4_ := n3_; have n5_ := mk_ ((by rw [hg]; exact Nat.ne_of_lt (blk_lt (g := gb207) (o := .cells #[.int .i64 a0_0, .int .i64 a0_1] 39 (0, 0)) kb_) : gb207 ≠ gb208)); have n6_ := mk_ ((by rw [hg]; exact Nat.ne_of_gt (blk_lt (g := gb207) (o := .cells #[.int .i64 a0_0, .int .i64 a0_1] 39 (0, 0)) kb_) : gb208 ≠ gb207)); clear BK207 HB; have BK207 := n0_; have HB := n1_; have BK208 := n2_; have GW208 := n3_; have GE208 := n4_; have NB207_208 := n5_; have NB208_207 := n6_; clear n0_ n1_ n2_ n3_ n4_ n5_ n6_ hb hbox hg; have hnb54 := NB207_208.out; have hnc54 := NB208_207.out; have hcz55_0 : w53.cell? ⟨gb207, 0, none⟩ = some (.int .i64 a0_0) := (blk_cell BK207.out 0).trans rfl; have hcz55_1 : w53.cell? ⟨gb207, 1, none⟩ = some (.int .i64 a0_1) := (blk_cell BK207.out 1).trans rfl; have hfz55_0 := blk_frozen BK207.out 0; have hfz55_1 := blk_frozen BK207.out 1; have hcz56_0 : w53.cell? ⟨gb208, 0, none⟩ = some (.int .i64 a1_0) := (blk_cell BK208.out 0).trans rfl; have hcz56_1 : w53.cell? ⟨gb208, 1, none⟩ = some (.int .i64 a1_1) := (blk_cell BK208.out 1).trans rfl; have hfz56_0 := blk_frozen BK208.out 0; have hfz56_1 := blk_frozen BK208.out 1));go_ret;exact ⟨ew_, bg_⟩
  ·rw [if_neg c45] at H;have c45b0 : decide (a1_0 < a0_0) = false := decide_eq_false c45;clear c45;obtain rfl := Option.some.inj H;go_enter Tryz.func115, Tryz.ntmps115;go_wp2_with (first | ((with_reducible refine g_ 2 ?_); refine bx_ 2 #[.int .i64 a0_0, .int .i64 a0_1] 39 ?_; intro gb207 hg w57 hbox hb; have n0_ := mk_ (below_step bl_ hb); have n1_ := mk_ (hbox); have n2_ := mk_ ((by rw [hg]; exact (below_size bl_) : w.heap.size ≤ gb207)); have n3_ := n2_; clear HB; have HB := n0_; have BK207 := n1_; have GW207 := n2_; have GE207 := n3_; clear n0_ n1_ n2_ n3_ hb hbox hg) | ((with_reducible refine g_ 3 ?_); refine bx_ 3 #[.int .i64 a1_0, .int .i64 a1_1] 39 ?_; intro gb208 hg w58 hbox hb; have n0_ := mk_ (blk_below (g := gb207) (o := .cells #[.int .i64 a0_0, .int .i64 a0_1] 39 (0, 0)) kb_ hb); have n1_ := mk_ (below_step bg_ hb); have n2_ := mk_ (hbox); have n3_ := mk_ ((by rw [hg]; exact (below_size bg_) : w.heap.size ≤ gb208)); have n4_ := n3_; have n5_ := mk_ ((by rw [hg]; exact Nat.ne_of_lt (blk_lt (g := gb207) (o := .cells #[.int .i64 a0_0, .int .i64 a0_1] 39 (0, 0)) kb_) : gb207 ≠ gb208)); have n6_ := mk_ ((by rw [hg]; exact Nat.ne_of_gt (blk_lt (g := gb207) (o := .cells #[.int .i64 a0_0, .int .i64 a0_1] 39 (0, 0)) kb_) : gb208 ≠ gb207)); clear BK207 HB; have BK207 := n0_; have HB := n1_; have BK208 := n2_; have GW208 := n3_; have GE208 := n4_; have NB207_208 := n5_; have NB208_207 := n6_; clear n0_ n1_ n2_ n3_ n4_ n5_ n6_ hb hbox hg; have hnb59 := NB207_208.out; have hnc59 := NB208_207.out; have hcz60_0 : w58.cell? ⟨gb207, 0, none⟩ = some (.int .i64 a0_0) := (blk_cell BK207.out 0).trans rfl; have hcz60_1 : w58.cell? ⟨gb207, 1, none⟩ = some (.int .i64 a0_1) := (blk_cell BK207.out 1).trans rfl; have hfz60_0 := blk_frozen BK207.out 0; have hfz60_1 := blk_frozen BK207.out 1; have hcz61_0 : w58.cell? ⟨gb208, 0, none⟩ = some (.int .i64 a1_0) := (blk_cell BK208.out 0).trans rfl; have hcz61_1 : w58.cell? ⟨gb208, 1, none⟩ = some (.int .i64 a1_1) := (blk_cell BK208.out 1).trans rfl; have hfz61_0 := blk_frozen BK208.out 0; have hfz61_1 := blk_frozen BK208.out 1));go_ret;exact ⟨ew_, bg_⟩
def impl_crossed.l0 : Nat → Int → List (S39) → Int → Int → Int → Int → Option (Int)
 | 0, _, _, _, _, _, _ => none
 | k + 1, x5, x8, x9, x10, x210000, x210001 => if x10 < x9 then (if 0 ≤ x10 then (if x10 < (x8.length : Int) then ((impl_crossing.f x210000 x210001 ((rd_T39 x8 x10).f0) ((rd_T39 x8 x10).f1)).bind fun t212 => (if t212 = true then (impl_crossed.l0 k (wrap64 (x5 + 1)) x8 x9 (wrap64 (x10 + 1)) x210000 x210001) else (impl_crossed.l0 k x5 x8 x9 (wrap64 (x10 + 1)) x210000 x210001))) else (none)) else (none)) else (some x5)
def impl_crossed.f (k : Nat) (l0 : List (S39)) (a1_0 : Int) (a1_1 : Int) : Option (Int) := impl_crossed.l0 k 0 l0 (l0.length : Int) 0 a1_0 a1_1
theorem impl_crossed.calls (k : Nat) (A0 : Option Addr) (c0 : Nat) (l0 : List (S39)) (a1_0 : Int) (a1_1 : Int) (r : Int) (w : World) (hr0 : Kd.C k39 w A0 l0.length l0) (hc0 : l0.length ≤ c0) (h : impl_crossed.f k l0 a1_0 a1_1 = some r) :
  Calls Tryz.prog 88 #[.slice A0 l0.length c0, .agg #[.int .i64 a1_0, .int .i64 a1_1]] w fun e w' => e = .returned (.int .i64 r) ∧ Below w.heap.size w w' := by
 have hu39 := Tryz.underlying39;have HR0 := mk_ hr0;have HC0 := mk_ hc0;clear hr0 hc0;have HB := mk_ (Below.refl w.heap.size w);have H : (impl_crossed.l0 k 0 l0 (l0.length : Int) 0 a1_0 a1_1) = some r := h;clear h;have H' := mk_ H;clear H;go_enter Tryz.func88, Tryz.ntmps88;go_wp2_with (first | ((with_reducible refine g_ 3 ?_); refine bx_ 3 #[.int .i64 a1_0, .int .i64 a1_1] 39 ?_; intro gb209 hg w3 hbox hb; have n0_ := mk_ (below_step bl_ hb); have n1_ := mk_ (hbox); have n2_ := mk_ ((by rw [hg]; exact (below_size bl_) : w.heap.size ≤ gb209)); have n3_ := n2_; clear HB; have HB := n0_; have BK209 := n1_; have GW209 := n2_; have GE209 := n3_; clear n0_ n1_ n2_ n3_ hb hbox hg));go_loopg [5, 10] k (fun kq v5 v10 w' => ∃ (x5_1 : Int) (x10_1 : Int), v5 = .int .i64 x5_1 ∧ v10 = .int .i64 x10_1 ∧ Aside0 (impl_crossed.l0 kq x5_1 l0 (l0.length : Int) x10_1 a1_0 a1_1 = some r) ∧ Aside0 (kq ≤ k) ∧ Aside0 (w'.heap[gb209]? = some (.cells #[.int .i64 a1_0, .int .i64 a1_1] 39 (0, 0))) ∧ Aside0 (Below w.heap.size w w'))
 case atStart => exact ⟨(0), (0), (es_), (es_), H', ⟨Nat.le_refl _⟩, ⟨by exact kk_ <| BK209.out⟩, ⟨bg_⟩⟩
 case round =>
  clear H';try clear p2
  obtain ⟨x5_1, x10_1, rfl, rfl, HA, HK1, BK209, HB⟩ := hrel
  cases gk with
  | zero => exact absurd HA.out (by simp [impl_crossed.l0])
  | succ k1 =>
   have H := HA.out;clear HA;simp only [impl_crossed.l0] at H;by_cases c4 : x10_1 < (l0.length : Int)
   ·rw [if_pos c4] at H;have c4b0 : decide (x10_1 < (l0.length : Int)) = true := decide_eq_true c4;clear c4;by_cases c5 : 0 ≤ x10_1;rotate_left
    ·rw [if_neg c5] at H;exact absurd H (by simp)
    rw [if_pos c5] at H;have c5b0 : decide (0 ≤ x10_1) = true := decide_eq_true c5;clear c5;by_cases c6 : x10_1 < (l0.length : Int);rotate_left
    ·rw [if_neg c6] at H;exact absurd H (by simp)
    rw [if_pos c6] at H;have c6b0 : decide (x10_1 < (l0.length : Int)) = true := decide_eq_true c6;clear c6;replace H := Option.bind_eq_some_iff.mp H;obtain ⟨t212, A70, H⟩ := H;try dsimp only at H
    have A7 := mk_ A70;clear A70;by_cases c8 : t212 = true
    ·subst c8;have H1 : (impl_crossed.l0 k1 (wrap64 (x5_1 + 1)) l0 (l0.length : Int) (wrap64 (x10_1 + 1)) a1_0 a1_1) = some r := by rw [if_pos rfl] at H; exact H
     clear H;have H := H1;clear H1;have H' := mk_ H;clear H;have p210 : 0 ≤ (x10_1 : Int) := od_;have q210 : x10_1 < (l0.length : Int) := od_;obtain ⟨ad210, e210, hx210_0, hx210_1⟩ := at_T39 HR0.out x10_1 p210 q210;cases e210;replace hx210_0 := (HB.out.cell (World.block_lt_of_cell? w _ hx210_0)).trans hx210_0;replace hx210_1 := (HB.out.cell (World.block_lt_of_cell? w _ hx210_1)).trans hx210_1;replace p210 := eq_true p210;replace q210 := eq_true q210;go_wp2_with (first | ((with_reducible refine g_ 7 ?_); refine bx_ 7 #[.int .i64 0, .int .i64 0] 39 ?_; intro gb211 hg w9 hbox hb; have n0_ := mk_ (blk_below (g := gb209) (o := .cells #[.int .i64 a1_0, .int .i64 a1_1] 39 (0, 0)) kb_ hb); have n1_ := mk_ (below_step bg_ hb); have n2_ := mk_ (hbox); have n3_ := mk_ ((by rw [hg]; exact (below_size bg_) : w.heap.size ≤ gb211)); have n4_ := n3_; have n5_ := mk_ ((by rw [hg]; exact Nat.ne_of_lt (blk_lt (g := gb209) (o := .cells #[.int .i64 a1_0, .int .i64 a1_1] 39 (0, 0)) kb_) : gb209 ≠ gb211)); have n6_ := mk_ ((by rw [hg]; exact Nat.ne_of_gt (blk_lt (g := gb209) (o := .cells #[.int .i64 a1_0, .int .i64 a1_1] 39 (0, 0)) kb_) : gb211 ≠ gb209)); clear BK209 HB; have BK209 := n0_; have HB := n1_; have BK211 := n2_; have GW211 := n3_; have GE211 := n4_; have NB209_211 := n5_; have NB211_209 := n6_; clear n0_ n1_ n2_ n3_ n4_ n5_ n6_ hb hbox hg; have hnb10 := NB211_209.out; have hnc10 := NB209_211.out; have hcz11_0 : w9.cell? ⟨gb211, 0, none⟩ = some (.int .i64 0) := (blk_cell BK211.out 0).trans rfl; have hcz11_1 : w9.cell? ⟨gb211, 1, none⟩ = some (.int .i64 0) := (blk_cell BK211.out 1).trans rfl; have hfz11_0 := blk_frozen BK211.out 0; have hfz11_1 := blk_frozen BK211.out 1; have hcz12_0 : w9.cell? ⟨gb209, 0, none⟩ = some (.int .i64 a1_0) := (blk_cell BK209.out 0).trans rfl; have hcz12_1 : w9.cell? ⟨gb209, 1, none⟩ = some (.int .i64 a1_1) := (blk_cell BK209.out 1).trans rfl; have hfz12_0 := blk_frozen BK209.out 0; have hfz12_1 := blk_frozen BK209.out 1) | (refine gc_ 16 Tryz.func115 #[.agg #[.int .i64 a1_0, .int .i64 a1_1], .agg #[.int .i64 ((rd_T39 l0 x10_1).f0), .int .i64 ((rd_T39 l0 x10_1).f1)]] ?_; (with_reducible refine (impl_crossing.calls a1_0 a1_1 ((rd_T39 l0 x10_1).f0) ((rd_T39 l0 x10_1).f1) true _ A7.out).mono ?_); rintro e w13 ⟨rfl, hb⟩; refine ⟨_, rfl, ?_⟩; have n0_ := mk_ (blk_below (g := gb209) (o := .cells #[.int .i64 a1_0, .int .i64 a1_1] 39 (0, 0)) (by (with_reducible repeat (first | refine blk_drewN ?_ _ | refine blk_drew ?_ | refine blk_alloc ?_ _)); refine blk_far ?_ NB209_211.out _; (with_reducible repeat (first | refine blk_drewN ?_ _ | refine blk_drew ?_ | refine blk_alloc ?_ _)); refine blk_far ?_ NB209_211.out _; exact kk_ <| BK209.out) hb); have n1_ := mk_ (blk_below (g := gb211) (o := .cells #[.int .i64 ((rd_T39 l0 x10_1).f0), .int .i64 ((rd_T39 l0 x10_1).f1)] 39 (0, 0)) (by (with_reducible repeat (first | refine blk_drewN ?_ _ | refine blk_drew ?_ | refine blk_alloc ?_ _)); refine blk_put (cs := #[.int .i64 ((rd_T39 l0 x10_1).f0), .int .i64 0]) ?_ 1 _ rfl; (with_reducible repeat (first | refine blk_drewN ?_ _ | refine blk_drew ?_ | refine blk_alloc ?_ _)); refine blk_put (cs := #[.int .i64 0, .int .i64 0]) ?_ 0 _ rfl; exact kk_ <| BK211.out) hb); have n2_ := mk_ (below_step bg_ hb); clear BK209 BK211 HB; have BK209 := n0_; have BK211 := n1_; have HB := n2_; clear n0_ n1_ n2_; (try clear hb); (try clear hb2); (try clear hk); (try clear hi)));go_roundg k1
     case measure => have := HK1.out; omega
     case rel => exact ⟨(wrap64 (x5_1 + 1)), (wrap64 (x10_1 + 1)), (es_), (es_), H', ⟨by have := HK1.out; omega⟩, ⟨by exact kk_ <| BK209.out⟩, ⟨bg_⟩⟩
    ·replace c8 := Bool.eq_false_iff.mpr c8;subst c8;have H1 : (impl_crossed.l0 k1 x5_1 l0 (l0.length : Int) (wrap64 (x10_1 + 1)) a1_0 a1_1) = some r := by rw [if_neg (show ¬ (false = true) by decide)] at H; exact H
     clear H;have H := H1;clear H1;have H' := mk_ H;clear H;have p210 : 0 ≤ (x10_1 : Int) := od_;have q210 : x10_1 < (l0.length : Int) := od_;obtain ⟨ad210, e210, hx210_0, hx210_1⟩ := at_T39 HR0.out x10_1 p210 q210;cases e210;replace hx210_0 := (HB.out.cell (World.block_lt_of_cell? w _ hx210_0)).trans hx210_0;replace hx210_1 := (HB.out.cell (World.block_lt_of_cell? w _ hx210_1)).trans hx210_1;replace p210 := eq_true p210;replace q210 := eq_true q210;go_wp2_with (first | ((with_reducible refine g_ 7 ?_); refine bx_ 7 #[.int .i64 0, .int .i64 0] 39 ?_; intro gb211 hg w14 hbox hb; have n0_ := mk_ (blk_below (g := gb209) (o := .cells #[.int .i64 a1_0, .int .i64 a1_1] 39 (0, 0)) kb_ hb); have n1_ := mk_ (below_step bg_ hb); have n2_ := mk_ (hbox); have n3_ := mk_ ((by rw [hg]; exact (below_size bg_) : w.heap.size ≤ gb211)); have n4_ := n3_; have n5_ := mk_ ((by rw [hg]; exact Nat.ne_of_lt (blk_lt (g := gb209) (o := .cells #[.int .i64 a1_0, .int .i64 a1_1] 39 (0, 0)) kb_) : gb209 ≠ gb211)); have n6_ := mk_ ((by rw [hg]; exact Nat.ne_of_gt (blk_lt (g := gb209) (o := .cells #[.int .i64 a1_0, .int .i64 a1_1] 39 (0, 0)) kb_) : gb211 ≠ gb209)); clear BK209 HB; have BK209 := n0_; have HB := n1_; have BK211 := n2_; have GW211 := n3_; have GE211 := n4_; have NB209_211 := n5_; have NB211_209 := n6_; clear n0_ n1_ n2_ n3_ n4_ n5_ n6_ hb hbox hg; have hnb15 := NB211_209.out; have hnc15 := NB209_211.out; have hcz16_0 : w14.cell? ⟨gb211, 0, none⟩ = some (.int .i64 0) := (blk_cell BK211.out 0).trans rfl; have hcz16_1 : w14.cell? ⟨gb211, 1, none⟩ = some (.int .i64 0) := (blk_cell BK211.out 1).trans rfl; have hfz16_0 := blk_frozen BK211.out 0; have hfz16_1 := blk_frozen BK211.out 1; have hcz17_0 : w14.cell? ⟨gb209, 0, none⟩ = some (.int .i64 a1_0) := (blk_cell BK209.out 0).trans rfl; have hcz17_1 : w14.cell? ⟨gb209, 1, none⟩ = some (.int .i64 a1_1) := (blk_cell BK209.out 1).trans rfl; have hfz17_0 := blk_frozen BK209.out 0; have hfz17_1 := blk_frozen BK209.out 1) | (refine gc_ 16 Tryz.func115 #[.agg #[.int .i64 a1_0, .int .i64 a1_1], .agg #[.int .i64 ((rd_T39 l0 x10_1).f0), .int .i64 ((rd_T39 l0 x10_1).f1)]] ?_; (with_reducible refine (impl_crossing.calls a1_0 a1_1 ((rd_T39 l0 x10_1).f0) ((rd_T39 l0 x10_1).f1) false _ A7.out).mono ?_); rintro e w18 ⟨rfl, hb⟩; refine ⟨_, rfl, ?_⟩; have n0_ := mk_ (blk_below (g := gb209) (o := .cells #[.int .i64 a1_0, .int .i64 a1_1] 39 (0, 0)) (by (with_reducible repeat (first | refine blk_drewN ?_ _ | refine blk_drew ?_ | refine blk_alloc ?_ _)); refine blk_far ?_ NB209_211.out _; (with_reducible repeat (first | refine blk_drewN ?_ _ | refine blk_drew ?_ | refine blk_alloc ?_ _)); refine blk_far ?_ NB209_211.out _; exact kk_ <| BK209.out) hb); have n1_ := mk_ (blk_below (g := gb211) (o := .cells #[.int .i64 ((rd_T39 l0 x10_1).f0), .int .i64 ((rd_T39 l0 x10_1).f1)] 39 (0, 0)) (by (with_reducible repeat (first | refine blk_drewN ?_ _ | refine blk_drew ?_ | refine blk_alloc ?_ _)); refine blk_put (cs := #[.int .i64 ((rd_T39 l0 x10_1).f0), .int .i64 0]) ?_ 1 _ rfl; (with_reducible repeat (first | refine blk_drewN ?_ _ | refine blk_drew ?_ | refine blk_alloc ?_ _)); refine blk_put (cs := #[.int .i64 0, .int .i64 0]) ?_ 0 _ rfl; exact kk_ <| BK211.out) hb); have n2_ := mk_ (below_step bg_ hb); clear BK209 BK211 HB; have BK209 := n0_; have BK211 := n1_; have HB := n2_; clear n0_ n1_ n2_; (try clear hb); (try clear hb2); (try clear hk); (try clear hi)));go_roundg k1
     case measure => have := HK1.out; omega
     case rel => exact ⟨(x5_1), (wrap64 (x10_1 + 1)), (es_), (es_), H', ⟨by have := HK1.out; omega⟩, ⟨by exact kk_ <| BK209.out⟩, ⟨bg_⟩⟩
   ·rw [if_neg c4] at H;have c4b0 : decide (x10_1 < (l0.length : Int)) = false := decide_eq_false c4;clear c4;obtain rfl := Option.some.inj H;go_wp2;go_ret;exact ⟨ew_, bg_⟩
def impl_crossings.l0 : Nat → List (S39) → Int → List (S39) → Int → Int → Option (Int)
 | 0, _, _, _, _, _ => none
 | k + 1, x0, x3, x6, x7, x8 => if x8 < x7 then (if 0 ≤ x8 then (if x8 < (x6.length : Int) then (if x8 ≤ (x0.length : Int) then ((impl_crossed.f k (x0.take (x8 : Int).toNat) ((rd_T39 x6 x8).f0) ((rd_T39 x6 x8).f1)).bind fun t219 => (impl_crossings.l0 k x0 (wrap64 (x3 + t219)) x6 x7 (wrap64 (x8 + 1)))) else (none)) else (none)) else (none)) else (some x3)
def impl_crossings.f (k : Nat) (l0 : List (S39)) : Option (Int) := impl_crossings.l0 k l0 0 l0 (l0.length : Int) 0
def impl_crossings.T5 : Bool × List (List Nat × List Nat) := (true, [([], []), ([], []), ([], []), ([1, 2], [1, 2]), ([], []), ([3, 4], [3, 4]), ([0, 5], [0, 5]), ([6, 5, 0, 1, 2, 3, 4, 5, 6], [0, 6])])
def impl_crossings.B5 : List Nat := [0, 0, 0, 6, 0, 30, 63, 127]
theorem impl_crossings.tab5 : rtab .any (opsOf Tryz.f50 5) = impl_crossings.T5 := by kernel_rfl
theorem impl_crossings.bits5 : waitsOk impl_crossings.T5.2 impl_crossings.B5 = true := by kernel_rfl
theorem impl_crossings.calls (k : Nat) (A0 : Option Addr) (c0 : Nat) (l0 : List (S39)) (r : Int) (w : World) (hr0 : Kd.C k39 w A0 l0.length l0) (hc0 : l0.length ≤ c0) (h : impl_crossings.f k l0 = some r) :
  Calls Tryz.prog 50 #[.slice A0 l0.length c0] w fun e w' => e = .returned (.int .i64 r) ∧ Below w.heap.size w w' := by
 have hu39 := Tryz.underlying39;have HR0 := mk_ hr0;have HC0 := mk_ hc0;clear hr0 hc0;have HB := mk_ (Below.refl w.heap.size w);have H : (impl_crossings.l0 k l0 0 l0 (l0.length : Int) 0) = some r := h;clear h;have H' := mk_ H;clear H;go_enter Tryz.func50, Tryz.ntmps50;go_wp2;go_loopg [3, 8] k (fun kq v3 v8 w' => ∃ (x3_1 : Int) (x8_1 : Int), v3 = .int .i64 x3_1 ∧ v8 = .int .i64 x8_1 ∧ Aside0 (impl_crossings.l0 kq l0 x3_1 l0 (l0.length : Int) x8_1 = some r) ∧ Aside0 (kq ≤ k) ∧ Aside0 (Below w.heap.size w w'))
 case atStart => exact ⟨(0), (0), (es_), (es_), H', ⟨Nat.le_refl _⟩, ⟨bl_⟩⟩
 case round =>
  clear H';obtain ⟨x3_1, x8_1, rfl, rfl, HA, HK1, HB⟩ := hrel
  cases gk with
  | zero => exact absurd HA.out (by simp [impl_crossings.l0])
  | succ k1 =>
   have H := HA.out;clear HA;simp only [impl_crossings.l0] at H;by_cases c2 : x8_1 < (l0.length : Int)
   ·rw [if_pos c2] at H;have c2b0 : decide (x8_1 < (l0.length : Int)) = true := decide_eq_true c2;clear c2;by_cases c3 : 0 ≤ x8_1;rotate_left
    ·rw [if_neg c3] at H;exact absurd H (by simp)
    rw [if_pos c3] at H;have c3b0 : decide (0 ≤ x8_1) = true := decide_eq_true c3;clear c3;by_cases c4 : x8_1 < (l0.length : Int);rotate_left
    ·rw [if_neg c4] at H;exact absurd H (by simp)
    rw [if_pos c4] at H;have c4b0 : decide (x8_1 < (l0.length : Int)) = true := decide_eq_true c4;clear c4;have c5b0 := eq_true (od_ : 0 ≤ x8_1);by_cases c6 : x8_1 ≤ (l0.length : Int);rotate_left
    ·rw [if_neg c6] at H;exact absurd H (by simp)
    rw [if_pos c6] at H;have c6b0 := eq_true c6;have c6b1 : decide (x8_1 ≤ (l0.length : Int)) = true := decide_eq_true c6;clear c6;obtain ⟨y215, hy_⟩ : ∃ y_ : List (S39), y_ = (l0.take (x8_1 : Int).toNat) := ⟨_, rfl⟩;replace H : ((impl_crossed.f k1 y215 ((rd_T39 l0 x8_1).f0) ((rd_T39 l0 x8_1).f1)).bind fun t219 => (impl_crossings.l0 k1 l0 (wrap64 (x3_1 + t219)) l0 (l0.length : Int) (wrap64 (x8_1 + 1)))) = some r := rp_;have Ny215 := mk_ hy_;clear hy_;replace H := Option.bind_eq_some_iff.mp H;obtain ⟨t219, A70, H⟩ := H;try dsimp only at H
    have A7 := mk_ A70;clear A70;have H' := mk_ H;clear H;have p213 : 0 ≤ (x8_1 : Int) := od_;have q213 : x8_1 < (l0.length : Int) := od_;obtain ⟨ad213, e213, hx213_0, hx213_1⟩ := at_T39 HR0.out x8_1 p213 q213;cases e213;replace hx213_0 := (HB.out.cell (World.block_lt_of_cell? w _ hx213_0)).trans hx213_0;replace hx213_1 := (HB.out.cell (World.block_lt_of_cell? w _ hx213_1)).trans hx213_1;replace p213 := eq_true p213;replace q213 := eq_true q213;try go_wp2_with (first | ((with_reducible refine g_ 5 ?_); refine bx_ 5 #[.int .i64 0, .int .i64 0] 39 ?_; intro gb214 hg w8 hbox hb; have n0_ := mk_ (below_step bl_ hb); have n1_ := mk_ (hbox); have n2_ := mk_ ((by rw [hg]; exact (below_size bl_) : w.heap.size ≤ gb214)); have n3_ := n2_; clear HB; have HB := n0_; have BK214 := n1_; have GW214 := n2_; have GE214 := n3_; clear n0_ n1_ n2_ n3_ hb hbox hg; have hcz9_0 : w8.cell? ⟨gb214, 0, none⟩ = some (.int .i64 0) := (blk_cell BK214.out 0).trans rfl; have hcz9_1 : w8.cell? ⟨gb214, 1, none⟩ = some (.int .i64 0) := (blk_cell BK214.out 1).trans rfl; have hfz9_0 := blk_frozen BK214.out 0; have hfz9_1 := blk_frozen BK214.out 1))
    have n0_ : Aside0 (((w8.setCell ⟨gb214, 0, none⟩ (.int .i64 ((rd_T39 l0 x8_1).f0))).setCell ⟨gb214, 1, none⟩ (.int .i64 ((rd_T39 l0 x8_1).f1))).heap[gb214]? = some (.cells #[.int .i64 ((rd_T39 l0 x8_1).f0), .int .i64 ((rd_T39 l0 x8_1).f1)] 39 (0, 0))) := ⟨by (with_reducible repeat (first | refine blk_drewN ?_ _ | refine blk_drew ?_ | refine blk_alloc ?_ _)); refine blk_put (cs := #[.int .i64 ((rd_T39 l0 x8_1).f0), .int .i64 0]) ?_ 1 _ rfl; (with_reducible repeat (first | refine blk_drewN ?_ _ | refine blk_drew ?_ | refine blk_alloc ?_ _)); refine blk_put (cs := #[.int .i64 0, .int .i64 0]) ?_ 0 _ rfl; exact kk_ <| BK214.out⟩;have n1_ : Aside0 (Below w.heap.size w ((w8.setCell ⟨gb214, 0, none⟩ (.int .i64 ((rd_T39 l0 x8_1).f0))).setCell ⟨gb214, 1, none⟩ (.int .i64 ((rd_T39 l0 x8_1).f1)))) := ⟨bg_⟩;(try clear BK214);(try clear HB);generalize ((w8.setCell ⟨gb214, 0, none⟩ (.int .i64 ((rd_T39 l0 x8_1).f0))).setCell ⟨gb214, 1, none⟩ (.int .i64 ((rd_T39 l0 x8_1).f1))) = w10 at n0_ n1_ ⊢;have BK214 := n0_;have HB := n1_;clear n0_ n1_;have n0_ := mk_ (blk_drew BK214.out);have n1_ := mk_ (below_drew1 HB.out);clear BK214 HB;have BK214 := n0_;have HB := n1_;clear n0_ n1_;have q12 : (x8_1 : Int) ≤ ((l0.length : Int) : Int) := od_;obtain ⟨i012, hi012, _, hsz12, _⟩ := info_parts info39;have hroom12 : l0.length ≤ c0 := HC0.out;have hC12 : Kd.C k39 _ (some ad213) l0.length l0 := HR0.out;have hcut12 := cut_to (P := Tryz.prog) 26 39 .i64 Tryz.underlying26 hi012 (some ad213) l0.length c0 x8_1 (od_) q12 hroom12;have hr12 := Kd.C_take (m := (x8_1 : Int).toNat) hC12 (by omega);have hy12 : y215.length = (x8_1 : Int).toNat := (by rw [Ny215.out, List.length_take]; omega);rw [← Ny215.out] at hr12;rw [← hy12] at hcut12;have HR218 := mk_ hr12;have HC218 := mk_ (show y215.length ≤ c0 from by omega);clear hr12 hC12 hroom12 hi012 hsz12;have KY12 := mk_ hy12;clear hy12;replace q12 := eq_true q12;refine start_ (n := 8) (S := fun w' => w'.cell? ⟨gb214, 0, none⟩ = some (.int .i64 ((rd_T39 l0 x8_1).f0)) ∧ w'.cell? ⟨gb214, 1, none⟩ = some (.int .i64 ((rd_T39 l0 x8_1).f1))) (ds := []) #[false, false, false, false, false, false, false, false] (by kernel_rfl) rfl rfl ⟨(blk_cell BK214.out 0).trans rfl, (blk_cell BK214.out 1).trans rfl⟩ (fun hHeld => ?_); refine with_tabW impl_crossings.tab5 impl_crossings.bits5 (fun HT_ HW_ => ?_);generalize w10.drew = w11 at BK214 HB HR218 hHeld ⊢;refine pt_ 0 (some 13) HT_ ?_;refine pt_ 1 (some 14) HT_ ?_;refine pt_ 2 (some 15) HT_ ?_;refine pt_ 3 (some 16) HT_ ?_;refine tb2_ 4 (some 17) HT_ HW_ hHeld ?_;refine one_ (i := 5) (N := some 18) #[true, true, true, true, true, true, false, false] rfl rfl (one_of HT_.out (by kernel_rfl)) (by decide) (fun K hK => ?_);refine goes_ Tryz.func88 (by kernel_rfl) rfl #[.slice (some ad213) y215.length c0, .agg #[.int .i64 ((rd_T39 l0 x8_1).f0), .int .i64 ((rd_T39 l0 x8_1).f1)]] (by rfl) rfl rfl ma_ ?_;with_reducible refine (impl_crossed.calls k1 _ _ y215 ((rd_T39 l0 x8_1).f0) ((rd_T39 l0 x8_1).f1) t219 _ ?side1 ?side2 A7.out).mono ?_
    (case side1 => exact kc_ <| (Kd.C_below HR218.out HB.out));(case side2 => exact HC218.out);rintro e w13 ⟨rfl, hb⟩;refine ⟨_, rfl, ?_⟩;have n0_ := mk_ (blk_below (g := gb214) (o := .cells #[.int .i64 ((rd_T39 l0 x8_1).f0), .int .i64 ((rd_T39 l0 x8_1).f1)] 39 (0, 0)) kb_ hb);have n1_ := mk_ (below_step bg_ hb);clear BK214 HB;have BK214 := n0_;have HB := n1_;clear n0_ n1_;(try clear hb);(try clear hb2);(try clear hk);(try clear hi);refine hK.out _ _ ⟨(blk_cell BK214.out 0).trans rfl, (blk_cell BK214.out 1).trans rfl⟩ (fun hHeld => ?_);clear hK K;refine nm_ (some 18) ?_;refine pt_ 6 (some 19) HT_ ?_;refine pt_ 7 (some 3) HT_ ?_;refine done_ (done_of HT_.out (by kernel_rfl)) ?_;try go_wp2
    go_roundg k1
    case measure => have := HK1.out; omega
    case rel => exact ⟨(wrap64 (x3_1 + t219)), (wrap64 (x8_1 + 1)), (es_), (es_), H', ⟨by have := HK1.out; omega⟩, ⟨bg_⟩⟩
   ·rw [if_neg c2] at H;have c2b0 : decide (x8_1 < (l0.length : Int)) = false := decide_eq_false c2;clear c2;obtain rfl := Option.some.inj H;go_wp2;go_ret;exact ⟨ew_, bl_⟩
def bits_Mul.f (a0 a1 : Int) : Option (Int × Int) := if (0 ≤ a0 ∧ a0 < 18446744073709551616) ∧ 0 ≤ a1 ∧ a1 < 18446744073709551616 then some (((a0.toNat * a1.toNat / 18446744073709551616 : Nat) : Int), ((a0.toNat * a1.toNat % 18446744073709551616 : Nat) : Int)) else none
theorem bits_Mul.calls (a0 a1 : Int) (r1 r2 : Int) (w : World) (h : bits_Mul.f a0 a1 = some (r1, r2)) :
  Calls Tryz.prog 116 #[.int .u64 a0, .int .u64 a1] w fun e w' => e = .returned (.tuple #[.int .u64 r1, .int .u64 r2]) ∧ Drawn0 w w' := by
 unfold bits_Mul.f at h;by_cases hc : (0 ≤ a0 ∧ a0 < 18446744073709551616) ∧ 0 ≤ a1 ∧ a1 < 18446744073709551616
 ·rw [if_pos hc] at h;injection h with h
  injection h with e1 e2
  subst e1; subst e2;have := Any.bits_Mul Tryz.laysMul a0.toNat a1.toNat (by omega) (by omega) w;rw [Int.toNat_of_nonneg hc.1.1, Int.toNat_of_nonneg hc.2.1] at this;exact this.mono fun e w' ⟨h1, h2⟩ => ⟨h1, h2 ▸ Drawn0.refl _⟩
 ·rw [if_neg hc] at h;cases h
def slices_Repeat_int_int.f (l0 : List Int) (a1 : Int) : Option (List Int) := match l0 with
 | [x] => if 1 ≤ a1 ∧ a1 ≤ 1000 then some (List.replicate a1.toNat x) else none
 | _ => none
theorem below_cells {B g : Nat} {a : World} (hg : B ≤ g) : ∀ (vs : List Value) (o : Nat) (w : World), Below B a w → Below B a (w.setCells g o vs)
 | [], _, _, h => h
 | v :: vs, o, w, h => below_cells hg vs (o + 1) _ (h.setCell hg v)
theorem repeat_leave {w : World} {base g p : Nat} {cur : Array Value} {x : Int} (hb : w.heap[g]? = some (.cells cur 3 (0, 0))) (hbase : base ≤ g) (hp : p ≤ 1000) (hsz : cur.size = p) (hl : cur.toList = List.replicate p (.int .i64 x)) :
  Kd.R (Kd.int .i64) 3 w base (fun _ => True) (.slice (some ⟨g, 0, none⟩) p p) (List.replicate p x) := by
 have ht : cur.toList.take (p * 1) = cur.toList := List.take_of_length_le (by rw [Array.length_toList]; omega);refine ⟨fun _ _ => trivial, cur.toList.take (p * 1), ?_, ?_⟩
 ·show w.ownsRow base 3 1 _ (List.replicate p x).length _;rw [List.length_replicate];exact ⟨by rw [ht, Array.length_toList]; omega, .inr ⟨g, p, cur, rfl, hbase, hb, Nat.le_refl _, by unfold maxLen; omega, by omega, rfl⟩⟩
 ·show Reps _ 1 (List.replicate p x) _;rw [ht, hl];refine ⟨by simp, fun j q hj => ?_⟩;have hjl : j < p := by have := (List.getElem?_eq_some_iff.1 hj).1; simpa using this
  have hq : q = x := by
   rw [List.getElem?_replicate, if_pos hjl] at hj;exact (Option.some.inj hj).symm
  subst hq;show (((List.replicate p (Value.int .i64 q)).drop (j * 1)).take 1) = [Value.int .i64 q];rw [Nat.mul_one, List.drop_replicate, List.take_replicate, Nat.min_eq_left (by omega)];rfl
theorem repeat_walk (ad : Addr) (c0 p : Nat) (x : Int) (w : World) (h1 : 1 ≤ p) (h2 : p ≤ 1000) (hx : w.cell? ad = some (.int .i64 x)) (had : ad.block < w.heap.size) :
  Calls Tryz.prog 89 #[.slice (some ad) 1 c0, .int .i64 p] w fun e w' => ∃ v0_ : Value, e = .returned v0_ ∧ Kd.R (Kd.int .i64) 3 w' w.heap.size (fun _ => True) v0_ (List.replicate p x) ∧ Below w.heap.size w w' := by
 have hmul : bits_Mul.f 1 (p : Int) = some (0, (p : Int)) := by
  unfold bits_Mul.f;rw [if_pos ⟨by omega, by omega⟩];refine congrArg some (Prod.ext ?_ ?_)
  ·show (((1 : Int).toNat * (p : Int).toNat / 18446744073709551616 : Nat) : Int) = 0;rw [show (1 : Int).toNat = 1 from rfl, Int.toNat_natCast, Nat.one_mul, Nat.div_eq_of_lt (by omega)];rfl
  ·show (((1 : Int).toNat * (p : Int).toNat % 18446744073709551616 : Nat) : Int) = (p : Int);rw [show (1 : Int).toNat = 1 from rfl, Int.toNat_natCast, Nat.one_mul, Nat.mod_eq_of_lt (by omega)]
 have HM := mk_ (fun W => bits_Mul.calls 1 (p : Int) 0 (p : Int) W hmul);have HX := mk_ hx;have HA := mk_ had;clear hmul hx had;have k1 : ¬ (p : Int) < 0 := by omega
 have k2 : ¬ (p : Int) > 9223372036854775807 := by omega
 go_enter Tryz.func89, Tryz.ntmps89;go_wp2_with fail;refine (HM.out _).mono ?_;rintro e w1 ⟨rfl, hd1⟩;have B1 := mk_ hd1.below;have HX1 := mk_ (show w1.cell? ad = some (.int .i64 x) from (hd1.below.cell HA.out).trans HX.out);have HA1 := mk_ (show ad.block < w1.heap.size from Nat.lt_of_lt_of_le HA.out hd1.below.size);clear hd1 HM HX;obtain ⟨g, hg⟩ : ∃ g, w1.heap.size = g := ⟨_, rfl⟩;obtain ⟨cs0, hcs0, hcl0⟩ : ∃ cs0 : Array Value, madeCells #[.int .i64 0] p = cs0 ∧ cs0.size = p := ⟨_, rfl, size_madeCells _ _⟩
 have hmk : (Instr.makeSlice 46 (.int .i64 (p : Int)) (.int .i64 (p : Int))).run Tryz.prog w1 = .ok (.slice (some ⟨g, 0, none⟩) p p) (w1.alloc (.cells cs0 3)) := by
  have hi : (Tryz.prog.info? 3).map (fun i => (i.zero, i.size, i.bytes)) = some (some (.int .i64 0), 1, 8) := by kernel_rfl
  obtain ⟨i0, hi0, hzz⟩ := Option.map_eq_some_iff.1 hi;injection hzz with z1 z2
  injection z2 with z2 z3
  have h := run_makeSlice (P := Tryz.prog) w1 46 3 i0 (.int .i64 0) Tryz.underlying46 hi0 z1 .i64 .i64 (p : Int) (p : Int) (by omega) (by omega) (by rw [z2]; omega) (by rw [z3]; omega) (by omega);rw [z2, Int.toNat_natCast, Nat.mul_one] at h;rw [← hg, ← hcs0];exact h
 have hne : ad.block ≠ g := by rw [← hg]; exact Nat.ne_of_lt HA1.out
 have hb0 : (w1.alloc (.cells cs0 3)).heap[g]? = some (.cells cs0 3 (0, 0)) := by rw [← hg]; exact (MapKept.heap_alloc w1 _).1
 have hx2 : (w1.alloc (.cells cs0 3)).cell? ad = some (.int .i64 x) := (World.cell?_alloc_lt _ _ _ HA1.out).trans HX1.out
 have hblk : ∀ (W : World) (cur : Array Value), W.heap[g]? = some (.cells cur 3 (0, 0)) → (∀ j, j < cur.size → (W.cell? ⟨g, j, none⟩).isSome = true) ∧ ∀ j, W.frozen? ⟨g, j, none⟩ = false := by
  intro W cur h;refine ⟨fun j hj => ?_, fun j => ?_⟩
  ·simp [World.cell?, h, hj]
  ·simp [World.frozen?, h]
 have hcp : ∀ ty, (Builtin.copy_ #[46, 46] ty #[.slice (some ⟨g, 0, none⟩) p p, .slice (some ad) 1 c0]).run Tryz.prog (w1.alloc (.cells cs0 3)) = .ok (.int .i64 1) ((w1.alloc (.cells cs0 3)).setCells g 0 [.int .i64 x]) := by
  intro ty;have hq := hblk _ cs0 hb0
  exact run_copy_cells (P := Tryz.prog) _ 46 46 ty 3 g 0 p p ad 1 c0 [.int .i64 x] Tryz.underlying46 (by kernel_rfl) (by show 1 = Nat.min 1 p; exact (Nat.min_eq_left h1).symm) (fun j v hj => by
   match j, hj with
   | 0, hj => simp at hj; subst hj; simpa [Addr.add] using hx2) (fun j hj => hq.1 _ (by simp at hj; omega)) (fun j _ => hq.2 _) (by intro v hv; simp at hv; subst hv; rfl)
 obtain ⟨W2, hW2⟩ : ∃ W2, W2 = (w1.alloc (.cells cs0 3)).setCells g 0 [.int .i64 x] := ⟨_, rfl⟩;rw [← hW2] at hcp;obtain ⟨cur1, e1, e2, e3⟩ := setCells_row [.int .i64 x] 0 (w1.alloc (.cells cs0 3)) cs0 hb0 (by simp; omega);rw [← hW2] at e1;have R1 := mk_ (show W2.heap[g]? = some (.cells cur1 3 (0, 0)) ∧ cur1.size = p ∧ ∃ rest, cur1.toList = List.replicate 1 (.int .i64 x) ++ rest from ⟨e1, by omega, cs0.toList.drop 1, by rw [e3]; simp⟩)
 have B2 := mk_ (show Below w.heap.size w W2 from by
  rw [hW2]
  refine B1.out.trans (Below.mono ?_ B1.out.size)
  exact (Below.alloc (Below.refl _ _) (Nat.le_refl _) _).setCell (by rw [hg]; exact Nat.le_refl _) _)
 have HB := mk_ hblk;have HG := mk_ (show w.heap.size ≤ g from by rw [← hg]; exact B1.out.size);clear e1 e2 e3 hW2 hblk hx2 hb0 hne hcs0 hcl0;go_wp2_with fail;go_loopg [8] p (fun gg s8 wr => ∃ (n : Nat) (cur : Array Value), 1 ≤ n ∧ n ≤ p ∧ p - n ≤ gg ∧ s8 = .int .i64 (n : Int) ∧ Aside0 (wr.heap[g]? = some (.cells cur 3 (0, 0)) ∧ cur.size = p ∧ ∃ rest, cur.toList = List.replicate n (.int .i64 x) ++ rest) ∧ Aside0 (Below w.heap.size w wr))
 case atStart => exact ⟨1, cur1, Nat.le_refl _, h1, by omega, rfl, R1, B2⟩
 case round =>
  obtain ⟨n, cur, hn1, hn2, hg2, rfl, HR, HBr⟩ := hrel;by_cases hlt : n < p
  ·have q0 : (n : Int) < (p : Int) := by omega
   have q1 : (0 : Int) ≤ (n : Int) := by omega
   have q2 : (n : Int) ≤ (p : Int) := by omega
   have q3 : ¬ p = n := by omega
   have q4 : n ≤ p := hn2;obtain ⟨r1, r2, rest, r3⟩ := HR.out;obtain ⟨m, hm⟩ : ∃ m, Nat.min n (p - n) = m := ⟨_, rfl⟩
   have hm1 : 1 ≤ m ∧ m ≤ n ∧ m ≤ p - n := by
    rw [← hm];show 1 ≤ min n (p - n) ∧ min n (p - n) ≤ n ∧ min n (p - n) ≤ p - n;omega
   obtain ⟨W3, hW3⟩ : ∃ W3, W3 = wr.drew.setCells g n (List.replicate m (.int .i64 x)) := ⟨_, rfl⟩
   have hcp2 : ∀ ty, (Builtin.copy_ #[46, 46] ty #[.slice (some ⟨g, n, none⟩) (p - n) (p - n), .slice (some ⟨g, 0, none⟩) n p]).run Tryz.prog wr.drew = .ok (.int .i64 m) W3 := by
    intro ty;have hq := HB.out wr.drew cur r1
    have h := run_copy_cells (P := Tryz.prog) wr.drew 46 46 ty 3 g n (p - n) (p - n) ⟨g, 0, none⟩ n p (List.replicate m (.int .i64 x)) Tryz.underlying46 (by kernel_rfl) (by rw [List.length_replicate]; exact hm.symm) (fun j v hj => by
     rw [List.getElem?_replicate] at hj
     split at hj
     ·rename_i hjm
      obtain rfl := (Option.some.inj hj).symm
      rw [Addr.add_lit]
      have hc : cur[0 + j]? = some (Value.int .i64 x) := by
       rw [← Array.getElem?_toList, r3, Nat.zero_add, List.getElem?_append_left (by simp; omega), List.getElem?_replicate, if_pos (by omega)]
      show World.cell? wr ⟨g, 0 + j, none⟩ = _
      simp only [World.cell?, r1]
      simpa using hc
     ·cases hj) (fun j hj => hq.1 _ (by simp at hj; omega)) (fun j _ => hq.2 _) (by intro v hv; rw [List.eq_of_mem_replicate hv]; rfl)
    rw [List.length_replicate, ← hW3] at h;exact h
   obtain ⟨cur2, e1, e2, e3⟩ := setCells_row (List.replicate m (.int .i64 x)) n wr.drew cur r1 (by simp; omega);rw [← hW3] at e1
   have R2 := mk_ (show W3.heap[g]? = some (.cells cur2 3 (0, 0)) ∧ cur2.size = p ∧ ∃ rest, cur2.toList = List.replicate (n + m) (.int .i64 x) ++ rest from ⟨e1, by omega, cur.toList.drop (n + m), by
    rw [e3, r3, List.length_replicate, List.take_left' (by simp), ← List.replicate_append_replicate]⟩)
   have B3 := mk_ (show Below w.heap.size w W3 from by
    rw [hW3]
    exact below_cells HG.out _ _ _ HBr.out.drew)
   have hmix : Tryz.prog.follows Departure.mixedOrders = true := by kernel_rfl
   have mixed := hmix;clear r1 r2 r3 e1 e2 e3 hW3 HR HBr;go_wp2_with fail;go_region_law_o (fail);have q5 := mk_ (show IntKind.i64.wrap ((n : Int) + (m : Int)) = ((n + m : Nat) : Int) from by rw [IntKind.wrap_i64]; omega);go_wp2;go_roundg (p - (n + m))
   (case measure => omega);(case rel => exact ⟨n + m, cur2, by omega, by omega, Nat.le_refl _, by rw [q5.out], R2, B3⟩)
  ·have q0 : ¬ (n : Int) < (p : Int) := by omega
   go_wp2_with fail;go_ret;obtain rfl : n = p := by omega
   obtain ⟨r1, r2, rest, r3⟩ := HR.out;have hl := congrArg List.length r3;rw [Array.length_toList, List.length_append, List.length_replicate] at hl;have hr : rest = [] := List.eq_nil_of_length_eq_zero (by omega);rw [hr, List.append_nil] at r3;exact ⟨_, rfl, repeat_leave r1 HG.out h2 r2 r3, HBr.out⟩
theorem slices_Repeat_int_int.calls (A0 : Option Addr) (c0 : Nat) (l0 : List Int) (a1 : Int) (r : List Int) (w : World) (hr0 : Kd.C (Kd.int .i64) w A0 l0.length l0) (hc0 : l0.length ≤ c0) (h : slices_Repeat_int_int.f l0 a1 = some r) :
  Calls Tryz.prog 89 #[.slice A0 l0.length c0, .int .i64 a1] w fun e w' => ∃ v0_ : Value, e = .returned v0_ ∧ Kd.R (Kd.int .i64) 3 w' w.heap.size (fun _ => True) v0_ r ∧ Below w.heap.size w w' := by
 unfold slices_Repeat_int_int.f at h;split at h
 ·rename_i x;split at h
  ·rename_i hc;obtain rfl := Option.some.inj h;obtain ⟨ad, rfl, hcell0⟩ := Kd.at_int hr0 (0 : Int) (by decide) (by simp);obtain ⟨p, rfl⟩ : ∃ p : Nat, a1 = (p : Int) := ⟨a1.toNat, by omega⟩;have hx : w.cell? ad = some (.int .i64 x) := by simpa [Addr.add, rd] using hcell0
   rw [Int.toNat_natCast];exact repeat_walk ad c0 p x w (by omega) (by omega) hx (World.block_lt_of_cell? w ad hx)
  ·cases h
 ·cases h
def slices_Index_int_int.l0 : Nat → List Int → Int → Int → Int → Option (Int)
 | 0, _, _, _, _ => none
 | k + 1, x0, x1, x7, x8 => if x8 < x7 then (if 0 ≤ x8 then (if x8 < (x0.length : Int) then (if x1 = (rd x0 x8) then (some x8) else (slices_Index_int_int.l0 k x0 x1 x7 (wrap64 (x8 + 1)))) else (none)) else (none)) else (some (-1))
def slices_Index_int_int.f (k : Nat) (l0 : List Int) (a1 : Int) : Option (Int) := slices_Index_int_int.l0 k l0 a1 (l0.length : Int) 0
theorem slices_Index_int_int.calls (k : Nat) (A0 : Option Addr) (c0 : Nat) (l0 : List Int) (a1 : Int) (r : Int) (w : World) (hr0 : Kd.C (Kd.int .i64) w A0 l0.length l0) (hc0 : l0.length ≤ c0) (h : slices_Index_int_int.f k l0 a1 = some r) :
  Calls Tryz.prog 117 #[.slice A0 l0.length c0, .int .i64 a1] w fun e w' => e = .returned (.int .i64 r) ∧ Drawn0 w w' := by
 have HR0 := mk_ hr0;have HC0 := mk_ hc0;clear hr0 hc0;have H : (slices_Index_int_int.l0 k l0 a1 (l0.length : Int) 0) = some r := h;clear h;have H' := mk_ H;clear H;go_enter Tryz.func117, Tryz.ntmps117;go_wp2;go_loopg [8] k (fun kq v8 w' => ∃ (x8_1 : Int), v8 = .int .i64 x8_1 ∧ Aside0 (slices_Index_int_int.l0 kq l0 a1 (l0.length : Int) x8_1 = some r) ∧ Aside0 (kq ≤ k) ∧ Drawn0 w w')
 case atStart => exact ⟨(0), (es_), H', ⟨Nat.le_refl _⟩, dr_⟩
 case round =>
  clear H';try clear c1
  try clear p2
  obtain ⟨x8_1, rfl, HA, HK1, ⟨m1, rfl⟩⟩ := hrel
  cases gk with
  | zero => exact absurd HA.out (by simp [slices_Index_int_int.l0])
  | succ k1 =>
   have H := HA.out;clear HA;simp only [slices_Index_int_int.l0] at H;by_cases c3 : x8_1 < (l0.length : Int)
   ·rw [if_pos c3] at H;have c3b0 : decide (x8_1 < (l0.length : Int)) = true := decide_eq_true c3;clear c3;by_cases c4 : 0 ≤ x8_1;rotate_left
    ·rw [if_neg c4] at H;exact absurd H (by simp)
    rw [if_pos c4] at H;have c4b0 : decide (0 ≤ x8_1) = true := decide_eq_true c4;clear c4;by_cases c5 : x8_1 < (l0.length : Int);rotate_left
    ·rw [if_neg c5] at H;exact absurd H (by simp)
    rw [if_pos c5] at H;have c5b0 : decide (x8_1 < (l0.length : Int)) = true := decide_eq_true c5;clear c5;by_cases c6 : a1 = (rd l0 x8_1)
    ·rw [if_pos c6] at H;have c6b0 : (a1 == (rd l0 x8_1)) = true := beq_iff_eq.mpr c6;have c6b1 : (a1 != (rd l0 x8_1)) = false := bne_eq_false_iff_eq.mpr c6;clear c6;obtain rfl := Option.some.inj H;have p220 : 0 ≤ (x8_1 : Int) := od_;have q220 : x8_1 < (l0.length : Int) := od_;obtain ⟨ad220, e220, hx220_0⟩ := Kd.at_int HR0.out x8_1 p220 q220;cases e220;replace p220 := eq_true p220;replace q220 := eq_true q220;go_wp2;go_ret;exact ⟨es_, dr_⟩
    ·rw [if_neg c6] at H;have c6b0 : (a1 == (rd l0 x8_1)) = false := beq_eq_false_iff_ne.mpr c6;have c6b1 : (a1 != (rd l0 x8_1)) = true := bne_iff_ne.mpr c6;have H' := mk_ H;clear H;have p220 : 0 ≤ (x8_1 : Int) := od_;have q220 : x8_1 < (l0.length : Int) := od_;obtain ⟨ad220, e220, hx220_0⟩ := Kd.at_int HR0.out x8_1 p220 q220;cases e220;replace p220 := eq_true p220;replace q220 := eq_true q220;go_wp2;go_roundg k1
     case measure => have := HK1.out; omega
     case rel => exact ⟨(wrap64 (x8_1 + 1)), (es_), H', ⟨by have := HK1.out; omega⟩, dr_⟩
   ·rw [if_neg c3] at H;have c3b0 : decide (x8_1 < (l0.length : Int)) = false := decide_eq_false c3;clear c3;obtain rfl := Option.some.inj H;go_wp2;go_ret;exact ⟨es_, dr_⟩
def slices_Contains_int_int.f (k : Nat) (l0 : List Int) (a1 : Int) : Option (Bool) := (slices_Index_int_int.f k l0 a1).bind fun t221 => (some (decide (t221 ≥ 0)))
theorem slices_Contains_int_int.calls (k : Nat) (A0 : Option Addr) (c0 : Nat) (l0 : List Int) (a1 : Int) (r : Bool) (w : World) (hr0 : Kd.C (Kd.int .i64) w A0 l0.length l0) (hc0 : l0.length ≤ c0) (h : slices_Contains_int_int.f k l0 a1 = some r) :
  Calls Tryz.prog 90 #[.slice A0 l0.length c0, .int .i64 a1] w fun e w' => e = .returned (.bool r) ∧ Drawn0 w w' := by
 have HR0 := mk_ hr0;have HC0 := mk_ hc0;clear hr0 hc0;have H : ((slices_Index_int_int.f k l0 a1).bind fun t221 => (some (decide (t221 ≥ 0)))) = some r := h;clear h;replace H := Option.bind_eq_some_iff.mp H;obtain ⟨t221, A30, H⟩ := H;try dsimp only at H
 have A3 := mk_ A30;clear A30;obtain rfl := Option.some.inj H;go_enter Tryz.func90, Tryz.ntmps90;go_wp2_with (first | (refine gc_ 7 Tryz.func117 #[.slice A0 l0.length c0, .int .i64 a1] ?_; (with_reducible refine (slices_Index_int_int.calls k _ _ l0 a1 t221 _ ?side1 ?side2 A3.out).mono ?_); (case side1 => exact kc_ <| HR0.out); (case side2 => exact HC0.out); rintro e w' ⟨rfl, ⟨nd, rfl⟩⟩; refine ⟨_, rfl, ?_⟩));go_ret;exact ⟨es_, dr_⟩
def joinL : List S39 → List Int → Option (Option (List Int))
 | [], xs => some (some xs)
 | c :: l, xs => if (0 ≤ c.f0 ∧ c.f0 < xs.length) ∧ (0 ≤ c.f1 ∧ c.f1 < xs.length) then (if rd xs c.f0 ≥ 0 ∨ rd xs c.f1 ≥ 0 then some none else joinL l ((xs.set c.f0.toNat c.f1).set c.f1.toNat c.f0)) else none
def impl_partners.f (k : Nat) (a0 : Int) (l1 : List S39) : Option (List Int × Bool) := (slices_Repeat_int_int.f [-1] a0).bind fun out => (joinL l1 out).bind fun r => match r with
 | none => some ([], false)
 | some xs => (slices_Contains_int_int.f k xs (-1)).bind fun b => some (xs, !b)
theorem partners_walk (k : Nat) (a0 : Int) (A1 : Option Addr) (c1 : Nat) (l1 : List S39) (out : List Int) (r1 : List Int) (r2 : Bool) (w : World) (hr1 : Kd.C k39 w A1 l1.length l1) (hc1 : l1.length ≤ c1)
  (HR : Aside0 (slices_Repeat_int_int.f [-1] a0 = some out)) (HJ : Aside0 ((joinL l1 out).bind (fun r => match r with
 | none => some ([], false)
 | some xs => (slices_Contains_int_int.f k xs (-1)).bind fun b => some (xs, !b)) = some (r1, r2))) :
  Calls Tryz.prog 51 #[.int .i64 a0, .slice A1 l1.length c1] w fun e w' => ∃ v0_ : Value, e = .returned (.tuple #[v0_, .bool r2]) ∧ Kd.R (Kd.int .i64) 3 w' w.heap.size (fun _ => True) v0_ r1 ∧ Below w.heap.size w w' := by
 have HC := mk_ hr1;clear hr1;go_enter Tryz.func51, Tryz.ntmps51
 have hrep := slices_Repeat_int_int.calls (some ⟨w.heap.size, 0, none⟩) 1 [-1] a0 out (w.alloc (.cells #[.int .i64 (-1)] 3)) (by
  refine ⟨rfl, by simp, fun _ => ⟨⟨w.heap.size, 0, none⟩, rfl, fun j p hj => ?_⟩⟩
  match j, hj with
  | 0, hj =>
   simp at hj
   subst hj
   exact ⟨[.int .i64 (-1)], rfl, rfl, fun i u hu => by
    match i, hu with
    | 0, hu => simp at hu; subst hu; simp [Addr.add]⟩) (by simp) HR.out
 have HREP := mk_ hrep;clear hrep;go_wp2_with fail;refine HREP.out.mono ?_;rintro e w1 ⟨v, rfl, hR, hB⟩;have B1 := mk_ (below_step (below_alloc (Below.refl w.heap.size w) _) hB);have R1 := mk_ (Kd.R_lower hR (show w.heap.size ≤ _ by simp));clear hR hB HREP
 have hout : out.length = a0.toNat ∧ 1 ≤ a0 := by
  have h := HR.out;unfold slices_Repeat_int_int.f at h;simp only at h;split at h
  ·rename_i hc;obtain rfl := Option.some.inj h;exact ⟨by simp, hc.1⟩
  ·cases h
 obtain ⟨g, cap, rfl, hbg, hgl, _⟩ := Kd.R_form R1.out (by omega);have HOUT := mk_ hout;clear hout;go_wp2_with fail
 go_loopg [14] l1.length (fun gg s14 wr => ∃ (i : Nat) (xs : List Int), i ≤ l1.length ∧ l1.length - i ≤ gg ∧ s14 = .int .i64 (i : Int) ∧ xs.length = out.length ∧
  Aside0 (Kd.R (Kd.int .i64) 3 wr w.heap.size (fun _ => True) (.slice (some ⟨g, 0, none⟩) out.length cap) xs) ∧ Aside0 (Below w.heap.size w wr) ∧ Aside0 (joinL (l1.drop i) xs = joinL l1 out))
 case atStart => exact ⟨0, out, Nat.zero_le _, by omega, rfl, rfl, R1, B1, ⟨by rw [List.drop_zero]⟩⟩
 case round =>
  obtain ⟨i, xs, hi, hg2, rfl, hxl, HRr, HBr, HJr⟩ := hrel;by_cases hlt : i < l1.length
  ·have q0 : (i : Int) < (l1.length : Int) := by omega
   obtain ⟨ad, hA, m0, m1⟩ := at_T39 HC.out (i : Int) (by omega) q0;cases hA;replace m0 := (HBr.out.cell (World.block_lt_of_cell? w _ m0)).trans m0;replace m1 := (HBr.out.cell (World.block_lt_of_cell? w _ m1)).trans m1;obtain ⟨cc, hce⟩ : ∃ cc, l1[i] = cc := ⟨_, rfl⟩
   have hget : rd_T39 l1 (i : Int) = cc := by
    rw [← hce];show l1.getD (i : Int).toNat _ = _;rw [Int.toNat_natCast, List.getD_eq_getElem?_getD, List.getElem?_eq_getElem hlt]; rfl
   rw [hget, Int.toNat_natCast] at m0 m1;have hdrop : l1.drop i = l1[i] :: l1.drop (i + 1) := List.drop_eq_getElem_cons hlt;rw [hce] at hdrop;obtain ⟨f0, f1⟩ := cc;have hJ := HJr.out;rw [hdrop] at hJ;have hJ2 := HJ.out;rw [← hJ] at hJ2;simp only [joinL] at hJ hJ2;by_cases hin : (0 ≤ f0 ∧ f0 < xs.length) ∧ (0 ≤ f1 ∧ f1 < xs.length)
   ·rw [if_pos hin] at hJ hJ2;obtain ⟨v0, hv0⟩ : ∃ v, v = rd xs f0 := ⟨_, rfl⟩;obtain ⟨v1, hv1⟩ : ∃ v, v = rd xs f1 := ⟨_, rfl⟩;rw [← hv0, ← hv1] at hJ hJ2;have HV0 := mk_ hv0;have HV1 := mk_ hv1;clear hv0 hv1;have HJa := mk_ hJ;have HJb := mk_ hJ2;clear hJ hJ2 hget hdrop hce HJr;have hin1 : f0 < (out.length : Int) := by omega
    have hin2 : f1 < (out.length : Int) := by omega
    have hx1 := eq_true hin.1.1;have hx2 := eq_true hin1;have hx3 := eq_true hin.2.1;have hx4 := eq_true hin2;have HIN := mk_ hin;have HIN1 := mk_ (And.intro hin1 hin2);clear hin hin1 hin2;by_cases hv0 : 0 ≤ v0
    ·have e0 := mk_ HJb.out;rw [if_pos (show v0 ≥ 0 ∨ v1 ≥ 0 from .inl hv0)] at HJb;have hv0b := eq_true hv0;clear hv0 e0;go_wp2_with (first | ((with_reducible refine g_ 8 ?_); refine bx_ 8 #[.int .i64 0, .int .i64 0] 39 ?_; intro gb hg w16 hbox hb; have HGB := mk_ hg; clear hg; have hcz17_0 : w16.cell? ⟨gb, 0, none⟩ = some (.int .i64 0) := (blk_cell hbox 0).trans rfl; have hcz17_1 : w16.cell? ⟨gb, 1, none⟩ = some (.int .i64 0) := (blk_cell hbox 1).trans rfl; have hfz17_0 := blk_frozen hbox 0; have hfz17_1 := blk_frozen hbox 1; have HBOX := mk_ hbox; have HBB := mk_ hb; clear hbox hb) | ((with_reducible refine gate_store (t := 39) (p := 8) rfl ?_); refine store_event (t := 39) (p := 8) (v := ?vo_w18) (w1 := ((w16.setCell ⟨gb, 0, none⟩ (.int .i64 f0)).setCell ⟨gb, 1, none⟩ (.int .i64 f1))) ?hg ?ho ?hn ?hr ?_; (case ho => rfl); (case hg => rfl); (case hn => rfl); (case hr => first | (go_simp; done) | (go_simp; rfl)); intro w18 hw; clear hcz17_0 hcz17_1 hfz17_0 hfz17_1; have R18 : Kd.R (Kd.int .i64) 3 w18 w.heap.size (fun _ => True) (.slice (some ⟨g, 0, none⟩) out.length cap) xs := (by rw [hw]; exact Kd.R_mono (Kd.R_far (p := ⟨gb, 1, none⟩) (Kd.R_far (p := ⟨gb, 0, none⟩) (Kd.R_types (Kd.R_below HRr.out HBB.out) HBOX.out (by decide)) (fun _ hk => hk.2) (.int .i64 f0)) (fun _ hk => hk.2) (.int .i64 f1)) (fun _ hk => trivial)); have X18 : w18.heap[gb]? = some (.cells #[.int .i64 f0, .int .i64 f1] 39 (0, 0)) := (by rw [hw]; refine blk_put (cs := #[.int .i64 f0, .int .i64 0]) ?_ 1 _ rfl; refine blk_put (cs := #[.int .i64 0, .int .i64 0]) ?_ 0 _ rfl; exact HBOX.out); have hwb := below_size HBr.out; have B18 : Below w.heap.size w w18 := (by rw [hw]; exact below_set (below_set (below_step HBr.out HBB.out) (by rw [HGB.out]; exact hwb) ) (by rw [HGB.out]; exact hwb)); clear hw HBOX HBB HGB hwb; have gz0 := (Kd.R_celln 0 R18 f0 HIN.out.1.1 HIN1.out.1).2; have gz1 := (Kd.R_celln 0 R18 f1 HIN.out.2.1 HIN1.out.2).2; have gc0 : w18.cell? ⟨g, f0.toNat, none⟩ = some (.int .i64 v0) := (by rw [HV0.out]; exact (Kd.R_celln 0 R18 f0 HIN.out.1.1 HIN1.out.1).1); have gc1 : w18.cell? ⟨g, f1.toNat, none⟩ = some (.int .i64 v1) := (by rw [HV1.out]; exact (Kd.R_celln 0 R18 f1 HIN.out.2.1 HIN1.out.2).1); have bc0 : w18.cell? ⟨gb, 0, none⟩ = some (.int .i64 f0) := (blk_cell X18 0).trans rfl; have bc1 : w18.cell? ⟨gb, 1, none⟩ = some (.int .i64 f1) := (blk_cell X18 1).trans rfl; have hgg : g ≠ gb := (by have h := Kd.R_ne R18 X18 (by decide); intro h2; subst h2; exact h rfl); have XX := mk_ X18; have RR := mk_ R18; have BB := mk_ B18; clear X18 R18 B18));have hJ := HJb.out;rw [Option.bind_some] at hJ;injection hJ with hJ
     injection hJ with e1 e2
     subst e1; subst e2;go_ret2;exact ⟨_, rfl, Kd.R_nil _ _ _ _ _, BB.out⟩
    ·by_cases hv1 : 0 ≤ v1
     ·rw [if_pos (show v0 ≥ 0 ∨ v1 ≥ 0 from .inr hv1)] at HJb;have hv0b := eq_false hv0;have hv1b := eq_true hv1;clear hv0 hv1;go_wp2_with (first | ((with_reducible refine g_ 8 ?_); refine bx_ 8 #[.int .i64 0, .int .i64 0] 39 ?_; intro gb hg w16 hbox hb; have HGB := mk_ hg; clear hg; have hcz17_0 : w16.cell? ⟨gb, 0, none⟩ = some (.int .i64 0) := (blk_cell hbox 0).trans rfl; have hcz17_1 : w16.cell? ⟨gb, 1, none⟩ = some (.int .i64 0) := (blk_cell hbox 1).trans rfl; have hfz17_0 := blk_frozen hbox 0; have hfz17_1 := blk_frozen hbox 1; have HBOX := mk_ hbox; have HBB := mk_ hb; clear hbox hb) | ((with_reducible refine gate_store (t := 39) (p := 8) rfl ?_); refine store_event (t := 39) (p := 8) (v := ?vo_w18) (w1 := ((w16.setCell ⟨gb, 0, none⟩ (.int .i64 f0)).setCell ⟨gb, 1, none⟩ (.int .i64 f1))) ?hg ?ho ?hn ?hr ?_; (case ho => rfl); (case hg => rfl); (case hn => rfl); (case hr => first | (go_simp; done) | (go_simp; rfl)); intro w18 hw; clear hcz17_0 hcz17_1 hfz17_0 hfz17_1; have R18 : Kd.R (Kd.int .i64) 3 w18 w.heap.size (fun _ => True) (.slice (some ⟨g, 0, none⟩) out.length cap) xs := (by rw [hw]; exact Kd.R_mono (Kd.R_far (p := ⟨gb, 1, none⟩) (Kd.R_far (p := ⟨gb, 0, none⟩) (Kd.R_types (Kd.R_below HRr.out HBB.out) HBOX.out (by decide)) (fun _ hk => hk.2) (.int .i64 f0)) (fun _ hk => hk.2) (.int .i64 f1)) (fun _ hk => trivial)); have X18 : w18.heap[gb]? = some (.cells #[.int .i64 f0, .int .i64 f1] 39 (0, 0)) := (by rw [hw]; refine blk_put (cs := #[.int .i64 f0, .int .i64 0]) ?_ 1 _ rfl; refine blk_put (cs := #[.int .i64 0, .int .i64 0]) ?_ 0 _ rfl; exact HBOX.out); have hwb := below_size HBr.out; have B18 : Below w.heap.size w w18 := (by rw [hw]; exact below_set (below_set (below_step HBr.out HBB.out) (by rw [HGB.out]; exact hwb) ) (by rw [HGB.out]; exact hwb)); clear hw HBOX HBB HGB hwb; have gz0 := (Kd.R_celln 0 R18 f0 HIN.out.1.1 HIN1.out.1).2; have gz1 := (Kd.R_celln 0 R18 f1 HIN.out.2.1 HIN1.out.2).2; have gc0 : w18.cell? ⟨g, f0.toNat, none⟩ = some (.int .i64 v0) := (by rw [HV0.out]; exact (Kd.R_celln 0 R18 f0 HIN.out.1.1 HIN1.out.1).1); have gc1 : w18.cell? ⟨g, f1.toNat, none⟩ = some (.int .i64 v1) := (by rw [HV1.out]; exact (Kd.R_celln 0 R18 f1 HIN.out.2.1 HIN1.out.2).1); have bc0 : w18.cell? ⟨gb, 0, none⟩ = some (.int .i64 f0) := (blk_cell X18 0).trans rfl; have bc1 : w18.cell? ⟨gb, 1, none⟩ = some (.int .i64 f1) := (blk_cell X18 1).trans rfl; have hgg : g ≠ gb := (by have h := Kd.R_ne R18 X18 (by decide); intro h2; subst h2; exact h rfl); have XX := mk_ X18; have RR := mk_ R18; have BB := mk_ B18; clear X18 R18 B18));have hJ := HJb.out;rw [Option.bind_some] at hJ;injection hJ with hJ
      injection hJ with e1 e2
      subst e1; subst e2;go_ret2;exact ⟨_, rfl, Kd.R_nil _ _ _ _ _, BB.out⟩
     ·rw [if_neg (show ¬ (v0 ≥ 0 ∨ v1 ≥ 0) from fun h => h.elim hv0 hv1)] at HJa HJb;have hv0b := eq_false hv0;have hv1b := eq_false hv1;clear hv0 hv1;go_wp2_with (first | ((with_reducible refine g_ 8 ?_); refine bx_ 8 #[.int .i64 0, .int .i64 0] 39 ?_; intro gb hg w16 hbox hb; have HGB := mk_ hg; clear hg; have hcz17_0 : w16.cell? ⟨gb, 0, none⟩ = some (.int .i64 0) := (blk_cell hbox 0).trans rfl; have hcz17_1 : w16.cell? ⟨gb, 1, none⟩ = some (.int .i64 0) := (blk_cell hbox 1).trans rfl; have hfz17_0 := blk_frozen hbox 0; have hfz17_1 := blk_frozen hbox 1; have HBOX := mk_ hbox; have HBB := mk_ hb; clear hbox hb) | ((with_reducible refine gate_store (t := 39) (p := 8) rfl ?_); refine store_event (t := 39) (p := 8) (v := ?vo_w18) (w1 := ((w16.setCell ⟨gb, 0, none⟩ (.int .i64 f0)).setCell ⟨gb, 1, none⟩ (.int .i64 f1))) ?hg ?ho ?hn ?hr ?_; (case ho => rfl); (case hg => rfl); (case hn => rfl); (case hr => first | (go_simp; done) | (go_simp; rfl)); intro w18 hw; clear hcz17_0 hcz17_1 hfz17_0 hfz17_1; have R18 : Kd.R (Kd.int .i64) 3 w18 w.heap.size (fun _ => True) (.slice (some ⟨g, 0, none⟩) out.length cap) xs := (by rw [hw]; exact Kd.R_mono (Kd.R_far (p := ⟨gb, 1, none⟩) (Kd.R_far (p := ⟨gb, 0, none⟩) (Kd.R_types (Kd.R_below HRr.out HBB.out) HBOX.out (by decide)) (fun _ hk => hk.2) (.int .i64 f0)) (fun _ hk => hk.2) (.int .i64 f1)) (fun _ hk => trivial)); have X18 : w18.heap[gb]? = some (.cells #[.int .i64 f0, .int .i64 f1] 39 (0, 0)) := (by rw [hw]; refine blk_put (cs := #[.int .i64 f0, .int .i64 0]) ?_ 1 _ rfl; refine blk_put (cs := #[.int .i64 0, .int .i64 0]) ?_ 0 _ rfl; exact HBOX.out); have hwb := below_size HBr.out; have B18 : Below w.heap.size w w18 := (by rw [hw]; exact below_set (below_set (below_step HBr.out HBB.out) (by rw [HGB.out]; exact hwb) ) (by rw [HGB.out]; exact hwb)); clear hw HBOX HBB HGB hwb; have gz0 := (Kd.R_celln 0 R18 f0 HIN.out.1.1 HIN1.out.1).2; have gz1 := (Kd.R_celln 0 R18 f1 HIN.out.2.1 HIN1.out.2).2; have gc0 : w18.cell? ⟨g, f0.toNat, none⟩ = some (.int .i64 v0) := (by rw [HV0.out]; exact (Kd.R_celln 0 R18 f0 HIN.out.1.1 HIN1.out.1).1); have gc1 : w18.cell? ⟨g, f1.toNat, none⟩ = some (.int .i64 v1) := (by rw [HV1.out]; exact (Kd.R_celln 0 R18 f1 HIN.out.2.1 HIN1.out.2).1); have bc0 : w18.cell? ⟨gb, 0, none⟩ = some (.int .i64 f0) := (blk_cell X18 0).trans rfl; have bc1 : w18.cell? ⟨gb, 1, none⟩ = some (.int .i64 f1) := (blk_cell X18 1).trans rfl; have hgg : g ≠ gb := (by have h := Kd.R_ne R18 X18 (by decide); intro h2; subst h2; exact h rfl); have XX := mk_ X18; have RR := mk_ R18; have BB := mk_ B18; clear X18 R18 B18));have hmix : Tryz.prog.follows Departure.mixedOrders = true := by kernel_rfl
      have mixed := hmix;have RP := Kd.R_putn RR.out f0 f1;obtain ⟨u2, hu2⟩ : ∃ u, u = rd (xs.set f0.toNat f1) f1 := ⟨_, rfl⟩;have gc2 : (w18.setCell ⟨g, f0.toNat, none⟩ (.int .i64 f1)).cell? ⟨g, f1.toNat, none⟩ = some (.int .i64 u2) := by rw [hu2]; exact (Kd.R_celln 0 RP f1 HIN.out.2.1 HIN1.out.2).1
      have gz2 := (Kd.R_celln 0 RP f1 HIN.out.2.1 HIN1.out.2).2;have RQ := mk_ (Kd.R_drew (Kd.R_putn RP f1 f0));have BQ := mk_ (Below.drew (below_set (below_set BB.out hbg) hbg) : Below w.heap.size w ((w18.setCell ⟨g, f0.toNat, none⟩ (.int .i64 f1)).setCell ⟨g, f1.toNat, none⟩ (.int .i64 f0)).drew);clear RP hu2;go_region_o;have q5 := mk_ (show wrap64 ((i : Int) + 1) = ((i + 1 : Nat) : Int) from by have := Kd.C_max HC.out; unfold wrap64; omega);go_wp2;go_roundg (l1.length - (i + 1))
      (case measure => omega);(case rel => exact ⟨i + 1, _, by omega, Nat.le_refl _, by rw [q5.out], by rw [List.length_set, List.length_set]; exact hxl, RQ, BQ, HJa⟩)
   ·rw [if_neg hin] at hJ2;exact absurd hJ2 (by simp)
  ·have q0 : ¬ (i : Int) < (l1.length : Int) := by omega
   obtain rfl : i = l1.length := by omega
   have hJ := HJr.out;rw [List.drop_length] at hJ;have hJ2 := HJ.out;rw [← hJ] at hJ2;obtain ⟨b, hb, hJ3⟩ := Option.bind_eq_some_iff.mp (show (slices_Contains_int_int.f k xs (-1)).bind (fun b => some (xs, !b)) = some (r1, r2) from hJ2);injection hJ3 with hJ3
   injection hJ3 with e1 e2
   subst e1; subst e2;obtain ⟨_, hlc, hCx⟩ := Kd.R_reads' HRr.out;rw [show out.length = xs.length from hxl.symm] at *;have hcon := slices_Contains_int_int.calls k (some ⟨g, 0, none⟩) cap xs (-1) b wr (by simpa [hxl] using hCx) (by simpa [hxl] using hlc) hb;have HCON := mk_ hcon;have HRZ := mk_ (show Kd.R (Kd.int .i64) 3 wr w.heap.size (fun _ => True) (.slice (some ⟨g, 0, none⟩) xs.length cap) xs from by simpa [hxl] using HRr.out);clear hcon hCx hlc;go_wp2_with fail;refine HCON.out.mono ?_;rintro e w2 ⟨rfl, hd⟩;have RZ := mk_ (Kd.R_below HRZ.out hd.below);have BZ := mk_ (below_step HBr.out hd.below);clear hd;go_wp2_with fail;go_ret2;exact ⟨_, rfl, RZ.out, BZ.out⟩
theorem impl_partners.calls (k : Nat) (a0 : Int) (A1 : Option Addr) (c1 : Nat) (l1 : List S39) (r1 : List Int) (r2 : Bool) (w : World) (hr1 : Kd.C k39 w A1 l1.length l1) (hc1 : l1.length ≤ c1) (h : impl_partners.f k a0 l1 = some (r1, r2)) :
  Calls Tryz.prog 51 #[.int .i64 a0, .slice A1 l1.length c1] w fun e w' => ∃ v0_ : Value, e = .returned (.tuple #[v0_, .bool r2]) ∧ Kd.R (Kd.int .i64) 3 w' w.heap.size (fun _ => True) v0_ r1 ∧ Below w.heap.size w w' := by
 unfold impl_partners.f at h;obtain ⟨out, ho, hj⟩ := Option.bind_eq_some_iff.mp h;exact partners_walk k a0 A1 c1 l1 out r1 r2 w hr1 hc1 ⟨ho⟩ ⟨hj⟩
mutual
def impl_rankOfPlane.l0 : Nat → List Int → Int → Int → Int → Int → Int → Int → Option (Int)
 | 0, _, _, _, _, _, _, _ => none
 | k + 1, x0, x1, x2, x7, x8, x9, x10 => if x10 < x7 then ((impl_countPlane.f k x10).bind fun t223 => ((impl_countPlane.f k (wrap64 ((wrap64 ((wrap64 (x2 - x1)) - 2)) - x10))).bind fun t224 => (impl_rankOfPlane.l0 k x0 x1 x2 x7 x8 (wrap64 (x9 + (wrap64 (t223 * t224)))) (wrap64 (x10 + 2))))) else ((impl_rankOfPlane.f k x0 (wrap64 (x1 + 1)) (wrap64 ((wrap64 (x1 + 1)) + x7))).bind fun t225 => ((impl_countPlane.f k x8).bind fun t226 => ((impl_rankOfPlane.f k x0 (wrap64 ((wrap64 (x1 + 2)) + x7)) x2).bind fun t227 => (some (wrap64 ((wrap64 (x9 + (wrap64 (t225 * t226)))) + t227))))))
def impl_rankOfPlane.f : Nat → List Int → Int → Int → Option (Int)
 | 0, _, _, _ => none
 | k + 1, l0, a1, a2 => if a1 = a2 then (some 0) else (if 0 ≤ a1 then (if a1 < (l0.length : Int) then (impl_rankOfPlane.l0 k l0 a1 a2 (wrap64 ((wrap64 ((rd l0 a1) - a1)) - 1)) (wrap64 ((wrap64 ((wrap64 (a2 - a1)) - 2)) - (wrap64 ((wrap64 ((rd l0 a1) - a1)) - 1)))) 0 0) else (none)) else (none))
end
theorem impl_rankOfPlane.calls (k : Nat) : ∀ (A0 : Option Addr) (c0 : Nat) (l0 : List Int) (a1 : Int) (a2 : Int) (r : Int) (w : World) (hr0 : Kd.C (Kd.int .i64) w A0 l0.length l0) (hc0 : l0.length ≤ c0) (h : impl_rankOfPlane.f k l0 a1 a2 = some r),
  Calls Tryz.prog 52 #[.slice A0 l0.length c0, .int .i64 a1, .int .i64 a2] w fun e w' => e = .returned (.int .i64 r) ∧ Drawn0 w w' := by
 induction k using Nat.strongRecOn with
 | _ k ih =>
 intro A0 c0 l0 a1 a2 r w hr0 hc0 h
 cases k with
 | zero => exact absurd h (by simp [impl_rankOfPlane.f])
 | succ k =>
 simp only [impl_rankOfPlane.f] at h;have HR0 := mk_ hr0;have HC0 := mk_ hc0;clear hr0 hc0;have H : (if a1 = a2 then (some 0) else (if 0 ≤ a1 then (if a1 < (l0.length : Int) then (impl_rankOfPlane.l0 k l0 a1 a2 (wrap64 ((wrap64 ((rd l0 a1) - a1)) - 1)) (wrap64 ((wrap64 ((wrap64 (a2 - a1)) - 2)) - (wrap64 ((wrap64 ((rd l0 a1) - a1)) - 1)))) 0 0) else (none)) else (none))) = some r := h;clear h;by_cases c4 : a1 = a2
 ·rw [if_pos c4] at H;have c4b0 : (a1 == a2) = true := beq_iff_eq.mpr c4;have c4b1 : (a1 != a2) = false := bne_eq_false_iff_eq.mpr c4;clear c4;obtain rfl := Option.some.inj H;go_enter Tryz.func52, Tryz.ntmps52;go_wp2;go_ret;exact ⟨es_, dr_⟩
 ·rw [if_neg c4] at H;have c4b0 : (a1 == a2) = false := beq_eq_false_iff_ne.mpr c4;have c4b1 : (a1 != a2) = true := bne_iff_ne.mpr c4;by_cases c5 : 0 ≤ a1;rotate_left
  ·rw [if_neg c5] at H;exact absurd H (by simp)
  rw [if_pos c5] at H;have c5b0 : decide (0 ≤ a1) = true := decide_eq_true c5;clear c5;by_cases c6 : a1 < (l0.length : Int);rotate_left
  ·rw [if_neg c6] at H;exact absurd H (by simp)
  rw [if_pos c6] at H;have c6b0 : decide (a1 < (l0.length : Int)) = true := decide_eq_true c6;clear c6;have H' := mk_ H;clear H;have p222 : 0 ≤ (a1 : Int) := od_;have q222 : a1 < (l0.length : Int) := od_;obtain ⟨ad222, e222, hx222_0⟩ := Kd.at_int HR0.out a1 p222 q222;cases e222;replace p222 := eq_true p222;replace q222 := eq_true q222;go_enter Tryz.func52, Tryz.ntmps52;go_wp2;go_loopg [9, 10] k (fun kq v9 v10 w' => ∃ (x9_1 : Int) (x10_1 : Int), v9 = .int .i64 x9_1 ∧ v10 = .int .i64 x10_1 ∧ Aside0 (impl_rankOfPlane.l0 kq l0 a1 a2 (wrap64 ((wrap64 ((rd l0 a1) - a1)) - 1)) (wrap64 ((wrap64 ((wrap64 (a2 - a1)) - 2)) - (wrap64 ((wrap64 ((rd l0 a1) - a1)) - 1)))) x9_1 x10_1 = some r) ∧ Aside0 (kq ≤ k) ∧ Drawn0 w w')
  case atStart => exact ⟨(0), (0), (es_), (es_), H', ⟨Nat.le_refl _⟩, dr_⟩
  case round =>
   clear H';try clear p2
   try clear q2
   try clear hx2
   try clear c4
   try clear c4b0
   try clear c4b1
   try clear c5
   try clear c5b0
   try clear c6
   try clear c6b0
   try clear p6
   try clear hx222_0
   try clear p222
   try clear q222
   obtain ⟨x9_1, x10_1, rfl, rfl, HA, HK1, ⟨m1, rfl⟩⟩ := hrel
   cases gk with
   | zero => exact absurd HA.out (by simp [impl_rankOfPlane.l0])
   | succ k1 =>
    have H := HA.out;clear HA;simp only [impl_rankOfPlane.l0] at H;by_cases c7 : x10_1 < (wrap64 ((wrap64 ((rd l0 a1) - a1)) - 1))
    ·rw [if_pos c7] at H;have c7b0 : decide (x10_1 < (wrap64 ((wrap64 ((rd l0 a1) - a1)) - 1))) = true := decide_eq_true c7;clear c7;replace H := Option.bind_eq_some_iff.mp H;obtain ⟨t223, A80, H⟩ := H;try dsimp only at H
     have A8 := mk_ A80;clear A80;replace H := Option.bind_eq_some_iff.mp H;obtain ⟨t224, A90, H⟩ := H;try dsimp only at H
     have A9 := mk_ A90;clear A90;have H' := mk_ H;clear H;go_wp2_with (first | (refine gd_ 34 Tryz.func45 (impl_countPlane.calls k1 x10_1 t223 _ A8.out) ?_; intro nd) | (refine gd_ 41 Tryz.func45 (impl_countPlane.calls k1 (wrap64 ((wrap64 ((wrap64 (a2 - a1)) - 2)) - x10_1)) t224 _ A9.out) ?_; intro nd));go_roundg k1
     case measure => have := HK1.out; omega
     case rel => exact ⟨(wrap64 (x9_1 + (wrap64 (t223 * t224)))), (wrap64 (x10_1 + 2)), (es_), (es_), H', ⟨by have := HK1.out; omega⟩, dr_⟩
    ·rw [if_neg c7] at H;have c7b0 : decide (x10_1 < (wrap64 ((wrap64 ((rd l0 a1) - a1)) - 1))) = false := decide_eq_false c7;clear c7;replace H := Option.bind_eq_some_iff.mp H;obtain ⟨t225, A100, H⟩ := H;try dsimp only at H
     have A10 := mk_ A100;clear A100;replace H := Option.bind_eq_some_iff.mp H;obtain ⟨t226, A110, H⟩ := H;try dsimp only at H
     have A11 := mk_ A110;clear A110;replace H := Option.bind_eq_some_iff.mp H;obtain ⟨t227, A120, H⟩ := H;try dsimp only at H
     have A12 := mk_ A120;clear A120;obtain rfl := Option.some.inj H;go_wp2_with (first | (refine gc_ 52 Tryz.func52 #[.slice (some ad222) l0.length c0, .int .i64 (wrap64 (a1 + 1)), .int .i64 (wrap64 ((wrap64 (a1 + 1)) + (wrap64 ((wrap64 ((rd l0 a1) - a1)) - 1))))] ?_; (with_reducible refine (ih k1 (by have := HK1.out; omega) _ _ l0 (wrap64 (a1 + 1)) (wrap64 ((wrap64 (a1 + 1)) + (wrap64 ((wrap64 ((rd l0 a1) - a1)) - 1)))) t225 _ ?side1 ?side2 A10.out).mono ?_); (case side1 => exact kc_ <| HR0.out); (case side2 => exact HC0.out); rintro e w' ⟨rfl, ⟨nd, rfl⟩⟩; refine ⟨_, rfl, ?_⟩) | (refine gd_ 54 Tryz.func45 (impl_countPlane.calls k1 (wrap64 ((wrap64 ((wrap64 (a2 - a1)) - 2)) - (wrap64 ((wrap64 ((rd l0 a1) - a1)) - 1)))) t226 _ A11.out) ?_; intro nd) | (refine gc_ 63 Tryz.func52 #[.slice (some ad222) l0.length c0, .int .i64 (wrap64 ((wrap64 (a1 + 2)) + (wrap64 ((wrap64 ((rd l0 a1) - a1)) - 1)))), .int .i64 a2] ?_; (with_reducible refine (ih k1 (by have := HK1.out; omega) _ _ l0 (wrap64 ((wrap64 (a1 + 2)) + (wrap64 ((wrap64 ((rd l0 a1) - a1)) - 1)))) a2 t227 _ ?side1 ?side2 A12.out).mono ?_); (case side1 => exact kc_ <| HR0.out); (case side2 => exact HC0.out); rintro e w' ⟨rfl, ⟨nd, rfl⟩⟩; refine ⟨_, rfl, ?_⟩));go_ret;exact ⟨es_, dr_⟩
def impl_RankOfPlanePairing.j0 : Nat → Int → List (S39) → Bool → Option (Int × Bool)
 | 0, _, _, _ => none
 | k + 1, x0, x1, x21 => if x21 = true then (some (0, false)) else ((impl_partners.f k x0 x1).bind fun bt231 => (if bt231.2 = true then ((impl_rankOfPlane.f k bt231.1 0 x0).bind fun t235 => (some (t235, true))) else (some (0, false))))
def impl_RankOfPlanePairing.f (k : Nat) (a0 : Int) (l1 : List (S39)) : Option (Int × Bool) := (impl_isEven.f a0 30).bind fun t228 => (if t228 = true then ((impl_AreChords.f k a0 l1).bind fun t229 => (if t229 = true then ((impl_crossings.f k l1).bind fun t230 => (impl_RankOfPlanePairing.j0 k a0 l1 (decide (t230 > 0)))) else (impl_RankOfPlanePairing.j0 k a0 l1 true))) else (impl_RankOfPlanePairing.j0 k a0 l1 true))
theorem impl_RankOfPlanePairing.calls (k : Nat) (a0 : Int) (A1 : Option Addr) (c1 : Nat) (l1 : List (S39)) (r1 : Int) (r2 : Bool) (w : World) (hr1 : Kd.C k39 w A1 l1.length l1) (hc1 : l1.length ≤ c1) (h : impl_RankOfPlanePairing.f k a0 l1 = some (r1, r2)) :
  Calls Tryz.prog 11 #[.int .i64 a0, .slice A1 l1.length c1] w fun e w' => e = .returned (.tuple #[.int .i64 r1, .bool r2]) ∧ Below w.heap.size w w' := by
 have HR1 := mk_ hr1;have HC1 := mk_ hc1;clear hr1 hc1;have HB := mk_ (Below.refl w.heap.size w);have H : ((impl_isEven.f a0 30).bind fun t228 => (if t228 = true then ((impl_AreChords.f k a0 l1).bind fun t229 => (if t229 = true then ((impl_crossings.f k l1).bind fun t230 => (impl_RankOfPlanePairing.j0 k a0 l1 (decide (t230 > 0)))) else (impl_RankOfPlanePairing.j0 k a0 l1 true))) else (impl_RankOfPlanePairing.j0 k a0 l1 true))) = some (r1, r2) := h;clear h;have HC3 := mk_ H;clear H;go_enter Tryz.func11, Tryz.ntmps11;go_upto_region 1 with (fail)
 go_cut [21] (fun v21 wc => ∃ (kq : Nat) (x21_2 : Bool), v21 = .bool x21_2 ∧ Aside0 (impl_RankOfPlanePairing.j0 kq a0 l1 x21_2 = some (r1, r2)) ∧ Aside0 (kq ≤ k) ∧ Aside0 (Below w.heap.size w wc))
 case first =>
  have H := HC3.out;clear HC3;replace H := Option.bind_eq_some_iff.mp H;obtain ⟨t228, A40, H⟩ := H;try dsimp only at H
  have A4 := mk_ A40;clear A40;by_cases c5 : t228 = true
  ·subst c5;have H1 : ((impl_AreChords.f k a0 l1).bind fun t229 => (if t229 = true then ((impl_crossings.f k l1).bind fun t230 => (impl_RankOfPlanePairing.j0 k a0 l1 (decide (t230 > 0)))) else (impl_RankOfPlanePairing.j0 k a0 l1 true))) = some (r1, r2) := by rw [if_pos rfl] at H; exact H
   clear H;have H := H1;clear H1;replace H := Option.bind_eq_some_iff.mp H;obtain ⟨t229, A60, H⟩ := H;try dsimp only at H
   have A6 := mk_ A60;clear A60;by_cases c7 : t229 = true
   ·subst c7;have H1 : ((impl_crossings.f k l1).bind fun t230 => (impl_RankOfPlanePairing.j0 k a0 l1 (decide (t230 > 0)))) = some (r1, r2) := by rw [if_pos rfl] at H; exact H
    clear H;have H := H1;clear H1;replace H := Option.bind_eq_some_iff.mp H;obtain ⟨t230, A80, H⟩ := H;try dsimp only at H
    have A8 := mk_ A80;clear A80;have H' := mk_ H;clear H;go_wp2_with (first | (refine gd_ 9 Tryz.func43 (impl_isEven.calls a0 30 true _ A4.out) ?_; intro nd) | (go_at_call 36; (with_reducible refine (impl_AreChords.calls k a0 _ _ l1 true _ ?side1 ?side2 A6.out).mono ?_); (case side1 => exact kc_ <| (Kd.C_below HR1.out bl_)); (case side2 => exact HC1.out); rintro e w9 ⟨rfl, hb⟩; have n0_ := mk_ (below_step bl_ hb); clear HB; have HB := n0_; clear n0_; (try clear hb); (try clear hb2); (try clear hk); (try clear hi)) | (go_at_call 50; (with_reducible refine (impl_crossings.calls k _ _ l1 t230 _ ?side1 ?side2 A8.out).mono ?_); (case side1 => exact kc_ <| (Kd.C_below HR1.out HB.out)); (case side2 => exact HC1.out); rintro e w10 ⟨rfl, hb⟩; have n0_ := mk_ (below_step bl_ hb); clear HB; have HB := n0_; clear n0_; (try clear hb); (try clear hb2); (try clear hk); (try clear hi)));go_meet
    case rel => exact ⟨_, (decide (t230 > 0)), (es_), H', ⟨by first | omega | exact Nat.le_refl _⟩, ⟨bl_⟩⟩
   ·replace c7 := Bool.eq_false_iff.mpr c7;subst c7;have H1 : (impl_RankOfPlanePairing.j0 k a0 l1 true) = some (r1, r2) := by rw [if_neg (show ¬ (false = true) by decide)] at H; exact H
    clear H;have H := H1;clear H1;have H' := mk_ H;clear H;go_wp2_with (first | (refine gd_ 9 Tryz.func43 (impl_isEven.calls a0 30 true _ A4.out) ?_; intro nd) | (go_at_call 36; (with_reducible refine (impl_AreChords.calls k a0 _ _ l1 false _ ?side1 ?side2 A6.out).mono ?_); (case side1 => exact kc_ <| (Kd.C_below HR1.out bl_)); (case side2 => exact HC1.out); rintro e w11 ⟨rfl, hb⟩; have n0_ := mk_ (below_step bl_ hb); clear HB; have HB := n0_; clear n0_; (try clear hb); (try clear hb2); (try clear hk); (try clear hi)));go_meet
    case rel => exact ⟨_, (true), (es_), H', ⟨by first | omega | exact Nat.le_refl _⟩, ⟨bl_⟩⟩
  ·replace c5 := Bool.eq_false_iff.mpr c5;subst c5;have H1 : (impl_RankOfPlanePairing.j0 k a0 l1 true) = some (r1, r2) := by rw [if_neg (show ¬ (false = true) by decide)] at H; exact H
   clear H;have H := H1;clear H1;have H' := mk_ H;clear H;go_wp2_with (first | (refine gd_ 9 Tryz.func43 (impl_isEven.calls a0 30 false _ A4.out) ?_; intro nd));go_meet
   case rel => exact ⟨_, (true), (es_), H', ⟨by first | omega | exact Nat.le_refl _⟩, ⟨bl_⟩⟩
 case rest =>
  clear HC3;try clear c1
  try clear p2
  try clear c4
  try clear c5
  try clear c7
  try clear c11
  obtain ⟨kq, x21_2, rfl, HA, HJ2, HB⟩ := hcut
  cases kq with
  | zero => exact absurd HA.out (by simp [impl_RankOfPlanePairing.j0])
  | succ kj2 =>
   have H := HA.out;clear HA;simp only [impl_RankOfPlanePairing.j0] at H;by_cases c12 : x21_2 = true
   ·subst c12;have H1 : (some (0, false)) = some (r1, r2) := by rw [if_pos rfl] at H; exact H
    clear H;have H := H1;clear H1;simp only [Option.some.injEq, Prod.mk.injEq] at H;obtain ⟨rfl, rfl⟩ := H;go_wp2;go_ret2;exact ⟨ew_, bl_⟩
   ·replace c12 := Bool.eq_false_iff.mpr c12;subst c12;have H1 : ((impl_partners.f kj2 a0 l1).bind fun bt231 => (if bt231.2 = true then ((impl_rankOfPlane.f kj2 bt231.1 0 a0).bind fun t235 => (some (t235, true))) else (some (0, false)))) = some (r1, r2) := by rw [if_neg (show ¬ (false = true) by decide)] at H; exact H
    clear H;have H := H1;clear H1;replace H := Option.bind_eq_some_iff.mp H;obtain ⟨⟨t231, t232⟩, A130, H⟩ := H;try dsimp only at H
    have A13 := mk_ A130;clear A130;by_cases c14 : t232 = true
    ·subst c14;have H1 : ((impl_rankOfPlane.f kj2 t231 0 a0).bind fun t235 => (some (t235, true))) = some (r1, r2) := by rw [if_pos rfl] at H; exact H
     clear H;have H := H1;clear H1;replace H := Option.bind_eq_some_iff.mp H;obtain ⟨t235, A150, H⟩ := H;try dsimp only at H
     have A15 := mk_ A150;clear A150;simp only [Option.some.injEq, Prod.mk.injEq] at H;obtain ⟨rfl, rfl⟩ := H;go_wp2_with (first | (refine gc_ 25 Tryz.func51 #[.int .i64 a0, .slice A1 l1.length c1] ?_; (with_reducible refine (impl_partners.calls kj2 a0 _ _ l1 t231 true _ ?side1 ?side2 A13.out).mono ?_); (case side1 => exact kc_ <| (Kd.C_below HR1.out HB.out)); (case side2 => exact HC1.out); rintro e w16 ⟨v233, rfl, ho0, hb⟩; refine ⟨_, rfl, ?_⟩; have n0_ := mk_ (Kd.R_lower ho0 (below_size bl_)); have n1_ := mk_ (below_step bl_ hb); clear HB; have HO234 := n0_; have HB := n1_; clear n0_ n1_; (try clear hb); (try clear hb2); (try clear hk); (try clear hi); (try clear ho0); obtain ⟨Ao17, co17, eo17⟩ := Kd.R_slice HO234.out; subst eo17) | (refine gc_ 32 Tryz.func52 #[.slice Ao17 t231.length co17, .int .i64 0, .int .i64 a0] ?_; (with_reducible refine (impl_rankOfPlane.calls kj2 _ _ t231 0 a0 t235 _ ?side1 ?side2 A15.out).mono ?_); (case side1 => exact kc_ <| (Kd.R_reads' HO234.out).2.2); (case side2 => exact (Kd.R_reads' HO234.out).2.1); rintro e w' ⟨rfl, ⟨nd, rfl⟩⟩; refine ⟨_, rfl, ?_⟩));go_ret2;exact ⟨ew_, bl_⟩
    ·replace c14 := Bool.eq_false_iff.mpr c14;subst c14;have H1 : (some (0, false)) = some (r1, r2) := by rw [if_neg (show ¬ (false = true) by decide)] at H; exact H
     clear H;have H := H1;clear H1;simp only [Option.some.injEq, Prod.mk.injEq] at H;obtain ⟨rfl, rfl⟩ := H;go_wp2_with (first | (refine gc_ 25 Tryz.func51 #[.int .i64 a0, .slice A1 l1.length c1] ?_; (with_reducible refine (impl_partners.calls kj2 a0 _ _ l1 t231 false _ ?side1 ?side2 A13.out).mono ?_); (case side1 => exact kc_ <| (Kd.C_below HR1.out HB.out)); (case side2 => exact HC1.out); rintro e w18 ⟨v233, rfl, ho0, hb⟩; refine ⟨_, rfl, ?_⟩; have n0_ := mk_ (Kd.R_lower ho0 (below_size bl_)); have n1_ := mk_ (below_step bl_ hb); clear HB; have HO234 := n0_; have HB := n1_; clear n0_ n1_; (try clear hb); (try clear hb2); (try clear hk); (try clear hi); (try clear ho0)));go_ret2;exact ⟨ew_, bl_⟩
def impl_isSet.f (k : Nat) (a0 : Int) (l1 : List (S39)) : Option (Bool) := (impl_isCircle.f a0).bind fun t236 => (if t236 = true then ((impl_AreChords.f k a0 l1).bind fun t237 => (some t237)) else (some false))
theorem impl_isSet.calls (k : Nat) (a0 : Int) (A1 : Option Addr) (c1 : Nat) (l1 : List (S39)) (r : Bool) (w : World) (hr1 : Kd.C k39 w A1 l1.length l1) (hc1 : l1.length ≤ c1) (h : impl_isSet.f k a0 l1 = some r) :
  Calls Tryz.prog 53 #[.int .i64 a0, .slice A1 l1.length c1] w fun e w' => e = .returned (.bool r) ∧ Below w.heap.size w w' := by
 have HR1 := mk_ hr1;have HC1 := mk_ hc1;clear hr1 hc1;have HB := mk_ (Below.refl w.heap.size w);have H : ((impl_isCircle.f a0).bind fun t236 => (if t236 = true then ((impl_AreChords.f k a0 l1).bind fun t237 => (some t237)) else (some false))) = some r := h;clear h;replace H := Option.bind_eq_some_iff.mp H;obtain ⟨t236, A30, H⟩ := H;try dsimp only at H
 have A3 := mk_ A30;clear A30;by_cases c4 : t236 = true
 ·subst c4;have H1 : ((impl_AreChords.f k a0 l1).bind fun t237 => (some t237)) = some r := by rw [if_pos rfl] at H; exact H
  clear H;have H := H1;clear H1;replace H := Option.bind_eq_some_iff.mp H;obtain ⟨t237, A50, H⟩ := H;try dsimp only at H
  have A5 := mk_ A50;clear A50;obtain rfl := Option.some.inj H;go_enter Tryz.func53, Tryz.ntmps53;go_wp2_with (first | (refine gd_ 6 Tryz.func85 (impl_isCircle.calls a0 true _ A3.out) ?_; intro nd) | (go_at_call 36; (with_reducible refine (impl_AreChords.calls k a0 _ _ l1 t237 _ ?side1 ?side2 A5.out).mono ?_); (case side1 => exact kc_ <| HR1.out); (case side2 => exact HC1.out); rintro e w6 ⟨rfl, hb⟩; have n0_ := mk_ (below_step bl_ hb); clear HB; have HB := n0_; clear n0_; (try clear hb); (try clear hb2); (try clear hk); (try clear hi)));go_ret;exact ⟨ew_, bl_⟩
 ·replace c4 := Bool.eq_false_iff.mpr c4;subst c4;have H1 : (some false) = some r := by rw [if_neg (show ¬ (false = true) by decide)] at H; exact H
  clear H;have H := H1;clear H1;obtain rfl := Option.some.inj H;go_enter Tryz.func53, Tryz.ntmps53;go_wp2_with (first | (refine gd_ 6 Tryz.func85 (impl_isCircle.calls a0 false _ A3.out) ?_; intro nd));go_ret;exact ⟨ew_, bl_⟩
def impl_IsPairing.f (k : Nat) (a0 : Int) (l1 : List (S39)) : Option (Bool × Bool) := (impl_isSet.f k a0 l1).bind fun t238 => (if t238 = true then ((impl_partners.f k a0 l1).bind fun bt239 => (some (bt239.2, true))) else (some (false, false)))
theorem impl_IsPairing.calls (k : Nat) (a0 : Int) (A1 : Option Addr) (c1 : Nat) (l1 : List (S39)) (r1 : Bool) (r2 : Bool) (w : World) (hr1 : Kd.C k39 w A1 l1.length l1) (hc1 : l1.length ≤ c1) (h : impl_IsPairing.f k a0 l1 = some (r1, r2)) :
  Calls Tryz.prog 12 #[.int .i64 a0, .slice A1 l1.length c1] w fun e w' => e = .returned (.tuple #[.bool r1, .bool r2]) ∧ Below w.heap.size w w' := by
 have HR1 := mk_ hr1;have HC1 := mk_ hc1;clear hr1 hc1;have HB := mk_ (Below.refl w.heap.size w);have H : ((impl_isSet.f k a0 l1).bind fun t238 => (if t238 = true then ((impl_partners.f k a0 l1).bind fun bt239 => (some (bt239.2, true))) else (some (false, false)))) = some (r1, r2) := h;clear h;replace H := Option.bind_eq_some_iff.mp H;obtain ⟨t238, A30, H⟩ := H;try dsimp only at H
 have A3 := mk_ A30;clear A30;by_cases c4 : t238 = true
 ·subst c4;have H1 : ((impl_partners.f k a0 l1).bind fun bt239 => (some (bt239.2, true))) = some (r1, r2) := by rw [if_pos rfl] at H; exact H
  clear H;have H := H1;clear H1;replace H := Option.bind_eq_some_iff.mp H;obtain ⟨⟨t239, t240⟩, A50, H⟩ := H;try dsimp only at H
  have A5 := mk_ A50;clear A50;simp only [Option.some.injEq, Prod.mk.injEq] at H;obtain ⟨rfl, rfl⟩ := H;go_enter Tryz.func12, Tryz.ntmps12;go_wp2_with (first | (refine gc_ 10 Tryz.func53 #[.int .i64 a0, .slice A1 l1.length c1] ?_; (with_reducible refine (impl_isSet.calls k a0 _ _ l1 true _ ?side1 ?side2 A3.out).mono ?_); (case side1 => exact kc_ <| HR1.out); (case side2 => exact HC1.out); rintro e w6 ⟨rfl, hb⟩; refine ⟨_, rfl, ?_⟩; have n0_ := mk_ (below_step bl_ hb); clear HB; have HB := n0_; clear n0_; (try clear hb); (try clear hb2); (try clear hk); (try clear hi)) | (refine gc_ 15 Tryz.func51 #[.int .i64 a0, .slice A1 l1.length c1] ?_; (with_reducible refine (impl_partners.calls k a0 _ _ l1 t239 t240 _ ?side1 ?side2 A5.out).mono ?_); (case side1 => exact kc_ <| (Kd.C_below HR1.out HB.out)); (case side2 => exact HC1.out); rintro e w7 ⟨v241, rfl, ho0, hb⟩; refine ⟨_, rfl, ?_⟩; have n0_ := mk_ (Kd.R_lower ho0 (below_size bl_)); have n1_ := mk_ (below_step bl_ hb); clear HB; have HO242 := n0_; have HB := n1_; clear n0_ n1_; (try clear hb); (try clear hb2); (try clear hk); (try clear hi); (try clear ho0)));go_ret2;exact ⟨ew_, bl_⟩
 ·replace c4 := Bool.eq_false_iff.mpr c4;subst c4;have H1 : (some (false, false)) = some (r1, r2) := by rw [if_neg (show ¬ (false = true) by decide)] at H; exact H
  clear H;have H := H1;clear H1;simp only [Option.some.injEq, Prod.mk.injEq] at H;obtain ⟨rfl, rfl⟩ := H;go_enter Tryz.func12, Tryz.ntmps12;go_wp2_with (first | (refine gc_ 10 Tryz.func53 #[.int .i64 a0, .slice A1 l1.length c1] ?_; (with_reducible refine (impl_isSet.calls k a0 _ _ l1 false _ ?side1 ?side2 A3.out).mono ?_); (case side1 => exact kc_ <| HR1.out); (case side2 => exact HC1.out); rintro e w8 ⟨rfl, hb⟩; refine ⟨_, rfl, ?_⟩; have n0_ := mk_ (below_step bl_ hb); clear HB; have HB := n0_; clear n0_; (try clear hb); (try clear hb2); (try clear hk); (try clear hi)));go_ret2;exact ⟨ew_, bl_⟩
def impl_IsPlane.f (k : Nat) (a0 : Int) (l1 : List (S39)) : Option (Bool × Bool) := (impl_isSet.f k a0 l1).bind fun t243 => (if t243 = true then ((impl_crossings.f k l1).bind fun t244 => (some ((t244 == 0), true))) else (some (false, false)))
theorem impl_IsPlane.calls (k : Nat) (a0 : Int) (A1 : Option Addr) (c1 : Nat) (l1 : List (S39)) (r1 : Bool) (r2 : Bool) (w : World) (hr1 : Kd.C k39 w A1 l1.length l1) (hc1 : l1.length ≤ c1) (h : impl_IsPlane.f k a0 l1 = some (r1, r2)) :
  Calls Tryz.prog 13 #[.int .i64 a0, .slice A1 l1.length c1] w fun e w' => e = .returned (.tuple #[.bool r1, .bool r2]) ∧ Below w.heap.size w w' := by
 have HR1 := mk_ hr1;have HC1 := mk_ hc1;clear hr1 hc1;have HB := mk_ (Below.refl w.heap.size w);have H : ((impl_isSet.f k a0 l1).bind fun t243 => (if t243 = true then ((impl_crossings.f k l1).bind fun t244 => (some ((t244 == 0), true))) else (some (false, false)))) = some (r1, r2) := h;clear h;replace H := Option.bind_eq_some_iff.mp H;obtain ⟨t243, A30, H⟩ := H;try dsimp only at H
 have A3 := mk_ A30;clear A30;by_cases c4 : t243 = true
 ·subst c4;have H1 : ((impl_crossings.f k l1).bind fun t244 => (some ((t244 == 0), true))) = some (r1, r2) := by rw [if_pos rfl] at H; exact H
  clear H;have H := H1;clear H1;replace H := Option.bind_eq_some_iff.mp H;obtain ⟨t244, A50, H⟩ := H;try dsimp only at H
  have A5 := mk_ A50;clear A50;simp only [Option.some.injEq, Prod.mk.injEq] at H;obtain ⟨rfl, rfl⟩ := H;go_enter Tryz.func13, Tryz.ntmps13;go_wp2_with (first | (refine gc_ 8 Tryz.func53 #[.int .i64 a0, .slice A1 l1.length c1] ?_; (with_reducible refine (impl_isSet.calls k a0 _ _ l1 true _ ?side1 ?side2 A3.out).mono ?_); (case side1 => exact kc_ <| HR1.out); (case side2 => exact HC1.out); rintro e w6 ⟨rfl, hb⟩; refine ⟨_, rfl, ?_⟩; have n0_ := mk_ (below_step bl_ hb); clear HB; have HB := n0_; clear n0_; (try clear hb); (try clear hb2); (try clear hk); (try clear hi)) | (refine gc_ 11 Tryz.func50 #[.slice A1 l1.length c1] ?_; (with_reducible refine (impl_crossings.calls k _ _ l1 t244 _ ?side1 ?side2 A5.out).mono ?_); (case side1 => exact kc_ <| (Kd.C_below HR1.out HB.out)); (case side2 => exact HC1.out); rintro e w7 ⟨rfl, hb⟩; refine ⟨_, rfl, ?_⟩; have n0_ := mk_ (below_step bl_ hb); clear HB; have HB := n0_; clear n0_; (try clear hb); (try clear hb2); (try clear hk); (try clear hi)));go_ret2;exact ⟨ew_, bl_⟩
 ·replace c4 := Bool.eq_false_iff.mpr c4;subst c4;have H1 : (some (false, false)) = some (r1, r2) := by rw [if_neg (show ¬ (false = true) by decide)] at H; exact H
  clear H;have H := H1;clear H1;simp only [Option.some.injEq, Prod.mk.injEq] at H;obtain ⟨rfl, rfl⟩ := H;go_enter Tryz.func13, Tryz.ntmps13;go_wp2_with (first | (refine gc_ 8 Tryz.func53 #[.int .i64 a0, .slice A1 l1.length c1] ?_; (with_reducible refine (impl_isSet.calls k a0 _ _ l1 false _ ?side1 ?side2 A3.out).mono ?_); (case side1 => exact kc_ <| HR1.out); (case side2 => exact HC1.out); rintro e w8 ⟨rfl, hb⟩; refine ⟨_, rfl, ?_⟩; have n0_ := mk_ (below_step bl_ hb); clear HB; have HB := n0_; clear n0_; (try clear hb); (try clear hb2); (try clear hk); (try clear hi)));go_ret2;exact ⟨ew_, bl_⟩
def spec_srLess.f (a0_0 : Int) (a0_1 : Int) (a1_0 : Int) (a1_1 : Int) : Option (Bool) := if a0_0 < a1_0 then (some true) else (if a0_0 = a1_0 then (some (decide (a0_1 < a1_1))) else (some false))
theorem spec_srLess.calls (a0_0 : Int) (a0_1 : Int) (a1_0 : Int) (a1_1 : Int) (r : Bool) (w : World) (h : spec_srLess.f a0_0 a0_1 a1_0 a1_1 = some r) :
  Calls Tryz.prog 92 #[.agg #[.int .i64 a0_0, .int .i64 a0_1], .agg #[.int .i64 a1_0, .int .i64 a1_1]] w fun e w' => e = .returned (.bool r) ∧ Below w.heap.size w w' := by
 have hu39 := Tryz.underlying39;have HB := mk_ (Below.refl w.heap.size w);have H : (if a0_0 < a1_0 then (some true) else (if a0_0 = a1_0 then (some (decide (a0_1 < a1_1))) else (some false))) = some r := h;clear h;by_cases c3 : a0_0 < a1_0
 ·rw [if_pos c3] at H;have c3b0 : decide (a0_0 < a1_0) = true := decide_eq_true c3;clear c3;obtain rfl := Option.some.inj H;go_enter Tryz.func92, Tryz.ntmps92;go_wp2_with (first | ((with_reducible refine g_ 2 ?_); refine bx_ 2 #[.int .i64 a0_0, .int .i64 a0_1] 39 ?_; intro gb245 hg w4 hbox hb; have n0_ := mk_ (below_step bl_ hb); have n1_ := mk_ (hbox); have n2_ := mk_ ((by rw [hg]; exact (below_size bl_) : w.heap.size ≤ gb245)); have n3_ := n2_; clear HB; have HB := n0_; have BK245 := n1_; have GW245 := n2_; have GE245 := n3_; clear n0_ n1_ n2_ n3_ hb hbox hg) | ((with_reducible refine g_ 3 ?_); refine bx_ 3 #[.int .i64 a1_0, .int .i64 a1_1] 39 ?_; intro gb246 hg w5 hbox hb; have n0_ := mk_ (blk_below (g := gb245) (o := .cells #[.int .i64 a0_0, .int .i64 a0_1] 39 (0, 0)) kb_ hb); have n1_ := mk_ (below_step bg_ hb); have n2_ := mk_ (hbox); have n3_ := mk_ ((by rw [hg]; exact (below_size bg_) : w.heap.size ≤ gb246)); have n4_ := n3_; have n5_ := mk_ ((by rw [hg]; exact Nat.ne_of_lt (blk_lt (g := gb245) (o := .cells #[.int .i64 a0_0, .int .i64 a0_1] 39 (0, 0)) kb_) : gb245 ≠ gb246)); have n6_ := mk_ ((by rw [hg]; exact Nat.ne_of_gt (blk_lt (g := gb245) (o := .cells #[.int .i64 a0_0, .int .i64 a0_1] 39 (0, 0)) kb_) : gb246 ≠ gb245)); clear BK245 HB; have BK245 := n0_; have HB := n1_; have BK246 := n2_; have GW246 := n3_; have GE246 := n4_; have NB245_246 := n5_; have NB246_245 := n6_; clear n0_ n1_ n2_ n3_ n4_ n5_ n6_ hb hbox hg; have hnb6 := NB245_246.out; have hnc6 := NB246_245.out; have hcz7_0 : w5.cell? ⟨gb245, 0, none⟩ = some (.int .i64 a0_0) := (blk_cell BK245.out 0).trans rfl; have hcz7_1 : w5.cell? ⟨gb245, 1, none⟩ = some (.int .i64 a0_1) := (blk_cell BK245.out 1).trans rfl; have hfz7_0 := blk_frozen BK245.out 0; have hfz7_1 := blk_frozen BK245.out 1; have hcz8_0 : w5.cell? ⟨gb246, 0, none⟩ = some (.int .i64 a1_0) := (blk_cell BK246.out 0).trans rfl; have hcz8_1 : w5.cell? ⟨gb246, 1, none⟩ = some (.int .i64 a1_1) := (blk_cell BK246.out 1).trans rfl; have hfz8_0 := blk_frozen BK246.out 0; have hfz8_1 := blk_frozen BK246.out 1));go_ret;exact ⟨ew_, bg_⟩
 ·rw [if_neg c3] at H;have c3b0 : decide (a0_0 < a1_0) = false := decide_eq_false c3;clear c3;by_cases c9 : a0_0 = a1_0
  ·rw [if_pos c9] at H;have c9b0 : (a0_0 == a1_0) = true := beq_iff_eq.mpr c9;have c9b1 : (a0_0 != a1_0) = false := bne_eq_false_iff_eq.mpr c9;clear c9;obtain rfl := Option.some.inj H;go_enter Tryz.func92, Tryz.ntmps92;go_wp2_with (first | ((with_reducible refine g_ 2 ?_); refine bx_ 2 #[.int .i64 a0_0, .int .i64 a0_1] 39 ?_; intro gb245 hg w10 hbox hb; have n0_ := mk_ (below_step bl_ hb); have n1_ := mk_ (hbox); have n2_ := mk_ ((by rw [hg]; exact (below_size bl_) : w.heap.size ≤ gb245)); have n3_ := n2_; clear HB; have HB := n0_; have BK245 := n1_; have GW245 := n2_; have GE245 := n3_; clear n0_ n1_ n2_ n3_ hb hbox hg) | ((with_reducible refine g_ 3 ?_); refine bx_ 3 #[.int .i64 a1_0, .int .i64 a1_1] 39 ?_; intro gb246 hg w11 hbox hb; have n0_ := mk_ (blk_below (g := gb245) (o := .cells #[.int .i64 a0_0, .int .i64 a0_1] 39 (0, 0)) kb_ hb); have n1_ := mk_ (below_step bg_ hb); have n2_ := mk_ (hbox); have n3_ := mk_ ((by rw [hg]; exact (below_size bg_) : w.heap.size ≤ gb246)); have n4_ := n3_; have n5_ := mk_ ((by rw [hg]; exact Nat.ne_of_lt (blk_lt (g := gb245) (o := .cells #[.int .i64 a0_0, .int .i64 a0_1] 39 (0, 0)) kb_) : gb245 ≠ gb246)); have n6_ := mk_ ((by rw [hg]; exact Nat.ne_of_gt (blk_lt (g := gb245) (o := .cells #[.int .i64 a0_0, .int .i64 a0_1] 39 (0, 0)) kb_) : gb246 ≠ gb245)); clear BK245 HB; have BK245 := n0_; have HB := n1_; have BK246 := n2_; have GW246 := n3_; have GE246 := n4_; have NB245_246 := n5_; have NB246_245 := n6_; clear n0_ n1_ n2_ n3_ n4_ n5_ n6_ hb hbox hg; have hnb12 := NB245_246.out; have hnc12 := NB246_245.out; have hcz13_0 : w11.cell? ⟨gb245, 0, none⟩ = some (.int .i64 a0_0) := (blk_cell BK245.out 0).trans rfl; have hcz13_1 : w11.cell? ⟨gb245, 1, none⟩ = some (.int .i64 a0_1) := (blk_cell BK245.out 1).trans rfl; have hfz13_0 := blk_frozen BK245.out 0; have hfz13_1 := blk_frozen BK245.out 1; have hcz14_0 : w11.cell? ⟨gb246, 0, none⟩ = some (.int .i64 a1_0) := (blk_cell BK246.out 0).trans rfl; have hcz14_1 : w11.cell? ⟨gb246, 1, none⟩ = some (.int .i64 a1_1) := (blk_cell BK246.out 1).trans rfl; have hfz14_0 := blk_frozen BK246.out 0; have hfz14_1 := blk_frozen BK246.out 1));go_ret;exact ⟨ew_, bg_⟩
  ·rw [if_neg c9] at H;have c9b0 : (a0_0 == a1_0) = false := beq_eq_false_iff_ne.mpr c9;have c9b1 : (a0_0 != a1_0) = true := bne_iff_ne.mpr c9;obtain rfl := Option.some.inj H;go_enter Tryz.func92, Tryz.ntmps92;go_wp2_with (first | ((with_reducible refine g_ 2 ?_); refine bx_ 2 #[.int .i64 a0_0, .int .i64 a0_1] 39 ?_; intro gb245 hg w15 hbox hb; have n0_ := mk_ (below_step bl_ hb); have n1_ := mk_ (hbox); have n2_ := mk_ ((by rw [hg]; exact (below_size bl_) : w.heap.size ≤ gb245)); have n3_ := n2_; clear HB; have HB := n0_; have BK245 := n1_; have GW245 := n2_; have GE245 := n3_; clear n0_ n1_ n2_ n3_ hb hbox hg) | ((with_reducible refine g_ 3 ?_); refine bx_ 3 #[.int .i64 a1_0, .int .i64 a1_1] 39 ?_; intro gb246 hg w16 hbox hb; have n0_ := mk_ (blk_below (g := gb245) (o := .cells #[.int .i64 a0_0, .int .i64 a0_1] 39 (0, 0)) kb_ hb); have n1_ := mk_ (below_step bg_ hb); have n2_ := mk_ (hbox); have n3_ := mk_ ((by rw [hg]; exact (below_size bg_) : w.heap.size ≤ gb246)); have n4_ := n3_; have n5_ := mk_ ((by rw [hg]; exact Nat.ne_of_lt (blk_lt (g := gb245) (o := .cells #[.int .i64 a0_0, .int .i64 a0_1] 39 (0, 0)) kb_) : gb245 ≠ gb246)); have n6_ := mk_ ((by rw [hg]; exact Nat.ne_of_gt (blk_lt (g := gb245) (o := .cells #[.int .i64 a0_0, .int .i64 a0_1] 39 (0, 0)) kb_) : gb246 ≠ gb245)); clear BK245 HB; have BK245 := n0_; have HB := n1_; have BK246 := n2_; have GW246 := n3_; have GE246 := n4_; have NB245_246 := n5_; have NB246_245 := n6_; clear n0_ n1_ n2_ n3_ n4_ n5_ n6_ hb hbox hg; have hnb17 := NB245_246.out; have hnc17 := NB246_245.out; have hcz18_0 : w16.cell? ⟨gb245, 0, none⟩ = some (.int .i64 a0_0) := (blk_cell BK245.out 0).trans rfl; have hcz18_1 : w16.cell? ⟨gb245, 1, none⟩ = some (.int .i64 a0_1) := (blk_cell BK245.out 1).trans rfl; have hfz18_0 := blk_frozen BK245.out 0; have hfz18_1 := blk_frozen BK245.out 1; have hcz19_0 : w16.cell? ⟨gb246, 0, none⟩ = some (.int .i64 a1_0) := (blk_cell BK246.out 0).trans rfl; have hcz19_1 : w16.cell? ⟨gb246, 1, none⟩ = some (.int .i64 a1_1) := (blk_cell BK246.out 1).trans rfl; have hfz19_0 := blk_frozen BK246.out 0; have hfz19_1 := blk_frozen BK246.out 1));go_ret;exact ⟨ew_, bg_⟩
def laws_big.f (l0 : List Int) (l1 : List Int) : Option (Bool) := if (l0.length : Int) > 1048576 then (some true) else (some (decide ((l1.length : Int) > (wrap64 (1048576 - (l0.length : Int))))))
theorem laws_big.calls (A0 : Option Addr) (c0 : Nat) (l0 : List Int) (A1 : Option Addr) (c1 : Nat) (l1 : List Int) (r : Bool) (w : World) (hr0 : Kd.C (Kd.int .u8) w A0 l0.length l0) (hc0 : l0.length ≤ c0) (hr1 : Kd.C (Kd.int .u8) w A1 l1.length l1) (hc1 : l1.length ≤ c1) (h : laws_big.f l0 l1 = some r) :
  Calls Tryz.prog 4 #[.slice A0 l0.length c0, .slice A1 l1.length c1] w fun e w' => e = .returned (.bool r) ∧ Drawn0 w w' := by
 have HR0 := mk_ hr0;have HC0 := mk_ hc0;clear hr0 hc0;have HR1 := mk_ hr1;have HC1 := mk_ hc1;clear hr1 hc1;have H : (if (l0.length : Int) > 1048576 then (some true) else (some (decide ((l1.length : Int) > (wrap64 (1048576 - (l0.length : Int))))))) = some r := h;clear h;by_cases c3 : (l0.length : Int) > 1048576
 ·rw [if_pos c3] at H;have c3b0 : decide (1048576 < (l0.length : Int)) = true := decide_eq_true c3;have c3b1 : decide (1048576 < l0.length) = true := decide_eq_true (by omega);clear c3;obtain rfl := Option.some.inj H;go_enter Tryz.func4, Tryz.ntmps4;go_wp2;go_ret;exact ⟨es_, dr_⟩
 ·rw [if_neg c3] at H;have c3b0 : decide (1048576 < (l0.length : Int)) = false := decide_eq_false c3;have c3b1 : decide (1048576 < l0.length) = false := decide_eq_false (by omega);clear c3;obtain rfl := Option.some.inj H;go_enter Tryz.func4, Tryz.ntmps4;go_wp2;go_ret;exact ⟨es_, dr_⟩
def spec_l1In.f (a0 : Int) (a1 : Int) (a2 : Int) : Option (Bool) := if a0 ≥ a1 then (some (decide (a0 ≤ a2))) else (some false)
theorem spec_l1In.calls (a0 : Int) (a1 : Int) (a2 : Int) (r : Bool) (w : World) (h : spec_l1In.f a0 a1 a2 = some r) :
  Calls Tryz.prog 48 #[.int .i64 a0, .int .i64 a1, .int .i64 a2] w fun e w' => e = .returned (.bool r) ∧ Drawn0 w w' := by
 have H : (if a0 ≥ a1 then (some (decide (a0 ≤ a2))) else (some false)) = some r := h;clear h;by_cases c4 : a0 ≥ a1
 ·rw [if_pos c4] at H;have c4b0 : decide (a1 ≤ a0) = true := decide_eq_true c4;clear c4;obtain rfl := Option.some.inj H;go_enter Tryz.func48, Tryz.ntmps48;go_wp2;go_ret;exact ⟨es_, dr_⟩
 ·rw [if_neg c4] at H;have c4b0 : decide (a1 ≤ a0) = false := decide_eq_false c4;clear c4;obtain rfl := Option.some.inj H;go_enter Tryz.func48, Tryz.ntmps48;go_wp2;go_ret;exact ⟨es_, dr_⟩
def spec_cdPlanePoints.f (a0 : Int) : Option (Bool) := (spec_l1In.f a0 4 30).bind fun t101 => (if t101 = true then (some ((Int.tmod a0 2) == 0)) else (some false))
theorem spec_cdPlanePoints.calls (a0 : Int) (r : Bool) (w : World) (h : spec_cdPlanePoints.f a0 = some r) :
  Calls Tryz.prog 39 #[.int .i64 a0] w fun e w' => e = .returned (.bool r) ∧ Drawn0 w w' := by
 have H : ((spec_l1In.f a0 4 30).bind fun t101 => (if t101 = true then (some ((Int.tmod a0 2) == 0)) else (some false))) = some r := h;clear h;replace H := Option.bind_eq_some_iff.mp H;obtain ⟨t101, A20, H⟩ := H;try dsimp only at H
 have A2 := mk_ A20;clear A20;by_cases c3 : t101 = true
 ·subst c3;have H1 : (some ((Int.tmod a0 2) == 0)) = some r := by rw [if_pos rfl] at H; exact H
  clear H;have H := H1;clear H1;obtain rfl := Option.some.inj H;go_enter Tryz.func39, Tryz.ntmps39;go_wp2_with (first | (refine gd_ 4 Tryz.func48 (spec_l1In.calls a0 4 30 true _ A2.out) ?_; intro nd));go_ret;exact ⟨es_, dr_⟩
 ·replace c3 := Bool.eq_false_iff.mpr c3;subst c3;have H1 : (some false) = some r := by rw [if_neg (show ¬ (false = true) by decide)] at H; exact H
  clear H;have H := H1;clear H1;obtain rfl := Option.some.inj H;go_enter Tryz.func39, Tryz.ntmps39;go_wp2_with (first | (refine gd_ 4 Tryz.func48 (spec_l1In.calls a0 4 30 false _ A2.out) ?_; intro nd));go_ret;exact ⟨es_, dr_⟩
end Go.Proofs.YtnofekfoonmedaaGreatDoor.X
end

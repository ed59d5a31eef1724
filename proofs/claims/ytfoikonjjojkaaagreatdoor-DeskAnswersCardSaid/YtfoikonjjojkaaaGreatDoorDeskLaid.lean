/-
  The tables of the shelf's contracts that the desk calls, laid at this program's numbers (written by lay-plain.mjs, names turned).
-/
import Derived.Shelf.LaysM
import Derived.Shelf.LaysC
import Derived.Ground.NamesProg
import Derived.Test.YtfoikonjjojkaaaGreatDoorProg
set_option maxRecDepth 100000
namespace Go.Proofs.YtfoikonjjojkaaaGreatDoor
open Go.Shelf
def laysD102_ren : Go.Shelf.Ren := ⟨fun | 102 => 7 | 209 => 16 | 207 => 44 | n => n, fun | 9 => 9 | 4 => 4 | 3 => 3 | n => n, fun | n => n⟩
theorem laysD102 : Go.Proofs.Lays.n102 Tryz.prog laysD102_ren := by repeat' first | kernel_rfl | exact rfl | (intros; rfl) | constructor
def laysD143_ren : Go.Shelf.Ren := ⟨fun | 143 => 43 | 219 => 93 | 217 => 135 | 225 => 136 | 224 => 137 | 267 => 138 | 266 => 194 | 314 => 195 | n => n, fun | 9 => 9 | 3 => 3 | 4 => 4 | 5 => 5 | 46 => 163 | 146 => 256 | 51 => 178 | n => n, fun | 1 => 4 | n => n⟩
theorem laysD143 : Go.Proofs.Lays.n143 Tryz.prog laysD143_ren := by repeat' first | kernel_rfl | exact rfl | (intros; rfl) | constructor
def laysD229_ren : Go.Shelf.Ren := ⟨fun | 229 => 20 | n => n, fun | 9 => 9 | 40 => 66 | 31 => 43 | 152 => 111 | 3 => 3 | 0 => 0 | 4 => 4 | 21 => 21 | 154 => 113 | n => n, fun | n => n⟩
theorem laysD229 : Go.Proofs.Lays.n229 Tryz.prog laysD229_ren := by repeat' first | kernel_rfl | exact rfl | (intros; rfl) | constructor
def laysD156_ren : Go.Shelf.Ren := ⟨fun | 156 => 40 | 165 => 91 | 166 => 8 | 169 => 10 | 240 => 17 | 241 => 134 | 276 => 45 | 277 => 193 | n => n, fun | 31 => 43 | 9 => 9 | 3 => 3 | 4 => 4 | 0 => 0 | 20 => 20 | 72 => 33 | 76 => 40 | 70 => 30 | 37 => 31 | 75 => 39 | 127 => 70 | 164 => 109 | 5 => 5 | 80 => 42 | n => n, fun | n => n⟩
theorem laysD156 : Go.Proofs.Lays.n156 Tryz.prog laysD156_ren := by repeat' first | kernel_rfl | exact rfl | (intros; rfl) | constructor
def laysD169_ren : Go.Shelf.Ren := ⟨fun | 169 => 10 | n => n, fun | 70 => 30 | 9 => 9 | 0 => 0 | 72 => 33 | 37 => 31 | 127 => 70 | 3 => 3 | 5 => 5 | n => n, fun | n => n⟩
theorem laysD169 : Go.Proofs.Lays.n169 Tryz.prog laysD169_ren := by repeat' first | kernel_rfl | exact rfl | (intros; rfl) | constructor
def laysDM171_ren : Go.Shelf.Ren := ⟨fun | 171 => 19 | 243 => 46 | 246 => 70 | 283 => 120 | 284 => 121 | 285 => 122 | 286 => 123 | 129 => 171 | 317 => 170 | 318 => 172 | 319 => 173 | 320 => 174 | 337 => 217 | 338 => 218 | n => n, fun | 3 => 3 | 9 => 9 | 2 => 2 | 4 => 4 | 171 => 167 | 0 => 0 | 53 => 160 | 37 => 31 | 5 => 5 | 173 => 170 | 212 => 231 | 51 => 178 | 20 => 20 | 213 => 232 | 46 => 163 | 232 => 339 | 233 => 340 | n => n, fun | 17 => 8 | 18 => 9 | 19 => 10 | n => n⟩
theorem laysDM171 : Go.Proofs.LaysM.n171 Tryz.prog laysDM171_ren := by repeat' first | kernel_rfl | exact rfl | (intros; rfl) | constructor
def laysDC172_ren : Go.Shelf.Ren := ⟨fun | 172 => 139 | 244 => 196 | 245 => 69 | 247 => 68 | 279 => 116 | 280 => 117 | 281 => 118 | 282 => 119 | 287 => 115 | 316 => 168 | 171 => 19 | 205 => 169 | 321 => 166 | 322 => 167 | 243 => 46 | 246 => 70 | 283 => 120 | 284 => 121 | 285 => 122 | 286 => 123 | 129 => 171 | 317 => 170 | 318 => 172 | 319 => 173 | 320 => 174 | 337 => 217 | 338 => 218 | n => n, fun | 9 => 9 | 3 => 3 | 75 => 39 | 76 => 40 | 4 => 4 | 5 => 5 | 167 => 159 | 37 => 31 | 0 => 0 | 85 => 72 | 2 => 2 | 168 => 164 | 53 => 160 | 175 => 161 | 46 => 163 | 210 => 228 | 127 => 70 | 145 => 305 | 143 => 303 | 21 => 21 | 171 => 167 | 173 => 170 | 212 => 231 | 51 => 178 | 20 => 20 | 213 => 232 | 232 => 339 | 233 => 340 | 80 => 42 | n => n, fun | 15 => 6 | 16 => 7 | 17 => 8 | 18 => 9 | 19 => 10 | n => n⟩
theorem laysDC172 : Go.Proofs.LaysC.n172 Tryz.prog laysDC172_ren := by repeat' first | kernel_rfl | exact rfl | (intros; rfl) | constructor
end Go.Proofs.YtfoikonjjojkaaaGreatDoor

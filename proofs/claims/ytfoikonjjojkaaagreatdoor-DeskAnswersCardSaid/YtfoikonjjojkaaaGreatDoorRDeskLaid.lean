/-
  The tables of the shelf's contracts that the desk calls, laid at this program's numbers (written by lay-plain.mjs, names turned).
-/
import Derived.Shelf.LaysM
import Derived.Shelf.LaysC
import Derived.Ground.NamesProg
import Derived.Test.YtfoikonjjojkaaaGreatDoorProg
set_option maxRecDepth 100000
namespace Go.Proofs.YtfoikonjjojkaaaGreatDoor
open Go.Shelf
def laysD146_ren : Go.Shelf.Ren := ⟨fun | 146 => 11 | 221 => 24 | 268 => 66 | 138 => 67 | 143 => 43 | 195 => 113 | 197 => 42 | 218 => 114 | 219 => 93 | 260 => 92 | 217 => 135 | 225 => 136 | 224 => 137 | 267 => 138 | 266 => 194 | 314 => 195 | n => n, fun | 9 => 9 | 31 => 43 | 3 => 3 | 4 => 4 | 0 => 0 | 105 => 105 | 21 => 21 | 5 => 5 | 46 => 163 | 119 => 133 | 139 => 192 | 138 => 191 | 146 => 256 | 51 => 178 | n => n, fun | 1 => 4 | 3 => 2 | 4 => 3 | n => n⟩
theorem laysD146 : Go.Proofs.Lays.n146 Tryz.prog laysD146_ren := by repeat' first | kernel_rfl | exact rfl | (intros; rfl) | constructor
def laysD157_ren : Go.Shelf.Ren := ⟨fun | 157 => 35 | 229 => 20 | 199 => 86 | 261 => 129 | 311 => 180 | 312 => 181 | n => n, fun | 9 => 9 | 31 => 43 | 3 => 3 | 5 => 5 | 4 => 4 | 119 => 133 | 0 => 0 | 40 => 66 | 152 => 111 | 21 => 21 | 154 => 113 | 51 => 178 | 141 => 180 | 196 => 242 | 193 => 239 | 198 => 245 | 49 => 243 | 194 => 240 | 201 => 248 | 226 => 307 | 46 => 163 | 227 => 308 | n => n, fun | 0 => 0 | 6 => 1 | n => n⟩
theorem laysD157 : Go.Proofs.Lays.n157 Tryz.prog laysD157_ren := by repeat' first | kernel_rfl | exact rfl | (intros; rfl) | constructor
def laysDM173_ren : Go.Shelf.Ren := ⟨fun | 173 => 26 | 246 => 70 | 283 => 120 | 284 => 121 | 285 => 122 | 286 => 123 | 129 => 171 | 317 => 170 | 318 => 172 | 319 => 173 | 320 => 174 | 337 => 217 | 338 => 218 | n => n, fun | 2 => 2 | 3 => 3 | 9 => 9 | 4 => 4 | 171 => 167 | 0 => 0 | 53 => 160 | 37 => 31 | 5 => 5 | 173 => 170 | 212 => 231 | 51 => 178 | 20 => 20 | 213 => 232 | 46 => 163 | 232 => 339 | 233 => 340 | n => n, fun | 17 => 8 | 18 => 9 | 19 => 10 | n => n⟩
theorem laysDM173 : Go.Proofs.LaysM.n173 Tryz.prog laysDM173_ren := by repeat' first | kernel_rfl | exact rfl | (intros; rfl) | constructor
def laysDC174_ren : Go.Shelf.Ren := ⟨fun | 174 => 25 | 247 => 68 | 245 => 69 | 287 => 115 | 279 => 116 | 280 => 117 | 281 => 118 | 282 => 119 | 321 => 166 | 322 => 167 | 316 => 168 | 171 => 19 | 205 => 169 | 243 => 46 | 246 => 70 | 283 => 120 | 284 => 121 | 285 => 122 | 286 => 123 | 129 => 171 | 317 => 170 | 318 => 172 | 319 => 173 | 320 => 174 | 337 => 217 | 338 => 218 | n => n, fun | 9 => 9 | 3 => 3 | 2 => 2 | 75 => 39 | 85 => 72 | 4 => 4 | 167 => 159 | 5 => 5 | 53 => 160 | 175 => 161 | 46 => 163 | 168 => 164 | 37 => 31 | 0 => 0 | 210 => 228 | 21 => 21 | 127 => 70 | 145 => 305 | 143 => 303 | 171 => 167 | 173 => 170 | 212 => 231 | 51 => 178 | 20 => 20 | 213 => 232 | 232 => 339 | 233 => 340 | 80 => 42 | n => n, fun | 15 => 6 | 16 => 7 | 17 => 8 | 18 => 9 | 19 => 10 | n => n⟩
theorem laysDC174 : Go.Proofs.LaysC.n174 Tryz.prog laysDC174_ren := by repeat' first | kernel_rfl | exact rfl | (intros; rfl) | constructor
end Go.Proofs.YtfoikonjjojkaaaGreatDoor

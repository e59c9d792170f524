/-
  DERIVED: THE SHELF's CONTRACTS AT THIS DUMP, IN PLAIN WORDS (tools/lay-plain.mjs out of 'YtflpelbhalndcaaShelf.lean', which tools/lay-shelf.mjs wrote): THE SAME DECLARATIONS UNDER THE SAME NAMES: 'import', 'namespace', 'open', 'def', 'theorem' AND NOTHING ELSE: no command of the shelf's: FOR A HAND-IN. Each laying: the table of numbers ('.._ren') and one theorem, a field a fact of the dump's own or the kernel's comparison; each contract: ONE APPLICATION.
-/
import Derived.Shelf.SlSortCmp.WholeK
import Derived.Ground.SlsfProg
import Derived.Test.YtflpelbhalndcaaProg
namespace Go.Proofs
open Go.Shelf
def Try.sortEdges_ren : Go.Shelf.Ren := ⟨fun | 6 => 148 | 15 => 176 | 14 => 175 | 28 => 195 | 29 => 196 | 20 => 187 | 21 => 188 | 22 => 189 | 23 => 190 | 24 => 191 | 25 => 192 | 26 => 193 | 27 => 194 | 46 => 199 | 47 => 200 | 48 => 201 | 49 => 202 | 50 => 203 | 57 => 204 | n => n, fun | 22 => 23 | 24 => 32 | 25 => 186 | 3 => 3 | 39 => 227 | 0 => 0 | 53 => 267 | 55 => 269 | 4 => 4 | 46 => 261 | 45 => 260 | 50 => 177 | 5 => 5 | 9 => 9 | 66 => 274 | 70 => 278 | 76 => 280 | 77 => 123 | n => n, fun | n => n⟩
theorem Try.sortEdges : Go.Proofs.SlLaysF0.n6 Try.prog Try.sortEdges_ren := {
  mixed := by kernel_rfl
  f6 := ⟨Try.f148.name, by decide, Try.func148.trans (congrArg some (by kernel_rfl))⟩
  f14 := ⟨Try.f175.name, by decide, Try.func175.trans (congrArg some (by kernel_rfl))⟩
  f15 := Try.func176.trans (congrArg some (by kernel_rfl))
  f20 := ⟨Try.f187.name, by decide, Try.func187.trans (congrArg some (by kernel_rfl))⟩
  f21 := ⟨Try.f188.name, by decide, Try.func188.trans (congrArg some (by kernel_rfl))⟩
  f22 := ⟨Try.f189.name, by decide, Try.func189.trans (congrArg some (by kernel_rfl))⟩
  f23 := ⟨Try.f190.name, by decide, Try.func190.trans (congrArg some (by kernel_rfl))⟩
  f24 := ⟨Try.f191.name, by decide, Try.func191.trans (congrArg some (by kernel_rfl))⟩
  f25 := ⟨Try.f192.name, by decide, Try.func192.trans (congrArg some (by kernel_rfl))⟩
  f26 := ⟨Try.f193.name, by decide, Try.func193.trans (congrArg some (by kernel_rfl))⟩
  f27 := ⟨Try.f194.name, by decide, Try.func194.trans (congrArg some (by kernel_rfl))⟩
  f28 := Try.func195.trans (congrArg some (by kernel_rfl))
  f29 := Try.func196.trans (congrArg some (by kernel_rfl))
  f46 := ⟨Try.f199.name, by decide, Try.func199.trans (congrArg some (by kernel_rfl))⟩
  f47 := Try.func200.trans (congrArg some (by kernel_rfl))
  f48 := Try.func201.trans (congrArg some (by kernel_rfl))
  f49 := ⟨Try.f202.name, by decide, Try.func202.trans (congrArg some (by kernel_rfl))⟩
  f50 := ⟨Try.f203.name, by decide, Try.func203.trans (congrArg some (by kernel_rfl))⟩
  f57 := ⟨Try.f204.name, by decide, Try.func204.trans (congrArg some (by kernel_rfl))⟩
  t0 := Try.underlying0
  a0 := Try.isAgg0
  z0 := Try.sizeOf0
  v0 := Try.zeroValue0
  t3 := Try.underlying3
  a3 := Try.isAgg3
  z3 := Try.sizeOf3
  v3 := Try.zeroValue3
  t4 := Try.underlying4
  a4 := Try.isAgg4
  z4 := Try.sizeOf4
  v4 := Try.zeroValue4
  t5 := Try.underlying5
  a5 := Try.isAgg5
  z5 := Try.sizeOf5
  v5 := Try.zeroValue5
  t9 := Try.underlying9
  a9 := Try.isAgg9
  z9 := Try.sizeOf9
  v9 := Try.zeroValue9
  t22 := Try.underlying23
  a22 := Try.isAgg23
  z22 := Try.sizeOf23
  v22 := Try.zeroValue23
  t25 := Try.underlying186
  a25 := Try.isAgg186
  z25 := Try.sizeOf186
  v25 := Try.zeroValue186
  t39 := Try.underlying227
  a39 := Try.isAgg227
  z39 := Try.sizeOf227
  v39 := Try.zeroValue227
  t45 := Try.underlying260
  a45 := Try.isAgg260
  z45 := Try.sizeOf260
  v45 := Try.zeroValue260
  t46 := Try.underlying261
  a46 := Try.isAgg261
  z46 := Try.sizeOf261
  v46 := Try.zeroValue261
  t50 := Try.underlying177
  a50 := Try.isAgg177
  z50 := Try.sizeOf177
  v50 := Try.zeroValue177
  t53 := Try.underlying267
  a53 := Try.isAgg267
  z53 := Try.sizeOf267
  v53 := Try.zeroValue267
  t55 := Try.underlying269
  a55 := Try.isAgg269
  z55 := Try.sizeOf269
  v55 := Try.zeroValue269
  t66 := Try.underlying274
  a66 := Try.isAgg274
  z66 := Try.sizeOf274
  v66 := Try.zeroValue274
  t70 := Try.underlying278
  a70 := Try.isAgg278
  z70 := Try.sizeOf278
  v70 := Try.zeroValue278
  t76 := Try.underlying280
  a76 := Try.isAgg280
  z76 := Try.sizeOf280
  v76 := Try.zeroValue280
  t77 := Try.underlying123
  a77 := Try.isAgg123
  z77 := Try.sizeOf123
  v77 := Try.zeroValue123 }
end Go.Proofs

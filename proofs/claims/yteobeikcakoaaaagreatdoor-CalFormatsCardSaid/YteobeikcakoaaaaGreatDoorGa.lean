/-
  What the given functions ask of the world: the library's tables as they are laid, and that bytealg.MaxLen is an int; kept by whatever turns only new memory.
  DERIVED: THE SHELF's CONTRACTS AT THIS DUMP, IN PLAIN WORDS (tools/lay-plain.mjs out of 'TryzShelf.lean', which tools/lay-shelf.mjs wrote): THE SAME DECLARATIONS UNDER THE SAME NAMES: 'import', 'namespace', 'open', 'def', 'theorem' AND NOTHING ELSE: no command of the shelf's: FOR A HAND-IN. Each laying: the table of numbers ('.._ren') and one theorem, a field a fact of the dump's own or the kernel's comparison; each contract: ONE APPLICATION.
  cal: what leap and lengths compute; the iterator of months hands out each month with the days before it.
  cal: number.
  cal: dateOf.
  cal: DaysIn, DayOf, DateOf, Week return what the plain functions below say.
  cal: the library's functions that the package calls, and digits.
-/
import Derived.Test.YteobeikcakoaaaaGreatDoorProg
import Derived.Below
import Derived.Lib.LaidTab
import Derived.Lib.SmallJoins
import Derived.Lib.ItoaNum
import Derived.Lib.Space
import Derived.KernelRfl
import Derived.Shelf.Strings.Builder1
import Derived.Shelf.Strings.Builder2
import Derived.Shelf.Strings.OnBuilder
import Derived.Shelf.Strings.Trim
import Derived.Shelf.Strings.SlTrimAscii
import Derived.Shelf.Small.Utf8
import Derived.Shelf.Small.Strs
import Derived.Shelf.Strings.BuilderF
import Derived.Shelf.Utf8.RuneCount
import Derived.Shelf.Strconv.Atoi
import Derived.Shelf.Strconv.Itoa0
import Derived.Shelf.Strconv.Itoa1
import Derived.Shelf.LaysM
import Derived.Shelf.Strconv.Itoa2
import Derived.Shelf.Strconv.Itoa3
import Derived.Shelf.Strconv.AtoiErrFast
import Derived.Shelf.Strconv.ParseIntEmpty
import Derived.Shelf.Strconv.AtoiFail
import Derived.Shelf.Strconv.Clone
import Derived.Shelf.Strconv.SyntaxError
import Derived.Shelf.LaysC
import Derived.Shelf.Strconv.ToError
import Derived.Shelf.Strconv.Lower
import Derived.Shelf.Strconv.ParseUint10
import Derived.Shelf.Strconv.ParseUint10Empty
import Derived.Shelf.Strconv.ParseUint10Any
import Derived.Shelf.Strconv.ParseInt10
import Derived.Shelf.Strconv.AtoiLong
import Derived.Shelf.Strconv.AtoiInnerAll
import Derived.Shelf.Strconv.RangeError
import Derived.Shelf.Strconv.ToErrorRange
import Derived.Shelf.Strconv.AtoiAll
import Derived.Shelf.Strings.Search1
import Derived.Shelf.Strings.Search2
import Derived.Shelf.Strings.Search3
import Derived.Shelf.Strings.Count
import Derived.Shelf.Strings.Shaped
import Derived.Shelf.Strings.Prefix
import Derived.Shelf.Strings.Split
import Derived.Shelf.Strings.Fields
import Derived.Shelf.Strings.SplitShaped
import Derived.Shelf.Unicode.Latin
import Derived.Shelf.Unicode.Decode
import Derived.Shelf.Strings.Runes
import Derived.Shelf.Strings.RuneCount
import Derived.Shelf.Strings.AsciiSet
import Derived.Shelf.Strings.Explode
import Derived.Shelf.Bits.Mul64
import Derived.Shelf.Strings.Repeat
import Derived.Shelf.Unicode.DecodeSlow
import Derived.Shelf.Unicode.DecodeAny
import Derived.Shelf.Unicode.Is16White
import Derived.Shelf.Unicode.IsSpaceAny
import Derived.Shelf.Unicode.DecodeLast
import Derived.Shelf.Unicode.Is16Any
import Derived.Shelf.Unicode.Is32Any
import Derived.Shelf.Unicode.ExclAny
import Derived.RangeFuncNested
import Derived.RangeFuncBound
import Derived.RangeFuncCalls
import Derived.RangeFuncLeaves
import Derived.Shelf.Abstract
import Derived.Shelf.RegionOpen
import Derived.WalkKit
import Derived.OwnWalkIn
import Derived.TacticsInMore
import Derived.LoopNIn
import Derived.LoopIn
import Derived.WalkLawsBesides
import Derived.WalkSpells
import Derived.Lib.Hide
import Derived.BigRegion
import Derived.BigQuiet
import Derived.Deep.QuietTactic
import Derived.Deep.RegionWith
import Derived.Deep.RegionHeld3
import Derived.StillTailTactics
import Derived.Test.YteobeikcakoaaaaGreatDoorWWords
import Derived.Lib.AppendIntMem
namespace Go.Proofs.YteobeikcakoaaaaGreatDoor.Given
open Go.RowKit

theorem gMax : Tryz.prog.globalNamed "internal/bytealg.MaxLen" = some 0 := by kernel_rfl
theorem gSpace : Tryz.prog.globalNamed "strings.asciiSpace" = some 1 := by kernel_rfl
theorem gPow : Tryz.prog.globalNamed "internal/strconv.uint64pow10" = some 2 := by kernel_rfl

/-- The tables that the library reads. -/
structure Tb (w : World) : Prop where
  max : ∃ m, w.cell? ⟨0, 0, none⟩ = some (.int .i64 m)
  space : Lib.TabIs Tryz.prog w "strings.asciiSpace" .u8 Lib.asciiSpaceTab
  pow : Lib.TabIs Tryz.prog w "internal/strconv.uint64pow10" .u64 Lib.pow10Tab

theorem Tb.below {w w' : World} (h : Tb w) (hb : Below w.heap.size w w') : Tb w' := by
  refine ⟨?_, Joins.tab_stays gSpace h.space hb (Nat.le_refl _), Joins.tab_stays gPow h.pow hb (Nat.le_refl _)⟩
  obtain ⟨m, hm⟩ := h.max
  have hlt : 0 < w.heap.size := World.block_lt_of_cell? w ⟨0, 0, none⟩ hm
  exact ⟨m, (hb.cell (p := ⟨0, 0, none⟩) hlt).trans hm⟩

end Go.Proofs.YteobeikcakoaaaaGreatDoor.Given

namespace Go.Proofs
open Go.Shelf
def Tryz.lays156_ren : Go.Shelf.Ren := ⟨fun | 156 => 113 | 165 => 129 | 166 => 130 | 169 => 132 | 240 => 152 | 241 => 153 | 276 => 172 | 277 => 173 | n => n, fun | 31 => 97 | 9 => 9 | 3 => 3 | 4 => 4 | 0 => 0 | 20 => 20 | 72 => 128 | 76 => 120 | 70 => 126 | 37 => 45 | 75 => 119 | 127 => 152 | 164 => 169 | 5 => 5 | 80 => 67 | n => n, fun | n => n⟩
theorem Tryz.lays156 : Go.Proofs.Lays.n156 Tryz.prog Tryz.lays156_ren := {
  mixed := by kernel_rfl
  f156 := Tryz.func113.trans (congrArg some (by kernel_rfl))
  f165 := Tryz.func129.trans (congrArg some (by kernel_rfl))
  f166 := Tryz.func130.trans (congrArg some (by kernel_rfl))
  f169 := Tryz.func132.trans (congrArg some (by kernel_rfl))
  f240 := Tryz.func152.trans (congrArg some (by kernel_rfl))
  f241 := Tryz.func153.trans (congrArg some (by kernel_rfl))
  f276 := Tryz.func172.trans (congrArg some (by kernel_rfl))
  f277 := Tryz.func173.trans (congrArg some (by kernel_rfl))
  t0 := Tryz.underlying0
  a0 := Tryz.isAgg0
  z0 := Tryz.sizeOf0
  v0 := Tryz.zeroValue0
  t3 := Tryz.underlying3
  a3 := Tryz.isAgg3
  z3 := Tryz.sizeOf3
  v3 := Tryz.zeroValue3
  t4 := Tryz.underlying4
  a4 := Tryz.isAgg4
  z4 := Tryz.sizeOf4
  v4 := Tryz.zeroValue4
  t9 := Tryz.underlying9
  a9 := Tryz.isAgg9
  z9 := Tryz.sizeOf9
  v9 := Tryz.zeroValue9
  t20 := Tryz.underlying20
  a20 := Tryz.isAgg20
  z20 := Tryz.sizeOf20
  v20 := Tryz.zeroValue20
  t31 := Tryz.underlying97
  a31 := Tryz.isAgg97
  z31 := Tryz.sizeOf97
  v31 := Tryz.zeroValue97
  t37 := Tryz.underlying45
  a37 := Tryz.isAgg45
  z37 := Tryz.sizeOf45
  v37 := Tryz.zeroValue45
  t70 := Tryz.underlying126
  a70 := Tryz.isAgg126
  z70 := Tryz.sizeOf126
  v70 := Tryz.zeroValue126
  t72 := Tryz.underlying128
  a72 := Tryz.isAgg128
  z72 := Tryz.sizeOf128
  v72 := Tryz.zeroValue128
  t75 := Tryz.underlying119
  a75 := Tryz.isAgg119
  z75 := Tryz.sizeOf119
  v75 := Tryz.zeroValue119
  t76 := Tryz.underlying120
  a76 := Tryz.isAgg120
  z76 := Tryz.sizeOf120
  v76 := Tryz.zeroValue120
  t127 := Tryz.underlying152
  a127 := Tryz.isAgg152
  z127 := Tryz.sizeOf152
  v127 := Tryz.zeroValue152
  t164 := Tryz.underlying169
  a164 := Tryz.isAgg169
  z164 := Tryz.sizeOf169
  v164 := Tryz.zeroValue169 }
theorem Tryz.Builder_Extra_156 : Builder.Extra Tryz.prog Tryz.lays156_ren := {
  sizeBuilder := by kernel_rfl
  liesBuilder := by kernel_rfl
  t5 := Tryz.underlying5
  a5 := Tryz.isAgg5
  z5 := Tryz.sizeOf5
  v5 := Tryz.zeroValue5
  infoByte := by kernel_rfl
  cellsByte := by kernel_rfl
  sizeByte := by kernel_rfl
  neB5 := by decide }
open Go.RowKit in
/-- No element: the empty string; the world is as it was. (Whatever the slice's address and capacity: a nil slice too.) (LAID: no walk: one application.) -/
theorem Tryz.strings_Join_none (a : Option Addr) (c : Nat) (sep : ByteArray) (w : World) :
    Calls Tryz.prog 113 #[.slice a 0 c, .string sep] w fun e w' => e = .returned (.string ⟨#[]⟩) ∧ w' = w := Any.strings_Join_none Tryz.lays156 Tryz.Builder_Extra_156 a c sep w
open Go.RowKit in
/-- strings.Join: "Join concatenates the elements of its first argument to create a single string. The separator string sep is placed between elements in the resulting string.": HOWEVER MANY ELEMENTS. Below the heap's end the world is as it was. (LAID: no walk: one application.) -/
theorem Tryz.strings_Join (bk o c : Nat) (xs : List ByteArray) (sep : ByteArray) (w : World) (hcells : ∀ (j : Nat) x, xs[j]? = some x → w.cell? ⟨bk, o + j, none⟩ = some (.string x)) (hbk : bk < w.heap.size) (hN : xs.length ≤ 140737488355328) (hcap : xs.length ≤ c) (hlen : (Lib.join (xs.map (·.data.toList)) sep.data.toList).length ≤ 140737488355328) :
    Calls Tryz.prog 113 #[.slice (some ⟨bk, o, none⟩) xs.length c, .string sep] w fun e w' => e = .returned (.string ⟨(Lib.join (xs.map (·.data.toList)) sep.data.toList).toArray⟩) ∧ Below w.heap.size w w' := Any.strings_Join Tryz.lays156 Tryz.Builder_Extra_156 bk o c xs sep w hcells hbk hN hcap hlen
def Tryz.lays160_ren : Go.Shelf.Ren := ⟨fun | 160 => 124 | 232 => 137 | 231 => 136 | 227 => 138 | 234 => 140 | 233 => 139 | 236 => 142 | 235 => 141 | 228 => 159 | 271 => 161 | 151 => 52 | 197 => 160 | 120 => 179 | 152 => 92 | 260 => 178 | 137 => 106 | 119 => 115 | 224 => 116 | 225 => 117 | 217 => 123 | 266 => 135 | n => n, fun | 9 => 9 | 4 => 4 | 3 => 3 | 5 => 5 | 117 => 136 | 116 => 135 | 0 => 0 | 124 => 139 | 21 => 21 | 105 => 157 | 46 => 112 | 119 => 153 | 139 => 197 | 138 => 196 | n => n, fun | 3 => 6 | 4 => 7 | n => n⟩
theorem Tryz.lays160 : Go.Proofs.Lays.n160 Tryz.prog Tryz.lays160_ren := {
  mixed := by kernel_rfl
  f119 := Tryz.func115.trans (congrArg some (by kernel_rfl))
  f120 := Tryz.func179.trans (congrArg some (by kernel_rfl))
  f137 := Tryz.func106.trans (congrArg some (by kernel_rfl))
  f151 := Tryz.func52.trans (congrArg some (by kernel_rfl))
  f152 := Tryz.func92.trans (congrArg some (by kernel_rfl))
  f160 := Tryz.func124.trans (congrArg some (by kernel_rfl))
  f197 := Tryz.func160.trans (congrArg some (by kernel_rfl))
  f217 := Tryz.func123.trans (congrArg some (by kernel_rfl))
  f224 := Tryz.func116.trans (congrArg some (by kernel_rfl))
  f225 := Tryz.func117.trans (congrArg some (by kernel_rfl))
  f227 := Tryz.func138.trans (congrArg some (by kernel_rfl))
  f228 := Tryz.func159.trans (congrArg some (by kernel_rfl))
  f231 := Tryz.func136.trans (congrArg some (by kernel_rfl))
  f232 := Tryz.func137.trans (congrArg some (by kernel_rfl))
  f233 := Tryz.func139.trans (congrArg some (by kernel_rfl))
  f234 := Tryz.func140.trans (congrArg some (by kernel_rfl))
  f235 := Tryz.func141.trans (congrArg some (by kernel_rfl))
  f236 := Tryz.func142.trans (congrArg some (by kernel_rfl))
  f260 := Tryz.func178.trans (congrArg some (by kernel_rfl))
  f266 := Tryz.func135.trans (congrArg some (by kernel_rfl))
  f271 := Tryz.func161.trans (congrArg some (by kernel_rfl))
  t0 := Tryz.underlying0
  a0 := Tryz.isAgg0
  z0 := Tryz.sizeOf0
  v0 := Tryz.zeroValue0
  t3 := Tryz.underlying3
  a3 := Tryz.isAgg3
  z3 := Tryz.sizeOf3
  v3 := Tryz.zeroValue3
  t4 := Tryz.underlying4
  a4 := Tryz.isAgg4
  z4 := Tryz.sizeOf4
  v4 := Tryz.zeroValue4
  t5 := Tryz.underlying5
  a5 := Tryz.isAgg5
  z5 := Tryz.sizeOf5
  v5 := Tryz.zeroValue5
  t9 := Tryz.underlying9
  a9 := Tryz.isAgg9
  z9 := Tryz.sizeOf9
  v9 := Tryz.zeroValue9
  t21 := Tryz.underlying21
  a21 := Tryz.isAgg21
  z21 := Tryz.sizeOf21
  v21 := Tryz.zeroValue21
  t46 := Tryz.underlying112
  a46 := Tryz.isAgg112
  z46 := Tryz.sizeOf112
  v46 := Tryz.zeroValue112
  t105 := Tryz.underlying157
  a105 := Tryz.isAgg157
  z105 := Tryz.sizeOf157
  v105 := Tryz.zeroValue157
  t116 := Tryz.underlying135
  a116 := Tryz.isAgg135
  z116 := Tryz.sizeOf135
  t117 := Tryz.underlying136
  a117 := Tryz.isAgg136
  z117 := Tryz.sizeOf136
  v117 := Tryz.zeroValue136
  t119 := Tryz.underlying153
  a119 := Tryz.isAgg153
  z119 := Tryz.sizeOf153
  t124 := Tryz.underlying139
  a124 := Tryz.isAgg139
  z124 := Tryz.sizeOf139
  v124 := Tryz.zeroValue139
  t138 := Tryz.underlying196
  a138 := Tryz.isAgg196
  z138 := Tryz.sizeOf196
  v138 := Tryz.zeroValue196
  t139 := Tryz.underlying197
  a139 := Tryz.isAgg197
  z139 := Tryz.sizeOf197
  v139 := Tryz.zeroValue197
  g3 := by kernel_rfl
  g4 := by kernel_rfl }
def Tryz.lays137_ren : Go.Shelf.Ren := ⟨fun | 137 => 106 | 217 => 123 | 266 => 135 | n => n, fun | 9 => 9 | 5 => 5 | 3 => 3 | n => n, fun | n => n⟩
theorem Tryz.lays137 : Go.Proofs.Lays.n137 Tryz.prog Tryz.lays137_ren := {
  mixed := by kernel_rfl
  f137 := Tryz.func106.trans (congrArg some (by kernel_rfl))
  f217 := Tryz.func123.trans (congrArg some (by kernel_rfl))
  f266 := Tryz.func135.trans (congrArg some (by kernel_rfl))
  t3 := Tryz.underlying3
  a3 := Tryz.isAgg3
  z3 := Tryz.sizeOf3
  v3 := Tryz.zeroValue3
  t5 := Tryz.underlying5
  a5 := Tryz.isAgg5
  z5 := Tryz.sizeOf5
  v5 := Tryz.zeroValue5
  t9 := Tryz.underlying9
  a9 := Tryz.isAgg9
  z9 := Tryz.sizeOf9
  v9 := Tryz.zeroValue9 }
open Go.RowKit in
/-- strings.IndexByte: "IndexByte returns the index of the first instance of c in s, or -1 if c is not present in s.": IT RETURNS 'Lib.indexByte s c'; the world is as it was. (LAID: no walk: one application.) -/
theorem Tryz.strings_IndexByte (s : ByteArray) (c : Int) (w : World) :
    Calls Tryz.prog 106 #[.string s, .int .u8 c] w fun e w' => e = .returned (.int .i64 (Lib.indexByte s.data.toList c.toNat.toUInt8)) ∧ w' = w := Any.strings_IndexByte Tryz.lays137 s c w
def Tryz.lays172_ren : Go.Shelf.Ren := ⟨fun | 172 => 125 | 244 => 143 | 245 => 144 | 247 => 162 | 279 => 163 | 280 => 164 | 281 => 165 | 282 => 166 | 287 => 180 | 316 => 181 | 171 => 67 | 205 => 182 | 321 => 188 | 322 => 189 | 243 => 108 | 246 => 126 | 283 => 145 | 284 => 146 | 285 => 147 | 286 => 148 | 129 => 168 | 317 => 167 | 318 => 169 | 319 => 170 | 320 => 171 | 337 => 183 | 338 => 184 | n => n, fun | 9 => 9 | 3 => 3 | 75 => 119 | 76 => 120 | 4 => 4 | 5 => 5 | 167 => 159 | 37 => 45 | 0 => 0 | 85 => 160 | 2 => 2 | 168 => 162 | 53 => 142 | 175 => 177 | 46 => 112 | 210 => 181 | 127 => 152 | 145 => 201 | 143 => 199 | 21 => 21 | 171 => 141 | 173 => 145 | 212 => 166 | 51 => 147 | 20 => 20 | 213 => 167 | 232 => 202 | 233 => 203 | 80 => 67 | n => n, fun | 15 => 4 | 16 => 5 | 17 => 2 | 18 => 8 | 19 => 9 | n => n⟩
theorem Tryz.lays172 : Go.Proofs.Lays.n172 Tryz.prog Tryz.lays172_ren := {
  mixed := by kernel_rfl
  f129 := Tryz.func168.trans (congrArg some (by kernel_rfl))
  f171 := Tryz.func67.trans (congrArg some (by kernel_rfl))
  f172 := Tryz.func125.trans (congrArg some (by kernel_rfl))
  f205 := Tryz.func182.trans (congrArg some (by kernel_rfl))
  f243 := Tryz.func108.trans (congrArg some (by kernel_rfl))
  f244 := Tryz.func143.trans (congrArg some (by kernel_rfl))
  f245 := Tryz.func144.trans (congrArg some (by kernel_rfl))
  f246 := Tryz.func126.trans (congrArg some (by kernel_rfl))
  f247 := Tryz.func162.trans (congrArg some (by kernel_rfl))
  f279 := Tryz.func163.trans (congrArg some (by kernel_rfl))
  f280 := Tryz.func164.trans (congrArg some (by kernel_rfl))
  f281 := Tryz.func165.trans (congrArg some (by kernel_rfl))
  f282 := Tryz.func166.trans (congrArg some (by kernel_rfl))
  f283 := Tryz.func145.trans (congrArg some (by kernel_rfl))
  f284 := Tryz.func146.trans (congrArg some (by kernel_rfl))
  f285 := Tryz.func147.trans (congrArg some (by kernel_rfl))
  f286 := Tryz.func148.trans (congrArg some (by kernel_rfl))
  f287 := Tryz.func180.trans (congrArg some (by kernel_rfl))
  f316 := Tryz.func181.trans (congrArg some (by kernel_rfl))
  f317 := Tryz.func167.trans (congrArg some (by kernel_rfl))
  f318 := Tryz.func169.trans (congrArg some (by kernel_rfl))
  f319 := Tryz.func170.trans (congrArg some (by kernel_rfl))
  f320 := Tryz.func171.trans (congrArg some (by kernel_rfl))
  f321 := Tryz.func188.trans (congrArg some (by kernel_rfl))
  f322 := Tryz.func189.trans (congrArg some (by kernel_rfl))
  f337 := Tryz.func183.trans (congrArg some (by kernel_rfl))
  f338 := Tryz.func184.trans (congrArg some (by kernel_rfl))
  t0 := Tryz.underlying0
  a0 := Tryz.isAgg0
  z0 := Tryz.sizeOf0
  v0 := Tryz.zeroValue0
  t2 := Tryz.underlying2
  a2 := Tryz.isAgg2
  z2 := Tryz.sizeOf2
  v2 := Tryz.zeroValue2
  t3 := Tryz.underlying3
  a3 := Tryz.isAgg3
  z3 := Tryz.sizeOf3
  v3 := Tryz.zeroValue3
  t4 := Tryz.underlying4
  a4 := Tryz.isAgg4
  z4 := Tryz.sizeOf4
  v4 := Tryz.zeroValue4
  t5 := Tryz.underlying5
  a5 := Tryz.isAgg5
  z5 := Tryz.sizeOf5
  v5 := Tryz.zeroValue5
  t9 := Tryz.underlying9
  a9 := Tryz.isAgg9
  z9 := Tryz.sizeOf9
  v9 := Tryz.zeroValue9
  t20 := Tryz.underlying20
  a20 := Tryz.isAgg20
  z20 := Tryz.sizeOf20
  v20 := Tryz.zeroValue20
  t21 := Tryz.underlying21
  a21 := Tryz.isAgg21
  z21 := Tryz.sizeOf21
  v21 := Tryz.zeroValue21
  t37 := Tryz.underlying45
  a37 := Tryz.isAgg45
  z37 := Tryz.sizeOf45
  v37 := Tryz.zeroValue45
  t46 := Tryz.underlying112
  a46 := Tryz.isAgg112
  z46 := Tryz.sizeOf112
  v46 := Tryz.zeroValue112
  t51 := Tryz.underlying147
  a51 := Tryz.isAgg147
  z51 := Tryz.sizeOf147
  v51 := Tryz.zeroValue147
  t53 := Tryz.underlying142
  a53 := Tryz.isAgg142
  z53 := Tryz.sizeOf142
  v53 := Tryz.zeroValue142
  t75 := Tryz.underlying119
  a75 := Tryz.isAgg119
  z75 := Tryz.sizeOf119
  v75 := Tryz.zeroValue119
  t76 := Tryz.underlying120
  a76 := Tryz.isAgg120
  z76 := Tryz.sizeOf120
  v76 := Tryz.zeroValue120
  t85 := Tryz.underlying160
  a85 := Tryz.isAgg160
  z85 := Tryz.sizeOf160
  v85 := Tryz.zeroValue160
  t127 := Tryz.underlying152
  a127 := Tryz.isAgg152
  z127 := Tryz.sizeOf152
  v127 := Tryz.zeroValue152
  t143 := Tryz.underlying199
  a143 := Tryz.isAgg199
  z143 := Tryz.sizeOf199
  v143 := Tryz.zeroValue199
  t145 := Tryz.underlying201
  a145 := Tryz.isAgg201
  z145 := Tryz.sizeOf201
  v145 := Tryz.zeroValue201
  t167 := Tryz.underlying159
  a167 := Tryz.isAgg159
  z167 := Tryz.sizeOf159
  v167 := Tryz.zeroValue159
  t168 := Tryz.underlying162
  a168 := Tryz.isAgg162
  z168 := Tryz.sizeOf162
  v168 := Tryz.zeroValue162
  t171 := Tryz.underlying141
  a171 := Tryz.isAgg141
  z171 := Tryz.sizeOf141
  v171 := Tryz.zeroValue141
  t173 := Tryz.underlying145
  a173 := Tryz.isAgg145
  z173 := Tryz.sizeOf145
  v173 := Tryz.zeroValue145
  t175 := Tryz.underlying177
  a175 := Tryz.isAgg177
  z175 := Tryz.sizeOf177
  v175 := Tryz.zeroValue177
  t210 := Tryz.underlying181
  a210 := Tryz.isAgg181
  z210 := Tryz.sizeOf181
  v210 := Tryz.zeroValue181
  t212 := Tryz.underlying166
  a212 := Tryz.isAgg166
  z212 := Tryz.sizeOf166
  v212 := Tryz.zeroValue166
  t213 := Tryz.underlying167
  a213 := Tryz.isAgg167
  z213 := Tryz.sizeOf167
  t232 := Tryz.underlying202
  a232 := Tryz.isAgg202
  z232 := Tryz.sizeOf202
  v232 := Tryz.zeroValue202
  t233 := Tryz.underlying203
  a233 := Tryz.isAgg203
  z233 := Tryz.sizeOf203
  v233 := Tryz.zeroValue203
  g15 := by kernel_rfl
  g16 := by kernel_rfl
  g17 := by kernel_rfl
  g18 := by kernel_rfl
  g19 := by kernel_rfl }
open Go.RowKit in
/-- strconv.Atoi: "Atoi is equivalent to ParseInt(s, 10, 0), converted to type int.": AT A DECIMAL NUMERAL OF AT MOST 18 BYTES: its value, and a nil error. The world behind the call: the one new row that the library's '[]byte(s)' lays. (LAID: no walk: one application.) -/
theorem Tryz.strconv_Atoi (s : ByteArray) (n : Int) (hl : s.size ≤ 18) (h : Lib.atoi s.data.toList = some n) (w : World) :
    Calls Tryz.prog 125 #[.string s] w fun e w' => e = .returned (.tuple #[.int .i64 n, .nilIface]) ∧ ∃ t, w' = Lib.bytesWorld w 5 t := Any.strconv_Atoi Tryz.lays172 s n hl h w
def Tryz.laysM171_ren : Go.Shelf.Ren := ⟨fun | 171 => 67 | 243 => 108 | 246 => 126 | 283 => 145 | 284 => 146 | 285 => 147 | 286 => 148 | 129 => 168 | 317 => 167 | 318 => 169 | 319 => 170 | 320 => 171 | 337 => 183 | 338 => 184 | n => n, fun | 3 => 3 | 9 => 9 | 2 => 2 | 4 => 4 | 171 => 141 | 0 => 0 | 53 => 142 | 37 => 45 | 5 => 5 | 173 => 145 | 212 => 166 | 51 => 147 | 20 => 20 | 213 => 167 | 46 => 112 | 232 => 202 | 233 => 203 | n => n, fun | 17 => 2 | 18 => 8 | 19 => 9 | n => n⟩
theorem Tryz.laysM171 : Go.Proofs.LaysM.n171 Tryz.prog Tryz.laysM171_ren := {
  mixed := by kernel_rfl
  f129 := Tryz.func168.trans (congrArg some (by kernel_rfl))
  f171 := Tryz.func67.trans (congrArg some (by kernel_rfl))
  f243 := Tryz.func108.trans (congrArg some (by kernel_rfl))
  f246 := Tryz.func126.trans (congrArg some (by kernel_rfl))
  f283 := Tryz.func145.trans (congrArg some (by kernel_rfl))
  f284 := Tryz.func146.trans (congrArg some (by kernel_rfl))
  f285 := Tryz.func147.trans (congrArg some (by kernel_rfl))
  f286 := Tryz.func148.trans (congrArg some (by kernel_rfl))
  f317 := Tryz.func167.trans (congrArg some (by kernel_rfl))
  f318 := Tryz.func169.trans (congrArg some (by kernel_rfl))
  f319 := Tryz.func170.trans (congrArg some (by kernel_rfl))
  f320 := Tryz.func171.trans (congrArg some (by kernel_rfl))
  f337 := Tryz.func183.trans (congrArg some (by kernel_rfl))
  f338 := Tryz.func184.trans (congrArg some (by kernel_rfl))
  t0 := Tryz.underlying0
  a0 := Tryz.isAgg0
  z0 := Tryz.sizeOf0
  v0 := Tryz.zeroValue0
  t2 := Tryz.underlying2
  a2 := Tryz.isAgg2
  z2 := Tryz.sizeOf2
  v2 := Tryz.zeroValue2
  t3 := Tryz.underlying3
  a3 := Tryz.isAgg3
  z3 := Tryz.sizeOf3
  v3 := Tryz.zeroValue3
  t4 := Tryz.underlying4
  a4 := Tryz.isAgg4
  z4 := Tryz.sizeOf4
  v4 := Tryz.zeroValue4
  t5 := Tryz.underlying5
  a5 := Tryz.isAgg5
  z5 := Tryz.sizeOf5
  v5 := Tryz.zeroValue5
  t9 := Tryz.underlying9
  a9 := Tryz.isAgg9
  z9 := Tryz.sizeOf9
  v9 := Tryz.zeroValue9
  t20 := Tryz.underlying20
  a20 := Tryz.isAgg20
  z20 := Tryz.sizeOf20
  v20 := Tryz.zeroValue20
  t37 := Tryz.underlying45
  a37 := Tryz.isAgg45
  z37 := Tryz.sizeOf45
  v37 := Tryz.zeroValue45
  t46 := Tryz.underlying112
  a46 := Tryz.isAgg112
  z46 := Tryz.sizeOf112
  v46 := Tryz.zeroValue112
  t51 := Tryz.underlying147
  a51 := Tryz.isAgg147
  z51 := Tryz.sizeOf147
  v51 := Tryz.zeroValue147
  t53 := Tryz.underlying142
  a53 := Tryz.isAgg142
  z53 := Tryz.sizeOf142
  v53 := Tryz.zeroValue142
  t171 := Tryz.underlying141
  a171 := Tryz.isAgg141
  z171 := Tryz.sizeOf141
  v171 := Tryz.zeroValue141
  t173 := Tryz.underlying145
  a173 := Tryz.isAgg145
  z173 := Tryz.sizeOf145
  v173 := Tryz.zeroValue145
  t212 := Tryz.underlying166
  a212 := Tryz.isAgg166
  z212 := Tryz.sizeOf166
  v212 := Tryz.zeroValue166
  t213 := Tryz.underlying167
  a213 := Tryz.isAgg167
  z213 := Tryz.sizeOf167
  t232 := Tryz.underlying202
  a232 := Tryz.isAgg202
  z232 := Tryz.sizeOf202
  v232 := Tryz.zeroValue202
  t233 := Tryz.underlying203
  a233 := Tryz.isAgg203
  z233 := Tryz.sizeOf203
  v233 := Tryz.zeroValue203
  g17 := by kernel_rfl
  g18 := by kernel_rfl
  g19 := by kernel_rfl
  i0 := by kernel_rfl
  i2 := by kernel_rfl
  i3 := by kernel_rfl
  i4 := by kernel_rfl
  i5 := by kernel_rfl
  i9 := by kernel_rfl
  i20 := by kernel_rfl
  i37 := by kernel_rfl
  i46 := by kernel_rfl
  i51 := by kernel_rfl
  i53 := by kernel_rfl
  i171 := by kernel_rfl
  i173 := by kernel_rfl
  i212 := by kernel_rfl
  i232 := by kernel_rfl
  i233 := by kernel_rfl
  m17 := by kernel_rfl
  m18 := by kernel_rfl
  m19 := by kernel_rfl }
open Go.RowKit Go.Sort Go.Lib in
/-- strconv.Itoa: "Itoa is equivalent to FormatInt(int64(i), 10).": i's DECIMAL NUMERAL ('Lib.itoa': a '-' where i is negative, then the digits), FOR EVERY int. The world behind the call: the world before it, new blocks behind the heap (the library's 'var a [24]byte'), draws. (LAID: no walk: one application.) -/
theorem Tryz.strconv_Itoa (n : Int) (h0 : -9223372036854775808 ≤ n) (h1 : n ≤ 9223372036854775807) (w : World) (htab : Lib.TabIs Tryz.prog w "internal/strconv.uint64pow10" .u64 Lib.pow10Tab) :
    Calls Tryz.prog 67 #[.int .i64 n] w fun e w' => e = .returned (.string ⟨(Lib.itoa n).toArray⟩) ∧ ∃ k os, w' = grow (w.drewN k) os := Any.strconv_Itoa Tryz.laysM171 n h0 h1 w htab
def Tryz.lays146_ren : Go.Shelf.Ren := ⟨fun | 146 => 120 | 221 => 134 | 268 => 156 | 138 => 157 | 143 => 158 | 195 => 175 | 197 => 160 | 218 => 176 | 219 => 177 | 260 => 178 | 217 => 123 | 225 => 117 | 224 => 116 | 267 => 187 | 266 => 135 | 314 => 190 | n => n, fun | 9 => 9 | 31 => 97 | 3 => 3 | 4 => 4 | 0 => 0 | 105 => 157 | 21 => 21 | 5 => 5 | 46 => 112 | 119 => 153 | 139 => 197 | 138 => 196 | 146 => 148 | 51 => 147 | n => n, fun | 1 => 0 | 3 => 6 | 4 => 7 | n => n⟩
theorem Tryz.lays146 : Go.Proofs.Lays.n146 Tryz.prog Tryz.lays146_ren := {
  mixed := by kernel_rfl
  f138 := Tryz.func157.trans (congrArg some (by kernel_rfl))
  f143 := Tryz.func158.trans (congrArg some (by kernel_rfl))
  f146 := Tryz.func120.trans (congrArg some (by kernel_rfl))
  f195 := Tryz.func175.trans (congrArg some (by kernel_rfl))
  f197 := Tryz.func160.trans (congrArg some (by kernel_rfl))
  f217 := Tryz.func123.trans (congrArg some (by kernel_rfl))
  f218 := Tryz.func176.trans (congrArg some (by kernel_rfl))
  f219 := Tryz.func177.trans (congrArg some (by kernel_rfl))
  f221 := Tryz.func134.trans (congrArg some (by kernel_rfl))
  f224 := Tryz.func116.trans (congrArg some (by kernel_rfl))
  f225 := Tryz.func117.trans (congrArg some (by kernel_rfl))
  f260 := Tryz.func178.trans (congrArg some (by kernel_rfl))
  f266 := Tryz.func135.trans (congrArg some (by kernel_rfl))
  f267 := Tryz.func187.trans (congrArg some (by kernel_rfl))
  f268 := Tryz.func156.trans (congrArg some (by kernel_rfl))
  f314 := Tryz.func190.trans (congrArg some (by kernel_rfl))
  t0 := Tryz.underlying0
  a0 := Tryz.isAgg0
  z0 := Tryz.sizeOf0
  v0 := Tryz.zeroValue0
  t3 := Tryz.underlying3
  a3 := Tryz.isAgg3
  z3 := Tryz.sizeOf3
  v3 := Tryz.zeroValue3
  t4 := Tryz.underlying4
  a4 := Tryz.isAgg4
  z4 := Tryz.sizeOf4
  v4 := Tryz.zeroValue4
  t5 := Tryz.underlying5
  a5 := Tryz.isAgg5
  z5 := Tryz.sizeOf5
  v5 := Tryz.zeroValue5
  t9 := Tryz.underlying9
  a9 := Tryz.isAgg9
  z9 := Tryz.sizeOf9
  v9 := Tryz.zeroValue9
  t21 := Tryz.underlying21
  a21 := Tryz.isAgg21
  z21 := Tryz.sizeOf21
  v21 := Tryz.zeroValue21
  t31 := Tryz.underlying97
  a31 := Tryz.isAgg97
  z31 := Tryz.sizeOf97
  v31 := Tryz.zeroValue97
  t46 := Tryz.underlying112
  a46 := Tryz.isAgg112
  z46 := Tryz.sizeOf112
  v46 := Tryz.zeroValue112
  t51 := Tryz.underlying147
  a51 := Tryz.isAgg147
  z51 := Tryz.sizeOf147
  v51 := Tryz.zeroValue147
  t105 := Tryz.underlying157
  a105 := Tryz.isAgg157
  z105 := Tryz.sizeOf157
  v105 := Tryz.zeroValue157
  t119 := Tryz.underlying153
  a119 := Tryz.isAgg153
  z119 := Tryz.sizeOf153
  t138 := Tryz.underlying196
  a138 := Tryz.isAgg196
  z138 := Tryz.sizeOf196
  v138 := Tryz.zeroValue196
  t139 := Tryz.underlying197
  a139 := Tryz.isAgg197
  z139 := Tryz.sizeOf197
  v139 := Tryz.zeroValue197
  t146 := Tryz.underlying148
  a146 := Tryz.isAgg148
  z146 := Tryz.sizeOf148
  v146 := Tryz.zeroValue148
  g1 := by kernel_rfl
  g3 := by kernel_rfl
  g4 := by kernel_rfl }
open Go.RowKit Go.Lib in
/-- strings.Split. (LAID: no walk: one application.) -/
theorem Tryz.strings_Split (s sep : ByteArray) (m : Int) (w : World) (hs : s.size < 4294967281) (hm : w.cell? ⟨0, 0, none⟩ = some (.int .i64 m)) (h1 : 1 ≤ sep.size) :
    Calls Tryz.prog 120 #[.string s, .string sep] w fun e w' =>
      e = .returned (.slice (some ⟨w.heap.size, 0, none⟩) (Lib.countB s sep + 1) (Lib.countB s sep + 1)) ∧ w' = w.alloc (.cells ((Lib.splitB sep 0 (Lib.countB s sep) s).map Value.string).toArray 9) := Any.strings_Split Tryz.lays146 (by kernel_rfl) s sep m w hs hm h1
def Tryz.lays157_ren : Go.Shelf.Ren := ⟨fun | 157 => 133 | 229 => 154 | 199 => 155 | 261 => 174 | 311 => 185 | 312 => 186 | n => n, fun | 9 => 9 | 31 => 97 | 3 => 3 | 5 => 5 | 4 => 4 | 119 => 153 | 0 => 0 | 40 => 111 | 152 => 172 | 21 => 21 | 154 => 174 | 51 => 147 | 141 => 176 | 196 => 187 | 193 => 184 | 198 => 190 | 49 => 188 | 194 => 185 | 201 => 193 | 226 => 204 | 46 => 112 | 227 => 205 | n => n, fun | 0 => 1 | 6 => 3 | n => n⟩
theorem Tryz.lays157 : Go.Proofs.Lays.n157 Tryz.prog Tryz.lays157_ren := {
  mixed := by kernel_rfl
  f157 := Tryz.func133.trans (congrArg some (by kernel_rfl))
  f199 := Tryz.func155.trans (congrArg some (by kernel_rfl))
  f229 := Tryz.func154.trans (congrArg some (by kernel_rfl))
  f261 := Tryz.func174.trans (congrArg some (by kernel_rfl))
  f311 := Tryz.func185.trans (congrArg some (by kernel_rfl))
  f312 := Tryz.func186.trans (congrArg some (by kernel_rfl))
  t0 := Tryz.underlying0
  a0 := Tryz.isAgg0
  z0 := Tryz.sizeOf0
  v0 := Tryz.zeroValue0
  t3 := Tryz.underlying3
  a3 := Tryz.isAgg3
  z3 := Tryz.sizeOf3
  v3 := Tryz.zeroValue3
  t4 := Tryz.underlying4
  a4 := Tryz.isAgg4
  z4 := Tryz.sizeOf4
  v4 := Tryz.zeroValue4
  t5 := Tryz.underlying5
  a5 := Tryz.isAgg5
  z5 := Tryz.sizeOf5
  v5 := Tryz.zeroValue5
  t9 := Tryz.underlying9
  a9 := Tryz.isAgg9
  z9 := Tryz.sizeOf9
  v9 := Tryz.zeroValue9
  t21 := Tryz.underlying21
  a21 := Tryz.isAgg21
  z21 := Tryz.sizeOf21
  v21 := Tryz.zeroValue21
  t31 := Tryz.underlying97
  a31 := Tryz.isAgg97
  z31 := Tryz.sizeOf97
  v31 := Tryz.zeroValue97
  t40 := Tryz.underlying111
  a40 := Tryz.isAgg111
  z40 := Tryz.sizeOf111
  v40 := Tryz.zeroValue111
  t46 := Tryz.underlying112
  a46 := Tryz.isAgg112
  z46 := Tryz.sizeOf112
  v46 := Tryz.zeroValue112
  t49 := Tryz.underlying188
  a49 := Tryz.isAgg188
  z49 := Tryz.sizeOf188
  v49 := Tryz.zeroValue188
  t51 := Tryz.underlying147
  a51 := Tryz.isAgg147
  z51 := Tryz.sizeOf147
  v51 := Tryz.zeroValue147
  t119 := Tryz.underlying153
  a119 := Tryz.isAgg153
  z119 := Tryz.sizeOf153
  t141 := Tryz.underlying176
  a141 := Tryz.isAgg176
  z141 := Tryz.sizeOf176
  v141 := Tryz.zeroValue176
  t152 := Tryz.underlying172
  a152 := Tryz.isAgg172
  z152 := Tryz.sizeOf172
  v152 := Tryz.zeroValue172
  t154 := Tryz.underlying174
  a154 := Tryz.isAgg174
  z154 := Tryz.sizeOf174
  v154 := Tryz.zeroValue174
  t193 := Tryz.underlying184
  a193 := Tryz.isAgg184
  z193 := Tryz.sizeOf184
  v193 := Tryz.zeroValue184
  t194 := Tryz.underlying185
  a194 := Tryz.isAgg185
  z194 := Tryz.sizeOf185
  v194 := Tryz.zeroValue185
  t196 := Tryz.underlying187
  a196 := Tryz.isAgg187
  z196 := Tryz.sizeOf187
  v196 := Tryz.zeroValue187
  t198 := Tryz.underlying190
  a198 := Tryz.isAgg190
  z198 := Tryz.sizeOf190
  v198 := Tryz.zeroValue190
  t201 := Tryz.underlying193
  a201 := Tryz.isAgg193
  z201 := Tryz.sizeOf193
  v201 := Tryz.zeroValue193
  t226 := Tryz.underlying204
  a226 := Tryz.isAgg204
  z226 := Tryz.sizeOf204
  v226 := Tryz.zeroValue204
  t227 := Tryz.underlying205
  a227 := Tryz.isAgg205
  z227 := Tryz.sizeOf205
  v227 := Tryz.zeroValue205
  g0 := by kernel_rfl
  g6 := by kernel_rfl }
open Go.RowKit Go.Lib in
/-- strings.Fields, the table by 'Lib.TabIs' (as strings.TrimSpace's contract). 'hg': the table's number, by its name: at a dump 'by kernel_rfl'. (LAID: no walk: one application.) -/
theorem Tryz.strings_Fields (s : ByteArray) (w : World) (hs : s.size < 4294967281) (hascii : ∀ (j : Nat) b, s.data.toList[j]? = some b → b.toNat < 128) (htab : Lib.TabIs Tryz.prog w "strings.asciiSpace" .u8 Lib.asciiSpaceTab) :
    Calls Tryz.prog 133 #[.string s] w fun e w' =>
      e = .returned (.slice (some ⟨w.heap.size, 0, none⟩) (Lib.fields s.data.toList).length (Lib.fields s.data.toList).length) ∧ w' = w.alloc (.cells ((Lib.fields s.data.toList).map fun l => Value.string ⟨l.toArray⟩).toArray 9) := Any.strings_Fields Tryz.lays157 (by kernel_rfl) (by kernel_rfl) s w hs hascii htab
def Tryz.lays151_ren : Go.Shelf.Ren := ⟨fun | 151 => 52 | 152 => 92 | 137 => 106 | 119 => 115 | 224 => 116 | 225 => 117 | 217 => 123 | 266 => 135 | n => n, fun | 9 => 9 | 21 => 21 | 4 => 4 | 3 => 3 | 5 => 5 | 0 => 0 | 46 => 112 | n => n, fun | n => n⟩
theorem Tryz.lays151 : Go.Proofs.Lays.n151 Tryz.prog Tryz.lays151_ren := {
  mixed := by kernel_rfl
  f119 := Tryz.func115.trans (congrArg some (by kernel_rfl))
  f137 := Tryz.func106.trans (congrArg some (by kernel_rfl))
  f151 := Tryz.func52.trans (congrArg some (by kernel_rfl))
  f152 := Tryz.func92.trans (congrArg some (by kernel_rfl))
  f217 := Tryz.func123.trans (congrArg some (by kernel_rfl))
  f224 := Tryz.func116.trans (congrArg some (by kernel_rfl))
  f225 := Tryz.func117.trans (congrArg some (by kernel_rfl))
  f266 := Tryz.func135.trans (congrArg some (by kernel_rfl))
  t0 := Tryz.underlying0
  a0 := Tryz.isAgg0
  z0 := Tryz.sizeOf0
  v0 := Tryz.zeroValue0
  t3 := Tryz.underlying3
  a3 := Tryz.isAgg3
  z3 := Tryz.sizeOf3
  v3 := Tryz.zeroValue3
  t4 := Tryz.underlying4
  a4 := Tryz.isAgg4
  z4 := Tryz.sizeOf4
  v4 := Tryz.zeroValue4
  t5 := Tryz.underlying5
  a5 := Tryz.isAgg5
  z5 := Tryz.sizeOf5
  v5 := Tryz.zeroValue5
  t9 := Tryz.underlying9
  a9 := Tryz.isAgg9
  z9 := Tryz.sizeOf9
  v9 := Tryz.zeroValue9
  t21 := Tryz.underlying21
  a21 := Tryz.isAgg21
  z21 := Tryz.sizeOf21
  v21 := Tryz.zeroValue21
  t46 := Tryz.underlying112
  a46 := Tryz.isAgg112
  z46 := Tryz.sizeOf112
  v46 := Tryz.zeroValue112 }
open Go.RowKit Go.Lib in
theorem Tryz.strings_ContainsRune_ascii (s : ByteArray) (r : Int) (w : World) (h0 : 0 ≤ r) (h1 : r < 128) :
    Calls Tryz.prog 52 #[.string s, .int .i32 r] w fun e w' => e = .returned (.bool (decide (0 ≤ Lib.indexByte s.data.toList r.toNat.toUInt8))) ∧ w' = w := Any.strings_ContainsRune_ascii Tryz.lays151 s r w h0 h1
def Tryz.lays105_ren : Go.Shelf.Ren := ⟨fun | 105 => 109 | 212 => 127 | 99 => 128 | 165 => 129 | 166 => 130 | 170 => 131 | 169 => 132 | 263 => 149 | 264 => 150 | 206 => 151 | 240 => 152 | 241 => 153 | 276 => 172 | 277 => 173 | n => n, fun | 9 => 9 | 3 => 3 | 4 => 4 | 20 => 20 | 0 => 0 | 46 => 112 | 109 => 123 | 5 => 5 | 72 => 128 | 76 => 120 | 51 => 147 | 146 => 148 | 53 => 142 | 148 => 150 | 70 => 126 | 37 => 45 | 75 => 119 | 127 => 152 | 164 => 169 | 80 => 67 | n => n, fun | n => n⟩
theorem Tryz.lays105 : Go.Proofs.Lays.n105 Tryz.prog Tryz.lays105_ren := {
  mixed := by kernel_rfl
  f99 := Tryz.func128.trans (congrArg some (by kernel_rfl))
  f105 := Tryz.func109.trans (congrArg some (by kernel_rfl))
  f165 := Tryz.func129.trans (congrArg some (by kernel_rfl))
  f166 := Tryz.func130.trans (congrArg some (by kernel_rfl))
  f169 := Tryz.func132.trans (congrArg some (by kernel_rfl))
  f170 := Tryz.func131.trans (congrArg some (by kernel_rfl))
  f206 := Tryz.func151.trans (congrArg some (by kernel_rfl))
  f212 := Tryz.func127.trans (congrArg some (by kernel_rfl))
  f240 := Tryz.func152.trans (congrArg some (by kernel_rfl))
  f241 := Tryz.func153.trans (congrArg some (by kernel_rfl))
  f263 := Tryz.func149.trans (congrArg some (by kernel_rfl))
  f264 := Tryz.func150.trans (congrArg some (by kernel_rfl))
  f276 := Tryz.func172.trans (congrArg some (by kernel_rfl))
  f277 := Tryz.func173.trans (congrArg some (by kernel_rfl))
  t0 := Tryz.underlying0
  a0 := Tryz.isAgg0
  z0 := Tryz.sizeOf0
  v0 := Tryz.zeroValue0
  t3 := Tryz.underlying3
  a3 := Tryz.isAgg3
  z3 := Tryz.sizeOf3
  v3 := Tryz.zeroValue3
  t4 := Tryz.underlying4
  a4 := Tryz.isAgg4
  z4 := Tryz.sizeOf4
  v4 := Tryz.zeroValue4
  t5 := Tryz.underlying5
  a5 := Tryz.isAgg5
  z5 := Tryz.sizeOf5
  v5 := Tryz.zeroValue5
  t9 := Tryz.underlying9
  a9 := Tryz.isAgg9
  z9 := Tryz.sizeOf9
  v9 := Tryz.zeroValue9
  t20 := Tryz.underlying20
  a20 := Tryz.isAgg20
  z20 := Tryz.sizeOf20
  v20 := Tryz.zeroValue20
  t37 := Tryz.underlying45
  a37 := Tryz.isAgg45
  z37 := Tryz.sizeOf45
  v37 := Tryz.zeroValue45
  t46 := Tryz.underlying112
  a46 := Tryz.isAgg112
  z46 := Tryz.sizeOf112
  v46 := Tryz.zeroValue112
  t51 := Tryz.underlying147
  a51 := Tryz.isAgg147
  z51 := Tryz.sizeOf147
  v51 := Tryz.zeroValue147
  t53 := Tryz.underlying142
  a53 := Tryz.isAgg142
  z53 := Tryz.sizeOf142
  v53 := Tryz.zeroValue142
  t70 := Tryz.underlying126
  a70 := Tryz.isAgg126
  z70 := Tryz.sizeOf126
  v70 := Tryz.zeroValue126
  t72 := Tryz.underlying128
  a72 := Tryz.isAgg128
  z72 := Tryz.sizeOf128
  v72 := Tryz.zeroValue128
  t75 := Tryz.underlying119
  a75 := Tryz.isAgg119
  z75 := Tryz.sizeOf119
  v75 := Tryz.zeroValue119
  t76 := Tryz.underlying120
  a76 := Tryz.isAgg120
  z76 := Tryz.sizeOf120
  v76 := Tryz.zeroValue120
  t109 := Tryz.underlying123
  a109 := Tryz.isAgg123
  z109 := Tryz.sizeOf123
  v109 := Tryz.zeroValue123
  t127 := Tryz.underlying152
  a127 := Tryz.isAgg152
  z127 := Tryz.sizeOf152
  v127 := Tryz.zeroValue152
  t146 := Tryz.underlying148
  a146 := Tryz.isAgg148
  z146 := Tryz.sizeOf148
  v146 := Tryz.zeroValue148
  t148 := Tryz.underlying150
  a148 := Tryz.isAgg150
  z148 := Tryz.sizeOf150
  v148 := Tryz.zeroValue150
  t164 := Tryz.underlying169
  a164 := Tryz.isAgg169
  z164 := Tryz.sizeOf169
  v164 := Tryz.zeroValue169 }
theorem Tryz.Builder_Extra_105 : Builder.Extra Tryz.prog Tryz.lays105_ren := {
  sizeBuilder := by kernel_rfl
  liesBuilder := by kernel_rfl
  t5 := Tryz.underlying5
  a5 := Tryz.isAgg5
  z5 := Tryz.sizeOf5
  v5 := Tryz.zeroValue5
  infoByte := by kernel_rfl
  cellsByte := by kernel_rfl
  sizeByte := by kernel_rfl
  neB5 := by decide }
open Go.RowKit Go.Lib in
theorem Tryz.strings_Repeat_zero (s : ByteArray) (w : World) :
    Calls Tryz.prog 109 #[.string s, .int .i64 0] w fun e w' => e = .returned (.string ⟨#[]⟩) ∧ w' = w := Any.strings_Repeat_zero Tryz.lays105 s w
open Go.RowKit Go.Lib in
/-- **strings.Repeat: count ≥ 0, the result within one allocation: count copies of s.** (LAID: no walk: one application.) -/
theorem Tryz.strings_Repeat (s : ByteArray) (c : Nat) (w : World) (hc : c ≤ 9223372036854775807) (hlen : s.size * c ≤ 140737488355328) :
    Calls Tryz.prog 109 #[.string s, .int .i64 c] w fun e w' => e = .returned (.string ⟨(Lib.repeatL s.data.toList c).toArray⟩) ∧ Below w.heap.size w w' := Any.strings_Repeat Tryz.lays105 Tryz.Builder_Extra_105 s c w hc hlen
end Go.Proofs

namespace Go.Proofs.YteobeikcakoaaaaGreatDoor.Given
open Go.RowKit Go.Shelf
attribute [local go_sem] Oper.semAt_some

theorem Bel.alloc {a w : World} (h : Below a.heap.size a w) (o : Obj) : Below a.heap.size a (w.alloc o) := h.alloc h.size o
theorem Bel.call {a w w' : World} (h : Below a.heap.size a w) (k : Below w.heap.size w w') : Below a.heap.size a w' := h.trans (k.mono h.size)

def leapB (y : Int) : Bool := (Int.tmod y 4 == 0) && ((Int.tmod y 100 != 0) || (Int.tmod y 400 == 0))
def lenV (y : Int) : Array Value := #[.int .i64 31, .int .i64 (if leapB y = true then 29 else 28), .int .i64 31, .int .i64 30, .int .i64 31, .int .i64 30, .int .i64 31, .int .i64 31, .int .i64 30, .int .i64 31, .int .i64 30, .int .i64 31]

theorem leap_any (y : Int) (w : World) : Calls Tryz.prog 72 #[.int .i64 y] w fun e w' => e = .returned (.bool (leapB y)) ∧ w = w' := by
  by_cases h4 : Int.tmod y 4 = 0
  · by_cases h100 : Int.tmod y 100 = 0
    · have e4 : (Int.tmod y 4 == 0) = true := by simpa using h4
      have e100 : (Int.tmod y 100 != 0) = false := by simpa using h100
      go_enter Tryz.func72, Tryz.ntmps72
      go_wp2
      go_ret
      exact ⟨by simp [leapB, h4, h100], rfl⟩
    · have e4 : (Int.tmod y 4 == 0) = true := by simpa using h4
      have e100 : (Int.tmod y 100 != 0) = true := by simpa using h100
      go_enter Tryz.func72, Tryz.ntmps72
      go_wp2
      go_ret
      exact ⟨by simp [leapB, h4, h100], rfl⟩
  · have e4 : (Int.tmod y 4 == 0) = false := by simpa using h4
    go_enter Tryz.func72, Tryz.ntmps72
    go_wp2
    go_ret
    exact ⟨by simp [leapB, h4], rfl⟩

theorem lengths_any (y : Int) (w : World) : Calls Tryz.prog 71 #[.int .i64 y] w fun e w' => e = .returned (.agg (lenV y)) ∧ Below w.heap.size w w' := by
  have hl := leap_any y
  have hu := Tryz.underlying91
  by_cases hy : leapB y = true
  · go_enter Tryz.func71, Tryz.ntmps71
    go_wp2_with (go_at_call 72; refine (hl _).mono ?_; rintro e w' ⟨rfl, rfl⟩)
    exact bodyPost_ret (v := .agg (lenV y)) (by simp [results, Tryz.results71, go_sem, hy, lenV]) rfl ⟨rfl, Bel.alloc (Bel.alloc (Below.refl _ _) _) _⟩
  · have hy : leapB y = false := by simpa using hy
    go_enter Tryz.func71, Tryz.ntmps71
    go_wp2_with (go_at_call 72; refine (hl _).mono ?_; rintro e w' ⟨rfl, rfl⟩)
    exact bodyPost_ret (v := .agg (lenV y)) (by simp [results, Tryz.results71, go_sem, hy, lenV]) rfl ⟨rfl, Bel.alloc (Bel.alloc (Below.refl _ _) _) _⟩

/-- How long month k + 1 is; the days before it. -/
def lenN (y : Int) (k : Nat) : Int := [31, (if leapB y = true then 29 else 28), 31, 30, 31, 30, 31, 31, 30, 31, 30, 31].getD k 0
def cum (y : Int) : Nat → Int
  | 0 => 0
  | k + 1 => cum y k + lenN y k
def monthsL (y : Int) (k : Nat) : List (Int × Int) := (List.range k).map fun j : Nat => ((j : Int) + 1, cum y j)
theorem monthsL_succ (y : Int) (k : Nat) : monthsL y (k + 1) = monthsL y k ++ [((k : Int) + 1, cum y k)] := by simp [monthsL, List.range_succ]
theorem monthsL_length (y : Int) (k : Nat) : (monthsL y k).length = k := by simp [monthsL]
theorem lenN_bd (y : Int) (k : Nat) : 0 ≤ lenN y k ∧ lenN y k ≤ 31 := by
  unfold lenN
  rcases k with _ | _ | _ | _ | _ | _ | _ | _ | _ | _ | _ | _ | k <;> simp <;> (try split) <;> omega
theorem cum_bd (y : Int) : ∀ k : Nat, 0 ≤ cum y k ∧ cum y k ≤ 31 * k
  | 0 => by simp [cum]
  | k + 1 => by have := cum_bd y k; have := lenN_bd y k; simp only [cum]; omega
theorem index_len (y : Int) (k : Nat) (hk : k < 12) (w : World) : (Instr.index 91 (.agg (lenV y)) (.int .i64 k)).run Tryz.prog w = .ok (.int .i64 (lenN y k)) w := by
  rcases k with _ | _ | _ | _ | _ | _ | _ | _ | _ | _ | _ | _ | k
  all_goals first
    | omega
    | kernel_rfl

set_option maxRecDepth 100000 in
set_option maxHeartbeats 2000000 in
theorem months1_stops (y : Int) (Bn n₀ : Nat) (w : World) (hBn0 : Bn < w.heap.size) (hBn : w.cell? ⟨Bn, 0, none⟩ = some (.int .i64 y)) :
    SeqStopsK Fence.wide 3 Tryz.prog 110 #[.pointer (some ⟨Bn, 0, none⟩)] (fun p : Int × Int => #[.int .i64 p.1, .int .i64 p.2]) (Below n₀) (fun xs => xs = monthsL y 12) (fun pre => ∃ k : Nat, k ≤ 12 ∧ pre = monthsL y k) 12 w := fun l J Jx W hW hJ hJx hY h0 => by
  have hcell : W.cell? ⟨Bn, 0, none⟩ = some (.int .i64 y) := (hW.cell (p := ⟨Bn, 0, none⟩) hBn0).trans hBn
  have hlen := lengths_any y
  refine callsIn_of_wp Tryz.func110 rfl trivial ?_ rfl
  simp only [Tryz.ntmps110, List.size_toArray, List.length_cons, List.length_nil, Nat.reduceAdd, Nat.reduceSub, Array.replicate_succ, Array.replicate_zero, List.push_toArray, List.append_toArray, List.nil_append, List.cons_append]
  gi_wp2_with (refine ⟨trivial, ?_⟩; gi_at_call 71; refine (callsIn_wide.2 (hlen _)).mono ?_; rintro e w1 ⟨rfl, hb1⟩)
  have hcb := cum_bd y
  have hlb := lenN_bd y
  gi_loopw [3, 8] (fun c i wr => ∃ k : Nat, k ≤ 12 ∧ i = .int .i64 k ∧ c = .int .i64 (cum y k) ∧ J (monthsL y k) wr) (fun _ i _ => 12 - (intOf i).toNat)
  case atStart => exact ⟨0, by omega, rfl, rfl, hJ _ _ _ none h0 ⟨hb1.os, hb1.tape, hb1.output, hb1.size, fun i hi _ => hb1.block i hi⟩ (fun r e => by cases e)⟩
  case round =>
    obtain ⟨k, hk, rfl, rfl, hJs⟩ := hrel
    have hk1 := hcb k
    have hk2 := hlb k
    by_cases hlt : k < 12
    · obtain ⟨fn, tmps, assign, body, hy, hR⟩ := hY _ ((k : Int) + 1, cum y k) wr hJs (by rw [monthsL_length]; exact hlt)
      dsimp only at hy
      have hix := index_len y k hlt
      gi_wp2
      refine hR.mono ?_
      rintro e W3 (⟨rfl, hJ3, _⟩ | ⟨rfl, hJx3⟩)
      · gi_wp2
        go_roundw
        case rel => exact ⟨k + 1, by omega, by simp, by simp [cum], by rw [monthsL_succ]; exact hJ3⟩
        case measure => simp [intOf]; omega
      · gi_wp2
        refine bodyPost_ret (results_none rfl _ _ _) rfl ?_
        exact ⟨⟨_, rfl⟩, .inr ⟨_, ⟨k + 1, by omega, (monthsL_succ _ _).symm⟩, hJx3⟩⟩
    · obtain rfl : k = 12 := by omega
      gi_wp2
      go_end0
      exact ⟨⟨_, rfl⟩, .inl ⟨_, rfl, hJs⟩⟩
end Go.Proofs.YteobeikcakoaaaaGreatDoor.Given

namespace Go.Proofs.YteobeikcakoaaaaGreatDoor.Given
open Go.RowKit Go.Shelf
attribute [local go_sem] Oper.semAt_some

def bef (y : Int) : Int := 365 * (y - 1) + (y - 1) / 4 - (y - 1) / 100 + (y - 1) / 400
theorem before_any (y : Int) (w : World) (h1 : 1 ≤ y) (h2 : y ≤ 100000) : Calls Tryz.prog 79 #[.int .i64 y] w fun e w' => e = .returned (.int .i64 (bef y)) ∧ w = w' := by
  go_enter Tryz.func79, Tryz.ntmps79
  go_wp2
  go_ret
  exact ⟨by unfold bef; rfl, rfl⟩

theorem bef_bd (y : Int) (h1 : 1 ≤ y) (h2 : y ≤ 100000) : 0 ≤ bef y ∧ bef y ≤ 40000000 := by unfold bef; omega
def accW (b m : Int) (pre : List (Int × Int)) : Int := pre.foldl (fun s p => if p.1 = m then wrap64 (s + p.2) else s) b
theorem accW_hit {b m : Int} {pre : List (Int × Int)} {x : Int × Int} (h : x.1 = m) : accW b m (pre ++ [x]) = wrap64 (accW b m pre + x.2) := by simp [accW, h]
theorem accW_miss {b m : Int} {pre : List (Int × Int)} {x : Int × Int} (h : ¬ x.1 = m) : accW b m (pre ++ [x]) = accW b m pre := by simp [accW, h]
theorem accW_pre (b m y : Int) (j : Nat) (hm : (j : Int) + 1 = m) : ∀ k : Nat, accW b m (monthsL y k) = if k ≤ j then b else wrap64 (b + cum y j)
  | 0 => by simp [monthsL, accW]
  | k + 1 => by
    rw [monthsL_succ]
    have ih := accW_pre b m y j hm k
    by_cases h : (k : Int) + 1 = m
    · obtain rfl : k = j := by omega
      rw [accW_hit h, ih, if_pos (Nat.le_refl _), if_neg (by omega)]
    · rw [accW_miss h, ih]
      by_cases h2 : k ≤ j
      · rw [if_pos h2, if_pos (by omega)]
      · rw [if_neg h2, if_neg (by omega)]

theorem accW_all (b m y : Int) (hm1 : 1 ≤ m) (hm2 : m ≤ 12) (hb : -1000 ≤ b ∧ b ≤ 50000000) : accW b m (monthsL y 12) = b + cum y (m.toNat - 1) := by
  rw [accW_pre b m y (m.toNat - 1) (by omega) 12, if_neg (by omega)]
  have := cum_bd y (m.toNat - 1)
  unfold wrap64
  omega

theorem months_any (y : Int) (w : World) : Calls Tryz.prog 80 #[.int .i64 y] w fun e w' => e = .returned (.func (.func 110) #[] #[.pointer (some ⟨w.heap.size, 0, none⟩)]) ∧ w.alloc (.cells #[.int .i64 y] 3) = w' := by
  go_enter Tryz.func80, Tryz.ntmps80
  go_wp2
  go_ret
  exact ⟨rfl, rfl⟩

/-- The days before month m + 1. -/
def num (y m d : Int) : Int := bef y + d - 1 + cum y (m.toNat - 1)

set_option maxRecDepth 100000 in
set_option maxHeartbeats 2000000 in
theorem number_any (y m d : Int) (w : World) (hy1 : 1 ≤ y) (hy2 : y ≤ 100000) (hm1 : 1 ≤ m) (hm2 : m ≤ 12) (hd1 : 0 ≤ d) (hd2 : d ≤ 1000) :
    Calls Tryz.prog 70 #[.agg #[.int .i64 y, .int .i64 m, .int .i64 d]] w fun e w' => e = .returned (.int .i64 (num y m d)) ∧ Below w.heap.size w w' := by
  have hu := Tryz.underlying71
  have hb1 := bef_bd y hy1 hy2
  have hu3 := Tryz.underlying3
  have hbf := fun W => before_any y W hy1 hy2
  refine (callsIn_wide (n := 6)).1 ?_
  refine callsIn_of_wp_marks Tryz.func70 rfl trivial ?_ rfl
  simp only [Tryz.ntmps70, List.size_toArray, List.length_cons, List.length_nil, Nat.reduceAdd, Nat.reduceSub, Array.replicate_succ, Array.replicate_zero, List.push_toArray, List.append_toArray, List.nil_append, List.cons_append]
  refine wpIn_wide.2 ?_
  go_wp2_with (fail)
  refine wp_region_noPanic ?_
  go_region_held3 (fun w' => w'.cell? ⟨w.heap.size, 0, none⟩ = some (.int .i64 y) ∧ w'.cell? ⟨w.heap.size, 2, none⟩ = some (.int .i64 d)) (go_keep) ((go_at_call 79; refine (hbf _).mono ?_; rintro e w' ⟨rfl, rfl⟩))
  all_goals refine NoPanic.normal ?_
  all_goals go_wp2_with (go_at_call 80; refine (months_any _ _).mono ?_; rintro e w' ⟨rfl, rfl⟩)
  all_goals
    clear hbf
    have hB0 : Below w.heap.size w (((w.alloc (.cells #[.int .i64 y, .int .i64 m, .int .i64 d] 71)).alloc (.cells #[.int .i64 (bef y + d - 1)] 3)).alloc (.cells #[.int .i64 y] 3)).drew := (Bel.alloc (Bel.alloc (Bel.alloc (Below.refl _ _) _) _) _).drew
    have hsz : (((w.alloc (.cells #[.int .i64 y, .int .i64 m, .int .i64 d] 71)).alloc (.cells #[.int .i64 (bef y + d - 1)] 3)).alloc (.cells #[.int .i64 y] 3)).drew.heap.size = w.heap.size + 3 := by simp
    have hc0 : (((w.alloc (.cells #[.int .i64 y, .int .i64 m, .int .i64 d] 71)).alloc (.cells #[.int .i64 (bef y + d - 1)] 3)).alloc (.cells #[.int .i64 y] 3)).drew.cell? ⟨w.heap.size, 1, none⟩ = some (.int .i64 m) := by go_simp
    have hc1 : (((w.alloc (.cells #[.int .i64 y, .int .i64 m, .int .i64 d] 71)).alloc (.cells #[.int .i64 (bef y + d - 1)] 3)).alloc (.cells #[.int .i64 y] 3)).drew.cell? ⟨w.heap.size + 1, 0, none⟩ = some (.int .i64 (bef y + d - 1)) := by go_simp
    have hf1 : (((w.alloc (.cells #[.int .i64 y, .int .i64 m, .int .i64 d] 71)).alloc (.cells #[.int .i64 (bef y + d - 1)] 3)).alloc (.cells #[.int .i64 y] 3)).drew.frozen? ⟨w.heap.size + 1, 0, none⟩ = false := by go_simp
    have hc2 : (((w.alloc (.cells #[.int .i64 y, .int .i64 m, .int .i64 d] 71)).alloc (.cells #[.int .i64 (bef y + d - 1)] 3)).alloc (.cells #[.int .i64 y] 3)).drew.cell? ⟨w.heap.size + 1 + 1, 0, none⟩ = some (.int .i64 y) := by go_simp
    generalize (((w.alloc (.cells #[.int .i64 y, .int .i64 m, .int .i64 d] 71)).alloc (.cells #[.int .i64 (bef y + d - 1)] 3)).alloc (.cells #[.int .i64 y] 3)).drew = W0 at hsz hc0 hc1 hf1 hc2 hB0 ⊢
    refine (wpIn_wide (n := 4)).1 ?_
    refine wpIn_rangeFunc_ownF rfl (by omega) (gf := 110) (lb := #[.pointer (some ⟨w.heap.size + 1 + 1, 0, none⟩)]) rfl trivial (enters_of Tryz.func110 (by kernel_rfl) rfl)
      (months1_stops y (w.heap.size + 1 + 1) 0 W0 (by omega) hc2) belowK_t (belowK_b (Nat.zero_le _)) (Below.refl _ _) (fun _ => rfl)
      (fun pre W => (W.cell? ⟨w.heap.size + 1, 0, none⟩ = some (.int .i64 (accW (bef y + d - 1) m pre)) ∧ W.frozen? ⟨w.heap.size + 1, 0, none⟩ = false ∧ W.cell? ⟨w.heap.size, 1, none⟩ = some (.int .i64 m)) ∧ Below w.heap.size w W)
      (fun _ _ _ => False)
      (OwnFrom.and (Own.from (fun s A B row hs hg hr => ⟨cell_kept hs.1 hg hr, (frozen_kept hs.1 hg hr).trans hs.2.1, cell_kept hs.2.2 hg hr⟩) _) (ownFrom_below (Nat.le_refl _) (by omega)))
      (fun _ _ _ _ _ hs _ _ => hs)
      ⟨⟨hc1, hf1, hc0⟩, hB0⟩
      (fun x => { tmps := #[Value.agg #[Value.int IntKind.i64 y, Value.int IntKind.i64 m, Value.int IntKind.i64 d],
          Value.pointer (some { block := w.heap.size, off := 0 }), Value.int IntKind.i64 0,
          Value.pointer (some { block := w.heap.size + 1, off := 0 }), .int .i64 x.1, .int .i64 x.2,
          Value.pointer (some { block := w.heap.size, off := 0 }), Value.int IntKind.i64 y,
          Value.int IntKind.i64 (bef y), Value.pointer (some { block := w.heap.size, off := 2 }),
          Value.int IntKind.i64 d, Value.int IntKind.i64 (bef y + d),
          Value.int IntKind.i64 (bef y + d - 1),
          Value.pointer (some { block := w.heap.size, off := 0 }), Value.int IntKind.i64 y,
          Value.func (Fn.func 110) #[] #[Value.pointer (some { block := w.heap.size + 1 + 1, off := 0 })], .int .i64 x.1, .int .i64 x.2,
          undef, undef, undef, undef, undef, undef, undef, undef], defers := [] }) ?assign ?body ?done ?stop
    case assign =>
      intro l x W K hK
      gi_wp2
      exact hK
    case body =>
      rintro l pre x W ⟨⟨hc, hf, hm⟩, hB⟩ _
      by_cases hx : x.1 = m
      · have hx' : (x.1 == m) = true := by simpa using hx
        clear hx
        gi_wp2
        exact ⟨KeepsOthers.setCell _ _ _, (Below.refl 0 W).setCell (p := ⟨w.heap.size + 1, 0, none⟩) (Nat.zero_le _) _, ⟨by rw [accW_hit (eq_of_beq hx')]; exact World.cell?_setCell_same' _ _ _ (by rw [hc]; rfl), by rw [World.frozen?_setCell]; exact hf, by rw [World.cell?_setCell_other _ _ _ _ (by simp)]; exact hm⟩, hB.setCell (p := ⟨w.heap.size + 1, 0, none⟩) (by simp) _⟩
      · have hx' : (x.1 == m) = false := by simpa using hx
        gi_wp2
        exact ⟨KeepsOthers.refl _, Below.refl _ _, ⟨by rw [accW_miss hx]; exact hc, hf, hm⟩, hB⟩
    case done =>
      rintro D ys W hD rfl ⟨⟨hc, _⟩, hB⟩ hK
      go_wp2
      refine ⟨by simp, .inl ⟨_, _, rfl, run_takeDeferred hK, ?_⟩⟩
      exact ⟨_, results_tmp rfl _ _ _, by rw [accW_all _ _ _ hm1 hm2 (by omega)]; rfl, hB.trans (belowK_b (w := w) (Nat.le_refl _) W D _ _ (by omega) hK rfl rfl)⟩
    case stop =>
      rintro D c pre W _ _ h _
      exact h.elim
end Go.Proofs.YteobeikcakoaaaaGreatDoor.Given

namespace Go.Proofs.YteobeikcakoaaaaGreatDoor.Given
open Go.RowKit Go.Shelf
attribute [local go_sem] Oper.semAt_some

theorem bef_mono (a b : Int) (h : a ≤ b) : bef a ≤ bef b := by unfold bef; omega
theorem bef_next (y : Int) (hy : 0 ≤ y) : bef (y + 1) = bef y + 365 + (if leapB y = true then 1 else 0) := by
  unfold bef leapB
  rw [Int.tmod_eq_emod_of_nonneg hy, Int.tmod_eq_emod_of_nonneg hy, Int.tmod_eq_emod_of_nonneg hy]
  by_cases h4 : y % 4 = 0 <;> by_cases h100 : y % 100 = 0 <;> by_cases h400 : y % 400 = 0 <;> simp [h4, h100, h400] <;> omega
theorem bef_start (n : Int) (h : 0 ≤ n) : bef (n / 366 + 1) ≤ n := by unfold bef; omega

def yrGo (n : Int) : Nat → Int → Int
  | 0, y => y
  | k + 1, y => if bef (y + 1) ≤ n then yrGo n k (y + 1) else y
/-- The year of day n. -/
def yr (n : Int) : Int := yrGo n 10000 (n / 366 + 1)
theorem yrGo_spec (n : Int) (hn : n ≤ 3652058) : ∀ (k : Nat) (y : Int), bef y ≤ n → 1 ≤ y → 10000 - y ≤ k → bef (yrGo n k y) ≤ n ∧ n < bef (yrGo n k y + 1) ∧ y ≤ yrGo n k y
  | 0, y, h, h1, hk => by
    refine ⟨h, ?_, Int.le_refl _⟩
    have h11 := bef_mono 10001 (y + 1) (by omega)
    have : bef 10001 = 3652425 := by decide
    simp only [yrGo]; omega
  | k + 1, y, h, h1, hk => by
    simp only [yrGo]
    split
    · rename_i hc
      have := yrGo_spec n hn k (y + 1) hc (by omega) (by omega)
      exact ⟨this.1, this.2.1, by omega⟩
    · exact ⟨h, by omega, Int.le_refl _⟩
theorem yr_uniq (n a b : Int) (ha : bef a ≤ n) (ha' : n < bef (a + 1)) (hb : bef b ≤ n) (hb' : n < bef (b + 1)) : a = b := by
  rcases Int.lt_trichotomy a b with h | h | h
  · have := bef_mono (a + 1) b (by omega); omega
  · exact h
  · have := bef_mono (b + 1) a (by omega); omega
theorem yr_spec (n : Int) (h0 : 0 ≤ n) (hn : n ≤ 3652058) : bef (yr n) ≤ n ∧ n < bef (yr n + 1) ∧ 1 ≤ yr n ∧ yr n ≤ 9999 := by
  have h := yrGo_spec n hn 10000 (n / 366 + 1) (bef_start n h0) (by omega) (by omega)
  refine ⟨h.1, h.2.1, by unfold yr; omega, ?_⟩
  by_cases hc : yrGo n 10000 (n / 366 + 1) ≤ 9999
  · exact hc
  · have := bef_mono 10000 (yrGo n 10000 (n / 366 + 1)) (by omega)
    have h11 : bef 10000 = 3652059 := by decide
    omega

theorem Bel.drewN {a w : World} (h : Below a.heap.size a w) (n : Nat) : Below a.heap.size a (w.drewN n) := ⟨h.os, h.tape, h.output, h.size, h.block⟩
/-- dateOf's own cells: n, y, the result's slot. -/
structure DC (b : Nat) (w : World) (n y : Int) (v0 v1 v2 : Value) (W : World) : Prop where
  cn : W.cell? ⟨b, 0, none⟩ = some (.int .i64 n)
  fn : W.frozen? ⟨b, 0, none⟩ = false
  cr0 : W.cell? ⟨b + 1, 0, none⟩ = some v0
  cr1 : W.cell? ⟨b + 1, 1, none⟩ = some v1
  cr2 : W.cell? ⟨b + 1, 2, none⟩ = some v2
  fr : ∀ j, W.frozen? ⟨b + 1, j, none⟩ = false
  cy : W.cell? ⟨b + 1 + 1, 0, none⟩ = some (.int .i64 y)
  fy : W.frozen? ⟨b + 1 + 1, 0, none⟩ = false
  sz : W.heap.size = b + 3
  below : Below b w W
theorem DC.drewN {b : Nat} {w W : World} {n y : Int} {v0 v1 v2 : Value} (h : DC b w n y v0 v1 v2 W) (k : Nat) : DC b w n y v0 v1 v2 (W.drewN k) :=
  ⟨h.cn, h.fn, h.cr0, h.cr1, h.cr2, h.fr, h.cy, h.fy, h.sz, ⟨h.below.os, h.below.tape, h.below.output, h.below.size, h.below.block⟩⟩
theorem DC.setY {b : Nat} {w W : World} {n y : Int} {v0 v1 v2 : Value} (h : DC b w n y v0 v1 v2 W) (y' : Int) : DC b w n y' v0 v1 v2 (W.setCell ⟨b + 1 + 1, 0, none⟩ (.int .i64 y')) := by
  refine ⟨?_, ?_, ?_, ?_, ?_, fun j => ?_, ?_, ?_, by simpa [World.setCell] using h.sz, h.below.setCell (by simp; omega) _⟩
  · rw [World.cell?_setCell_other _ _ _ _ (by simp)]; exact h.cn
  · rw [World.frozen?_setCell]; exact h.fn
  · rw [World.cell?_setCell_other _ _ _ _ (by simp)]; exact h.cr0
  · rw [World.cell?_setCell_other _ _ _ _ (by simp)]; exact h.cr1
  · rw [World.cell?_setCell_other _ _ _ _ (by simp)]; exact h.cr2
  · rw [World.frozen?_setCell]; exact h.fr j
  · exact World.cell?_setCell_same' _ _ _ (by rw [h.cy]; rfl)
  · rw [World.frozen?_setCell]; exact h.fy

/-- What the rounds over the months leave in the variable 'out'. -/
def outW (r : Int) (pre : List (Int × Int)) : Int × Int := pre.foldl (fun _ p => (p.1, wrap64 (wrap64 (r - p.2) + 1))) (1, 1)
theorem outW_snoc (r : Int) (pre : List (Int × Int)) (x : Int × Int) : outW r (pre ++ [x]) = (x.1, wrap64 (wrap64 (r - x.2) + 1)) := by simp [outW]
structure DI (b : Nat) (w : World) (r y : Int) (o : Int × Int) (W : World) : Prop where
  cn : W.cell? ⟨b, 0, none⟩ = some (.int .i64 r)
  cr0 : W.cell? ⟨b + 1, 0, none⟩ = some (.int .i64 0)
  cr1 : W.cell? ⟨b + 1, 1, none⟩ = some (.int .i64 0)
  cr2 : W.cell? ⟨b + 1, 2, none⟩ = some (.int .i64 0)
  fr0 : W.frozen? ⟨b + 1, 0, none⟩ = false
  fr1 : W.frozen? ⟨b + 1, 1, none⟩ = false
  fr2 : W.frozen? ⟨b + 1, 2, none⟩ = false
  cy : W.cell? ⟨b + 1 + 1, 0, none⟩ = some (.int .i64 y)
  co0 : W.cell? ⟨b + 3, 0, none⟩ = some (.int .i64 y)
  co1 : W.cell? ⟨b + 3, 1, none⟩ = some (.int .i64 o.1)
  co2 : W.cell? ⟨b + 3, 2, none⟩ = some (.int .i64 o.2)
  fo0 : W.frozen? ⟨b + 3, 0, none⟩ = false
  fo1 : W.frozen? ⟨b + 3, 1, none⟩ = false
  fo2 : W.frozen? ⟨b + 3, 2, none⟩ = false
  below : Below b w W
theorem DI.kept {b B : Nat} {w W W' : World} {r y : Int} {o : Int × Int} {row : Option Nat} (h : DI b w r y o W) (hb : b ≤ w.heap.size) (hB : b ≤ B) (hg : W.grownBy W' row) (hr : ∀ r, row = some r → B ≤ r ∧ ∃ o : Obj, W.heap[r]? = some o ∧ o.isCells = false) : DI b w r y o W' := by
  have hr' := fun k e => (hr k e).2
  exact ⟨cell_kept h.cn hg hr', cell_kept h.cr0 hg hr', cell_kept h.cr1 hg hr', cell_kept h.cr2 hg hr', (frozen_kept h.cr0 hg hr').trans h.fr0, (frozen_kept h.cr1 hg hr').trans h.fr1, (frozen_kept h.cr2 hg hr').trans h.fr2,
    cell_kept h.cy hg hr', cell_kept h.co0 hg hr', cell_kept h.co1 hg hr', cell_kept h.co2 hg hr', (frozen_kept h.co0 hg hr').trans h.fo0, (frozen_kept h.co1 hg hr').trans h.fo1, (frozen_kept h.co2 hg hr').trans h.fo2,
    h.below.grown hg (Nat.le_trans hb h.below.size) (fun k e => Nat.le_trans hB (hr k e).1)⟩

theorem DI.setOut {b : Nat} {w W : World} {r y : Int} {o : Int × Int} (h : DI b w r y o W) (a1 a2 : Int) :
    DI b w r y (a1, a2) (((W.setCell ⟨b + 3, 0, none⟩ (.int .i64 y)).setCell ⟨b + 3, 1, none⟩ (.int .i64 a1)).setCell ⟨b + 3, 2, none⟩ (.int .i64 a2)) := by
  have g1 := h.cn
  have g2 := h.cr0
  have g3 := h.cr1
  have g4 := h.cr2
  have g5 := h.cy
  have g6 := h.co0
  have g7 := h.co1
  have g8 := h.co2
  have g9 := h.fr0
  have g10 := h.fr1
  have g11 := h.fr2
  have g12 := h.fo0
  have g13 := h.fo1
  have g14 := h.fo2
  have g15 := h.below
  clear h
  refine ⟨by go_simp, by go_simp, by go_simp, by go_simp, by go_simp, by go_simp, by go_simp, by go_simp, by go_simp, by go_simp, by go_simp, by go_simp, by go_simp, by go_simp, ?_⟩
  exact ((g15.setCell (by simp) _).setCell (by simp) _).setCell (by simp) _
def AllLe (r : Int) (pre : List (Int × Int)) : Prop := ∀ p ∈ pre, p.2 ≤ r
theorem AllLe.snoc {r : Int} {pre : List (Int × Int)} {x : Int × Int} (h : AllLe r pre) (hx : x.2 ≤ r) : AllLe r (pre ++ [x]) := by
  intro p hp
  rcases List.mem_append.1 hp with h1 | h1
  · exact h p h1
  · simp at h1; subst h1; exact hx
def StopI (b : Nat) (w : World) (r y : Int) (c : Code) (pre : List (Int × Int)) (W : World) : Prop :=
  c = .exit 2 ∧ ∃ pre0 x, pre = pre0 ++ [x] ∧ r < x.2 ∧ AllLe r pre0 ∧ DI b w r y (outW r pre0) W

theorem cum_mono (y : Int) (a : Nat) : ∀ k : Nat, cum y a ≤ cum y (a + k)
  | 0 => Int.le_refl _
  | k + 1 => by have := cum_mono y a k; have := lenN_bd y (a + k); show _ ≤ cum y (a + k) + lenN y (a + k); omega
def monOf (y r : Int) : Nat → Nat
  | 0 => 0
  | k + 1 => if cum y k ≤ r then k + 1 else monOf y r k
theorem monOf_eq (y r : Int) (k : Nat) (h1 : cum y k ≤ r) : ∀ N : Nat, k < N → (∀ j, k < j → j < N → r < cum y j) → monOf y r N = k + 1
  | 0, h, _ => by omega
  | N + 1, h, h2 => by
    simp only [monOf]
    by_cases e : k = N
    · subst e; rw [if_pos h1]
    · have := h2 N (by omega) (by omega)
      rw [if_neg (by omega)]
      exact monOf_eq y r k h1 N (by omega) fun j a b => h2 j a (by omega)
/-- The date of day n. -/
def mon (n : Int) : Nat := monOf (yr n) (n - bef (yr n)) 12
def dom (n : Int) : Int := n - bef (yr n) - cum (yr n) (mon n - 1) + 1
def dateV (n : Int) : Array Value := #[.int .i64 (yr n), .int .i64 (mon n), .int .i64 (dom n)]
theorem outW_months (r y : Int) (k : Nat) (hr : 0 ≤ r ∧ r ≤ 40000000) (hk : k < 12) : outW r (monthsL y (k + 1)) = ((k : Int) + 1, r - cum y k + 1) := by
  rw [monthsL_succ, outW_snoc]
  have := cum_bd y k
  simp only [Prod.mk.injEq, true_and]
  unfold wrap64
  omega
theorem out_done (n : Int) (hr : 0 ≤ n - bef (yr n) ∧ n - bef (yr n) ≤ 40000000) (hp : AllLe (n - bef (yr n)) (monthsL (yr n) 12)) : outW (n - bef (yr n)) (monthsL (yr n) 12) = ((mon n : Int), dom n) := by
  rw [outW_months _ _ 11 hr (by omega)]
  have h1 : cum (yr n) 11 ≤ n - bef (yr n) := hp ((11 : Int) + 1, cum (yr n) 11) (by rw [monthsL_succ]; simp)
  have h2 : mon n = 12 := monOf_eq _ _ 11 h1 12 (by omega) fun j a b => by omega
  unfold dom
  rw [h2]
  rfl
theorem out_stop (n : Int) (hr : 0 ≤ n - bef (yr n) ∧ n - bef (yr n) ≤ 40000000) (pre pre0 : List (Int × Int)) (x : Int × Int) (hS : ∃ k : Nat, k ≤ 12 ∧ pre = monthsL (yr n) k) (hpre : pre = pre0 ++ [x]) (hx : n - bef (yr n) < x.2)
    (hp : AllLe (n - bef (yr n)) pre0) : outW (n - bef (yr n)) pre0 = ((mon n : Int), dom n) := by
  obtain ⟨k, hk, rfl⟩ := hS
  rcases k with _ | k
  · simp [monthsL] at hpre
  rw [monthsL_succ] at hpre
  obtain ⟨rfl, hx2⟩ := List.append_inj' hpre rfl
  simp only [List.cons.injEq, and_true] at hx2
  subst hx2
  simp only at hx
  rcases k with _ | k
  · simp only [cum] at hx; omega
  rw [outW_months _ _ k hr (by omega)]
  have h1 : cum (yr n) k ≤ n - bef (yr n) := hp ((k : Int) + 1, cum (yr n) k) (by rw [monthsL_succ]; simp)
  have h2 : mon n = k + 1 := monOf_eq _ _ k h1 12 (by omega) fun j a b => by
    have := cum_mono (yr n) (k + 1) (j - (k + 1))
    rw [show k + 1 + (j - (k + 1)) = j from by omega] at this
    omega
  unfold dom
  rw [h2]
  rfl

theorem dateOf_end (b D : Nat) (w W : World) (r y : Int) (o : Int × Int) (a0 a1 a2 : Int) (hb : b ≤ w.heap.size) (h : DI b w r y o W) (hD : b ≤ D)
    (hK' : (((W.setCell ⟨b + 1, 0, none⟩ (.int .i64 a0)).setCell ⟨b + 1, 1, none⟩ (.int .i64 a1)).setCell ⟨b + 1, 2, none⟩ (.int .i64 a2)).heap[D]? = some (.deferred (some []))) :
    ∃ W', W' = ((((W.setCell ⟨b + 1, 0, none⟩ (.int .i64 a0)).setCell ⟨b + 1, 1, none⟩ (.int .i64 a1)).setCell ⟨b + 1, 2, none⟩ (.int .i64 a2)).putObj D (.deferred none)) ∧
      W'.cell? ⟨b + 1, 0, none⟩ = some (.int .i64 a0) ∧ W'.cell? ⟨b + 1, 1, none⟩ = some (.int .i64 a1) ∧ W'.cell? ⟨b + 1, 2, none⟩ = some (.int .i64 a2) ∧ Below b w W' := by
  have g2 := h.cr0
  have g3 := h.cr1
  have g4 := h.cr2
  have gb := h.below
  clear h
  refine ⟨_, rfl, ?_, ?_, ?_, ?_⟩
  · exact cell_kept (by go_simp) (grownBy_putObj' _ D (.deferred none)) (fun r e => by cases e; exact ⟨_, hK', rfl⟩)
  · exact cell_kept (by go_simp) (grownBy_putObj' _ D (.deferred none)) (fun r e => by cases e; exact ⟨_, hK', rfl⟩)
  · exact cell_kept (by go_simp) (grownBy_putObj' _ D (.deferred none)) (fun r e => by cases e; exact ⟨_, hK', rfl⟩)
  · have h3 := ((gb.setCell (p := ⟨b + 1, 0, none⟩) (by simp) (.int .i64 a0)).setCell (p := ⟨b + 1, 1, none⟩) (by simp) (.int .i64 a1)).setCell (p := ⟨b + 1, 2, none⟩) (by simp) (.int .i64 a2)
    exact h3.grown (grownBy_putObj' _ D (.deferred none)) (Nat.le_trans hb h3.size) (fun k e => by cases e; exact hD)

set_option maxRecDepth 100000 in
set_option maxHeartbeats 2000000 in
theorem dateOf_any (n : Int) (w : World) (h0 : 0 ≤ n) (hn : n ≤ 3652058) :
    Calls Tryz.prog 45 #[.int .i64 n] w fun e w' => e = .returned (.agg (dateV n)) ∧ Below w.heap.size w w' := by
  have hu := Tryz.underlying71
  have hu3 := Tryz.underlying3
  refine (callsIn_wide (n := 6)).1 ?_
  refine callsIn_of_wp_marks Tryz.func45 rfl trivial ?_ rfl
  simp only [Tryz.ntmps45, List.size_toArray, List.length_cons, List.length_nil, Nat.reduceAdd, Nat.reduceSub, Array.replicate_succ, Array.replicate_zero, List.push_toArray, List.append_toArray, List.nil_append, List.cons_append]
  refine wpIn_wide.2 ?_
  go_wp2_with (fail)
  go_step3
  go_wp2_with (fail)
  have hy := yr_spec n h0 hn
  have hst := bef_start n h0
  go_loopw [14] (fun _ wr => ∃ y : Int, 1 ≤ y ∧ y ≤ yr n ∧ DC w.heap.size w n y (.int .i64 0) (.int .i64 0) (.int .i64 0) wr) (fun _ wr => (20000 - intOf ((wr.cell? ⟨w.heap.size + 1 + 1, 0, none⟩).getD (.int .i64 0))).toNat)
  case atStart =>
    refine ⟨n / 366 + 1, by omega, ?_, ⟨by go_simp, by go_simp, by go_simp, by go_simp, by go_simp, fun j => by go_simp, by go_simp, by go_simp, by simp, Bel.alloc (Bel.alloc (Bel.alloc (Below.refl _ _) _) _) _⟩⟩
    have h6 := yrGo_spec n hn 10000 (n / 366 + 1) (bef_start n h0) (by omega) (by omega)
    exact h6.2.2
  case round =>
    obtain ⟨y, h1, h2, hD⟩ := hrel
    have c1 := hD.cn
    have c2 := hD.cy
    have c3 := hD.fy
    by_cases hc : bef (y + 1) ≤ n
    · have hlt : y < yr n := by
        by_cases hlt : y < yr n
        · exact hlt
        · obtain rfl : y = yr n := by omega
          omega
      go_wp2_with (fail)
      go_quiet ((go_at_call 79; exact Calls.quiet_of_same ((before_any _ _ (by omega) (by omega)).mono fun _ _ h => ⟨h.1, h.2.symm⟩)))
      go_wp2_with (fail)
      go_roundw
      case rel => exact ⟨y + 1, by omega, by omega, (hD.drewN _).setY _⟩
      case measure => simp only [((hD.drewN _).setY (y + 1)).cy, c2, Option.getD_some, intOf]; omega
    · have hyn : bef y ≤ n := Int.le_trans (bef_mono _ _ h2) hy.1
      obtain rfl : y = yr n := yr_uniq n y (yr n) hyn (by omega) hy.1 hy.2.1
      have h5 := bef_bd (yr n) (by omega) (by omega)
      go_wp2_with (fail)
      go_quiet ((go_at_call 79; exact Calls.quiet_of_same ((before_any _ _ (by omega) (by omega)).mono fun _ _ h => ⟨h.1, h.2.symm⟩)))
      go_wp2_with (fail)
      have c4 := hD.fn
      refine wp_region_noPanic ?_
      go_region_with (go_at_call 79; refine (before_any _ _ (by omega) (by omega)).mono ?_; rintro e w' ⟨rfl, rfl⟩)
      all_goals
        refine NoPanic.normal ?_
        have c5 := hD.sz
        have c6 := hD.cr0
        have c7 := hD.cr1
        have c8 := hD.cr2
        have c9 := hD.fr 0
        have c10 := hD.fr 1
        have c11 := hD.fr 2
        go_wp2_with (fail)
        have hI : DI w.heap.size w (n - bef (yr n)) (yr n) (1, 1) (((wr.drewN (nq + 1)).setCell ⟨w.heap.size, 0, none⟩ (.int .i64 (n - bef (yr n)))).alloc (.cells #[.int .i64 (yr n), .int .i64 1, .int .i64 1] 71)) := by
          refine ⟨by go_simp, by go_simp, by go_simp, by go_simp, by go_simp, by go_simp, by go_simp, by go_simp, by go_simp, by go_simp, by go_simp, by go_simp, by go_simp, by go_simp, ?_⟩
          exact Bel.alloc (Below.setCell (Bel.drewN hD.below _) (Nat.le_refl _) _) _
        have hsz : (((wr.drewN (nq + 1)).setCell ⟨w.heap.size, 0, none⟩ (.int .i64 (n - bef (yr n)))).alloc (.cells #[.int .i64 (yr n), .int .i64 1, .int .i64 1] 71)).heap.size = w.heap.size + 4 := by simp [World.setCell, World.drewN, c5]
        generalize (((wr.drewN (nq + 1)).setCell ⟨w.heap.size, 0, none⟩ (.int .i64 (n - bef (yr n)))).alloc (.cells #[.int .i64 (yr n), .int .i64 1, .int .i64 1] 71)) = W1 at hI hsz ⊢
        have e1 := hI.cy
        go_step3
        go_wp2_with (go_at_call 80; refine (months_any _ _).mono ?_; rintro e w' ⟨rfl, rfl⟩)
        have hsz2 : (W1.alloc (.cells #[.int .i64 (yr n)] 3)).heap.size = w.heap.size + 5 := by simp [hsz]
        have hc2 : (W1.alloc (.cells #[.int .i64 (yr n)] 3)).cell? ⟨w.heap.size + 4, 0, none⟩ = some (.int .i64 (yr n)) := by rw [← hsz]; go_simp
        have hI2 : DI w.heap.size w (n - bef (yr n)) (yr n) (1, 1) (W1.alloc (.cells #[.int .i64 (yr n)] 3)) := hI.kept (Nat.le_refl _) (Nat.le_refl _) (World.grownBy_alloc W1 _ none) (fun r e => by cases e)
        generalize W1.alloc (.cells #[.int .i64 (yr n)] 3) = W2 at hsz2 hc2 hI2 ⊢
        clear hI hsz e1
        have hr0 : 0 ≤ n - bef (yr n) ∧ n - bef (yr n) ≤ 40000000 := by omega
        refine (wpIn_wide (n := 4)).1 ?_
        refine wpIn_rangeFunc_ownF rfl (by omega) (gf := 110) (lb := #[.pointer (some ⟨w.heap.size + 4, 0, none⟩)]) rfl trivial (enters_of Tryz.func110 (by kernel_rfl) rfl)
          (months1_stops (yr n) (w.heap.size + 4) 0 W2 (by omega) hc2) belowK_t (belowK_b (Nat.zero_le _)) (Below.refl _ _) (fun _ => rfl)
          (fun pre W => AllLe (n - bef (yr n)) pre ∧ DI w.heap.size w (n - bef (yr n)) (yr n) (outW (n - bef (yr n)) pre) W)
          (StopI w.heap.size w (n - bef (yr n)) (yr n))
          (fun s A B row hs hg hr => ⟨hs.1, hs.2.kept (Nat.le_refl _) (by omega) hg hr⟩)
          (fun c s A B row hs hg hr => by obtain ⟨hc, pre0, x, h1, h2, h3, h4⟩ := hs; exact ⟨hc, pre0, x, h1, h2, h3, h4.kept (Nat.le_refl _) (by omega) hg hr⟩)
          ⟨fun _ h => by simp at h, hI2⟩
          (fun x => { tmps := #[.int .i64 n, .pointer (some ⟨w.heap.size, 0, none⟩), .pointer (some ⟨w.heap.size + 1, 0, none⟩), .pointer (some ⟨w.heap.size + 1 + 1, 0, none⟩), .pointer (some ⟨w.heap.size + 3, 0, none⟩),
            .int .i64 x.1, .int .i64 x.2, .int .i64 n, .int .i64 (n / 366), .int .i64 (n / 366 + 1), .int .i64 (yr n), .int .i64 (yr n + 1), .int .i64 (bef (yr n + 1)), .int .i64 n, .bool (decide (bef (yr n + 1) ≤ n)), u15, u16,
            .int .i64 n, .int .i64 (yr n), .int .i64 (bef (yr n)), .int .i64 (n - bef (yr n)), .int .i64 (yr n), .agg #[.int .i64 (yr n), .int .i64 1, .int .i64 1], .int .i64 (yr n),
            .func (.func 110) #[] #[.pointer (some ⟨w.heap.size + 4, 0, none⟩)], .int .i64 x.1, .int .i64 x.2, undef, undef, undef, undef, undef, undef, undef, undef, undef, undef, undef], defers := [] }) ?assign ?body ?done ?stop
        case assign =>
          intro l x W K hK
          gi_wp2
          exact hK
        case body =>
          rintro l pre x W ⟨hp, hI⟩ _
          have e1 := hI.cn
          have e2 := hI.cy
          have e3 := hI.co0
          have e4 := hI.co1
          have e5 := hI.co2
          have e6 := hI.fo0
          have e7 := hI.fo1
          have e8 := hI.fo2
          by_cases hx : n - bef (yr n) < x.2
          · gi_wp2
            exact ⟨KeepsOthers.refl _, rfl, pre, x, rfl, hx, hp, hI⟩
          · gi_wp2
            exact ⟨((KeepsOthers.setCell _ _ _).trans (KeepsOthers.setCell _ _ _)).trans (KeepsOthers.setCell _ _ _), (((Below.refl 0 W).setCell (Nat.zero_le _) _).setCell (Nat.zero_le _) _).setCell (Nat.zero_le _) _, hp.snoc (by omega), by rw [outW_snoc]; exact hI.setOut _ _⟩
        case done =>
          rintro D ys W hD rfl ⟨hp, hI⟩ hK
          have e3 := hI.co0
          have e4 := hI.co1
          have e5 := hI.co2
          have e6 := hI.cr0
          have e7 := hI.cr1
          have e8 := hI.cr2
          have f6 := hI.fr0
          have f7 := hI.fr1
          have f8 := hI.fr2
          rw [out_done n hr0 hp] at e4 e5
          go_wp2
          have hK' := (KeepsOthers.setCell _ ⟨w.heap.size + 1, 2, none⟩ (.int .i64 (dom n))).same D _ ((KeepsOthers.setCell _ ⟨w.heap.size + 1, 1, none⟩ (.int .i64 (mon n))).same D _ ((KeepsOthers.setCell W ⟨w.heap.size + 1, 0, none⟩ (.int .i64 (yr n))).same D _ hK rfl) rfl) rfl
          refine ⟨by simp, .inl ⟨_, _, rfl, run_takeDeferred hK', ?_⟩⟩
          obtain ⟨W', hW', d0, d1, d2, hb'⟩ := dateOf_end w.heap.size D w W _ _ _ (yr n) (mon n) (dom n) (Nat.le_refl _) hI (by omega) hK'
          rw [← hW']
          exact ⟨.agg (dateV n), by simp [results, Tryz.f45, go_sem, d0, d1, d2, dateV], rfl, hb'⟩
        case stop =>
          rintro D c pre W hD hS ⟨rfl, pre0, x, hpre, hx, hp, hI⟩ hK
          have e3 := hI.co0
          have e4 := hI.co1
          have e5 := hI.co2
          have e6 := hI.cr0
          have e7 := hI.cr1
          have e8 := hI.cr2
          have f6 := hI.fr0
          have f7 := hI.fr1
          have f8 := hI.fr2
          rw [out_stop n hr0 pre pre0 x hS hpre hx hp] at e4 e5
          refine wpIn_wide.2 ?_
          go_wp2
          have hK' := (KeepsOthers.setCell _ ⟨w.heap.size + 1, 2, none⟩ (.int .i64 (dom n))).same D _ ((KeepsOthers.setCell _ ⟨w.heap.size + 1, 1, none⟩ (.int .i64 (mon n))).same D _ ((KeepsOthers.setCell W ⟨w.heap.size + 1, 0, none⟩ (.int .i64 (yr n))).same D _ hK rfl) rfl) rfl
          refine ⟨by simp, .inl ⟨_, _, rfl, run_takeDeferred hK', ?_⟩⟩
          obtain ⟨W', hW', d0, d1, d2, hb'⟩ := dateOf_end w.heap.size D w W _ _ _ (yr n) (mon n) (dom n) (Nat.le_refl _) hI (by omega) hK'
          rw [← hW']
          exact ⟨.agg (dateV n), by simp [results, Tryz.f45, go_sem, d0, d1, d2, dateV], rfl, hb'⟩
end Go.Proofs.YteobeikcakoaaaaGreatDoor.Given

namespace Go.Proofs.YteobeikcakoaaaaGreatDoor.Given
open Go.RowKit Go.Shelf

theorem within_yes (n lo hi : Int) (w : World) (h1 : lo ≤ n) (h2 : n ≤ hi) : Calls Tryz.prog 69 #[.int .i64 n, .int .i64 lo, .int .i64 hi] w fun e w' => e = .returned (.bool true) ∧ w = w' := by
  go_enter Tryz.func69, Tryz.ntmps69
  go_wp2
  go_ret
  exact ⟨rfl, rfl⟩
theorem within_no (n lo hi : Int) (w : World) (h : ¬ (lo ≤ n ∧ n ≤ hi)) : Calls Tryz.prog 69 #[.int .i64 n, .int .i64 lo, .int .i64 hi] w fun e w' => e = .returned (.bool false) ∧ w = w' := by
  by_cases h1 : lo ≤ n
  · have h2 : hi < n := by omega
    clear h
    go_enter Tryz.func69, Tryz.ntmps69
    go_wp2
    go_ret
    exact ⟨by simp; omega, rfl⟩
  · clear h
    go_enter Tryz.func69, Tryz.ntmps69
    go_wp2
    go_ret
    exact ⟨rfl, rfl⟩

def cal_DaysIn.f (a0 a1 : Int) : Option (Int × Int) := some (if (1 ≤ a0 ∧ a0 ≤ 9999) ∧ 1 ≤ a1 ∧ a1 ≤ 12 then (lenN a0 (a1.toNat - 1), 0) else (0, 1))

theorem DaysIn_yes (y m : Int) (w : World) (h1 : 1 ≤ y ∧ y ≤ 9999) (h2 : 1 ≤ m ∧ m ≤ 12) : Calls Tryz.prog 26 #[.int .i64 y, .int .i64 m] w fun e w' => e = .returned (.tuple #[.int .i64 (lenN y (m.toNat - 1)), .int .i64 0]) ∧ Below w.heap.size w w' := by
  obtain ⟨h11, h12⟩ := h1
  obtain ⟨h21, h22⟩ := h2
  obtain ⟨k, rfl⟩ : ∃ k : Nat, m = (k : Int) + 1 := ⟨m.toNat - 1, by omega⟩
  have hix := index_len y k (by omega)
  have e : ((k : Int) + 1).toNat - 1 = k := by omega
  rw [e]
  clear e
  go_enter Tryz.func26, Tryz.ntmps26
  go_wp2_with (fail)
  refine (within_yes _ _ _ _ (by omega) (by omega)).mono ?_
  rintro e w' ⟨rfl, rfl⟩
  go_wp2_with (fail)
  refine (within_yes _ _ _ _ (by omega) (by omega)).mono ?_
  rintro e w' ⟨rfl, rfl⟩
  go_wp2_with (fail)
  refine (lengths_any _ _).mono ?_
  rintro e w1 ⟨rfl, hb⟩
  go_wp2_with (fail)
  go_ret2
  exact ⟨rfl, hb⟩
theorem DaysIn_no (y m : Int) (w : World) (h : ¬ ((1 ≤ y ∧ y ≤ 9999) ∧ 1 ≤ m ∧ m ≤ 12)) : Calls Tryz.prog 26 #[.int .i64 y, .int .i64 m] w fun e w' => e = .returned (.tuple #[.int .i64 0, .int .i64 1]) ∧ Below w.heap.size w w' := by
  by_cases hy : 1 ≤ y ∧ y ≤ 9999
  · have hm : ¬ (1 ≤ m ∧ m ≤ 12) := fun e => h ⟨hy, e⟩
    clear h
    obtain ⟨h11, h12⟩ := hy
    have HM := Lib.hid hm
    clear hm
    go_enter Tryz.func26, Tryz.ntmps26
    go_wp2_with (fail)
    refine (within_yes _ _ _ _ (by omega) (by omega)).mono ?_
    rintro e w' ⟨rfl, rfl⟩
    go_wp2_with (fail)
    refine (within_no _ _ _ _ HM.out).mono ?_
    rintro e w' ⟨rfl, rfl⟩
    go_wp2_with (fail)
    go_ret2
    exact ⟨rfl, Below.refl _ _⟩
  · have HM := Lib.hid hy
    clear hy h
    go_enter Tryz.func26, Tryz.ntmps26
    go_wp2_with (fail)
    refine (within_no _ _ _ _ HM.out).mono ?_
    rintro e w' ⟨rfl, rfl⟩
    go_wp2_with (fail)
    go_ret2
    exact ⟨rfl, Below.refl _ _⟩
theorem cal_DaysIn.calls (a0 a1 r1 r2 : Int) (w : World) (_ : Tb w) (h : cal_DaysIn.f a0 a1 = some (r1, r2)) : Calls Tryz.prog 26 #[.int .i64 a0, .int .i64 a1] w fun e w' => e = .returned (.tuple #[.int .i64 r1, .int .i64 r2]) ∧ Below w.heap.size w w' := by
  unfold cal_DaysIn.f at h
  injection h with h
  split at h
  · rename_i hc
    obtain ⟨rfl, rfl⟩ := Prod.mk.inj h
    exact DaysIn_yes a0 a1 w hc.1 hc.2
  · rename_i hc
    obtain ⟨rfl, rfl⟩ := Prod.mk.inj h
    exact DaysIn_no a0 a1 w hc

def cal_DayOf.f (a0 a1 a2 : Int) : Option (Int × Int) := some (if ((1 ≤ a0 ∧ a0 ≤ 9999) ∧ 1 ≤ a1 ∧ a1 ≤ 12) ∧ 1 ≤ a2 ∧ a2 ≤ lenN a0 (a1.toNat - 1) then (num a0 a1 a2, 0) else (0, 1))

theorem DayOf_yes (y m d : Int) (w : World) (h1 : 1 ≤ y ∧ y ≤ 9999) (h2 : 1 ≤ m ∧ m ≤ 12) (h3 : 1 ≤ d ∧ d ≤ lenN y (m.toNat - 1)) : Calls Tryz.prog 25 #[.int .i64 y, .int .i64 m, .int .i64 d] w fun e w' => e = .returned (.tuple #[.int .i64 (num y m d), .int .i64 0]) ∧ Below w.heap.size w w' := by
  have hl := lenN_bd y (m.toNat - 1)
  have hu := Tryz.underlying71
  go_enter Tryz.func25, Tryz.ntmps25
  go_wp2_with (fail)
  refine (DaysIn_yes _ _ _ h1 h2).mono ?_
  rintro e w1 ⟨rfl, hb⟩
  go_wp2_with (fail)
  refine (within_yes _ _ _ _ h3.1 h3.2).mono ?_
  rintro e w' ⟨rfl, rfl⟩
  go_wp2_with (fail)
  refine (number_any _ _ _ _ h1.1 (by omega) h2.1 h2.2 (by omega) (by omega)).mono ?_
  rintro e w2 ⟨rfl, hb2⟩
  go_wp2_with (fail)
  go_ret2
  exact ⟨rfl, Bel.call hb hb2⟩
theorem DayOf_no (y m d : Int) (w : World) (h : ¬ (((1 ≤ y ∧ y ≤ 9999) ∧ 1 ≤ m ∧ m ≤ 12) ∧ 1 ≤ d ∧ d ≤ lenN y (m.toNat - 1))) : Calls Tryz.prog 25 #[.int .i64 y, .int .i64 m, .int .i64 d] w fun e w' => e = .returned (.tuple #[.int .i64 0, .int .i64 1]) ∧ Below w.heap.size w w' := by
  by_cases hym : (1 ≤ y ∧ y ≤ 9999) ∧ 1 ≤ m ∧ m ≤ 12
  · have hd : ¬ (1 ≤ d ∧ d ≤ lenN y (m.toNat - 1)) := fun e => h ⟨hym, e⟩
    have HD := Lib.hid hd
    have HY := Lib.hid hym
    clear hd h hym
    go_enter Tryz.func25, Tryz.ntmps25
    go_wp2_with (fail)
    refine (DaysIn_yes _ _ _ HY.out.1 HY.out.2).mono ?_
    rintro e w1 ⟨rfl, hb⟩
    go_wp2_with (fail)
    refine (within_no _ _ _ _ HD.out).mono ?_
    rintro e w' ⟨rfl, rfl⟩
    go_wp2_with (fail)
    go_ret2
    exact ⟨rfl, hb⟩
  · have HY := Lib.hid hym
    clear hym h
    go_enter Tryz.func25, Tryz.ntmps25
    go_wp2_with (fail)
    refine (DaysIn_no _ _ _ HY.out).mono ?_
    rintro e w1 ⟨rfl, hb⟩
    go_wp2_with (fail)
    go_ret2
    exact ⟨rfl, hb⟩
theorem cal_DayOf.calls (a0 a1 a2 r1 r2 : Int) (w : World) (_ : Tb w) (h : cal_DayOf.f a0 a1 a2 = some (r1, r2)) : Calls Tryz.prog 25 #[.int .i64 a0, .int .i64 a1, .int .i64 a2] w fun e w' => e = .returned (.tuple #[.int .i64 r1, .int .i64 r2]) ∧ Below w.heap.size w w' := by
  unfold cal_DayOf.f at h
  injection h with h
  split at h
  · rename_i hc
    obtain ⟨rfl, rfl⟩ := Prod.mk.inj h
    exact DayOf_yes a0 a1 a2 w hc.1.1 hc.1.2 hc.2
  · rename_i hc
    obtain ⟨rfl, rfl⟩ := Prod.mk.inj h
    exact DayOf_no a0 a1 a2 w hc

def cal_DateOf.f (a0 : Int) : Option (Int × Int × Int × Int) := some (if 0 ≤ a0 ∧ a0 ≤ 3652058 then (yr a0, mon a0, dom a0, 0) else (0, 0, 0, 1))
theorem results_tmp4 {fn : Func} {t u v x : Tmp} (h : fn.results = #[.tmp t, .tmp u, .tmp v, .tmp x]) (tmps : Array Value) (P : Program) (w : World) :
    (results fn tmps).run P w = .ok (.tuple #[tmps.getD t undef, tmps.getD u undef, tmps.getD v undef, tmps.getD x undef]) w := by simp [results, h]
theorem DateOf_yes (n : Int) (w : World) (h0 : 0 ≤ n) (hn : n ≤ 3652058) : Calls Tryz.prog 24 #[.int .i64 n] w fun e w' => e = .returned (.tuple #[.int .i64 (yr n), .int .i64 (mon n), .int .i64 (dom n), .int .i64 0]) ∧ Below w.heap.size w w' := by
  have hu := Tryz.underlying71
  have hd := dateOf_any n
  unfold dateV at hd
  have HD := Lib.hid hd
  clear hd
  go_enter Tryz.func24, Tryz.ntmps24
  go_wp2_with (first | (go_at_call 44; go_in) | (go_at_call 69; go_in))
  refine (HD.out _ h0 hn).mono ?_
  rintro e w1 ⟨rfl, hb⟩
  go_wp2_with (fail)
  go_region
  all_goals
    go_wp2_with (fail)
    refine bodyPost_ret (results_tmp4 rfl _ _ _) rfl ?_
    exact ⟨rfl, (Bel.alloc hb _).drew⟩
theorem known_yes (n : Int) (w : World) (h0 : 0 ≤ n) (hn : n ≤ 3652058) : Calls Tryz.prog 44 #[.int .i64 n] w fun e w' => e = .returned (.bool true) ∧ w = w' := by
  go_enter Tryz.func44, Tryz.ntmps44
  go_wp2_with (go_at_call 69; refine (within_yes _ _ _ _ h0 hn).mono ?_; rintro e w' ⟨rfl, rfl⟩)
  go_ret
  exact ⟨rfl, rfl⟩
theorem known_no (n : Int) (w : World) (h : ¬ (0 ≤ n ∧ n ≤ 3652058)) : Calls Tryz.prog 44 #[.int .i64 n] w fun e w' => e = .returned (.bool false) ∧ w = w' := by
  have H := Lib.hid h
  clear h
  go_enter Tryz.func44, Tryz.ntmps44
  go_wp2_with (go_at_call 69; refine (within_no _ _ _ _ H.out).mono ?_; rintro e w' ⟨rfl, rfl⟩)
  go_ret
  exact ⟨rfl, rfl⟩
theorem DateOf_no (n : Int) (w : World) (h : ¬ (0 ≤ n ∧ n ≤ 3652058)) : Calls Tryz.prog 24 #[.int .i64 n] w fun e w' => e = .returned (.tuple #[.int .i64 0, .int .i64 0, .int .i64 0, .int .i64 1]) ∧ Below w.heap.size w w' := by
  have H := Lib.hid h
  clear h
  go_enter Tryz.func24, Tryz.ntmps24
  go_wp2_with (go_at_call 44; refine (known_no _ _ H.out).mono ?_; rintro e w' ⟨rfl, rfl⟩)
  refine bodyPost_ret (results_tmp4 rfl _ _ _) rfl ?_
  exact ⟨rfl, Below.refl _ _⟩
theorem cal_DateOf.calls (a0 r1 r2 r3 r4 : Int) (w : World) (_ : Tb w) (h : cal_DateOf.f a0 = some (r1, r2, r3, r4)) : Calls Tryz.prog 24 #[.int .i64 a0] w fun e w' => e = .returned (.tuple #[.int .i64 r1, .int .i64 r2, .int .i64 r3, .int .i64 r4]) ∧ Below w.heap.size w w' := by
  unfold cal_DateOf.f at h
  injection h with h
  split at h
  · rename_i hc
    simp only [Prod.mk.injEq] at h
    obtain ⟨rfl, rfl, rfl, rfl⟩ := h
    exact DateOf_yes a0 w hc.1 hc.2
  · rename_i hc
    simp only [Prod.mk.injEq] at h
    obtain ⟨rfl, rfl, rfl, rfl⟩ := h
    exact DateOf_no a0 w hc

def fm (y : Int) : Int := bef y + 3 - (bef y + 3) % 7
theorem fm_bd (y : Int) : bef y - 3 ≤ fm y ∧ fm y ≤ bef y + 3 := by unfold fm; omega
theorem fm_any (y : Int) (w : World) (h1 : 1 ≤ y) (h2 : y ≤ 100000) : Calls Tryz.prog 75 #[.int .i64 y] w fun e w' => e = .returned (.int .i64 (fm y)) ∧ w = w' := by
  have hb := bef_bd y h1 h2
  go_enter Tryz.func75, Tryz.ntmps75
  go_wp2_with (go_at_call 79; refine (before_any _ _ h1 h2).mono ?_; rintro e w' ⟨rfl, rfl⟩)
  go_ret
  exact ⟨by unfold fm; rfl, rfl⟩
def wkY (n : Int) : Int := if n < fm (yr n) then yr n - 1 else if fm (yr n + 1) ≤ n then yr n + 1 else yr n
theorem bef_gap (y : Int) : bef y + 365 ≤ bef (y + 1) := by unfold bef; omega
theorem wk_pos (n : Int) (h0 : 0 ≤ n) (hn : n ≤ 3652058) : fm (wkY n) ≤ n ∧ 1 ≤ wkY n ∧ wkY n ≤ 10000 ∧ n - fm (wkY n) ≤ 40000000 := by
  have hy := yr_spec n h0 hn
  have b1 := fm_bd (yr n)
  have b2 := fm_bd (yr n + 1)
  have b3 := fm_bd (yr n - 1)
  have g1 := bef_gap (yr n)
  have g2 := bef_gap (yr n - 1)
  rw [show yr n - 1 + 1 = yr n from by omega] at g2
  have b9 := bef_bd (yr n) (by omega) (by omega)
  unfold wkY
  split
  · by_cases h1 : yr n = 1
    · rename_i hlt
      rw [h1] at hlt
      have : fm 1 = 0 := by decide
      omega
    · have h9 := bef_bd (yr n - 1) (by omega) (by omega)
      omega
  · split <;> omega
def cal_Week.f (a0 : Int) : Option (Int × Int × Int × Int) := some (if 0 ≤ a0 ∧ a0 ≤ 3652058 then (wkY a0, (a0 - fm (wkY a0)) / 7 + 1, (a0 - fm (wkY a0)) % 7 + 1, 0) else (0, 0, 0, 1))
theorem index_0 (a b c : Value) (w : World) : (Instr.index 71 (.agg #[a, b, c]) (.int .i64 0)).run Tryz.prog w = .ok a w := by kernel_rfl
theorem index_1 (a b c : Value) (w : World) : (Instr.index 71 (.agg #[a, b, c]) (.int .i64 1)).run Tryz.prog w = .ok b w := by kernel_rfl
theorem index_2 (a b c : Value) (w : World) : (Instr.index 71 (.agg #[a, b, c]) (.int .i64 2)).run Tryz.prog w = .ok c w := by kernel_rfl
set_option maxRecDepth 100000 in
theorem Week_yes (n : Int) (w : World) (h0 : 0 ≤ n) (hn : n ≤ 3652058) : Calls Tryz.prog 34 #[.int .i64 n] w fun e w' => e = .returned (.tuple #[.int .i64 (wkY n), .int .i64 ((n - fm (wkY n)) / 7 + 1), .int .i64 ((n - fm (wkY n)) % 7 + 1), .int .i64 0]) ∧ Below w.heap.size w w' := by
  have hu := Tryz.underlying71
  have hd := dateOf_any n
  unfold dateV at hd
  have HD := Lib.hid hd
  clear hd
  have hy := yr_spec n h0 hn
  have hp := wk_pos n h0 hn
  have i0 := index_0
  by_cases c1 : n < fm (yr n)
  · have e : wkY n = yr n - 1 := by unfold wkY; rw [if_pos c1]
    rw [e] at hp ⊢
    have HE := Lib.hid e
    clear e
    go_enter Tryz.func34, Tryz.ntmps34
    go_wp2_with (go_at_call 44; refine (known_yes _ _ h0 hn).mono ?_; rintro e w' ⟨rfl, rfl⟩)
    refine (HD.out _ h0 hn).mono ?_
    rintro e w1 ⟨rfl, hb⟩
    go_wp2_with (fail)
    refine (fm_any _ _ (by omega) (by omega)).mono ?_
    rintro e w' ⟨rfl, rfl⟩
    go_wp2_with (fail)
    refine (fm_any _ _ (by omega) (by omega)).mono ?_
    rintro e w' ⟨rfl, rfl⟩
    go_wp2_with (fail)
    refine bodyPost_ret (results_tmp4 rfl _ _ _) rfl ?_
    exact ⟨rfl, hb⟩
  · by_cases c2 : fm (yr n + 1) ≤ n
    · have e : wkY n = yr n + 1 := by unfold wkY; rw [if_neg c1, if_pos c2]
      rw [e] at hp ⊢
      have HE := Lib.hid e
      clear e
      go_enter Tryz.func34, Tryz.ntmps34
      go_wp2_with (go_at_call 44; refine (known_yes _ _ h0 hn).mono ?_; rintro e w' ⟨rfl, rfl⟩)
      refine (HD.out _ h0 hn).mono ?_
      rintro e w1 ⟨rfl, hb⟩
      go_wp2_with (fail)
      refine (fm_any _ _ (by omega) (by omega)).mono ?_
      rintro e w' ⟨rfl, rfl⟩
      go_wp2_with (fail)
      refine (fm_any _ _ (by omega) (by omega)).mono ?_
      rintro e w' ⟨rfl, rfl⟩
      go_wp2_with (fail)
      refine (fm_any _ _ (by omega) (by omega)).mono ?_
      rintro e w' ⟨rfl, rfl⟩
      go_wp2_with (fail)
      refine bodyPost_ret (results_tmp4 rfl _ _ _) rfl ?_
      exact ⟨rfl, hb⟩
    · have e : wkY n = yr n := by unfold wkY; rw [if_neg c1, if_neg c2]
      rw [e] at hp ⊢
      have HE := Lib.hid e
      clear e
      go_enter Tryz.func34, Tryz.ntmps34
      go_wp2_with (go_at_call 44; refine (known_yes _ _ h0 hn).mono ?_; rintro e w' ⟨rfl, rfl⟩)
      refine (HD.out _ h0 hn).mono ?_
      rintro e w1 ⟨rfl, hb⟩
      go_wp2_with (fail)
      refine (fm_any _ _ (by omega) (by omega)).mono ?_
      rintro e w' ⟨rfl, rfl⟩
      go_wp2_with (fail)
      refine (fm_any _ _ (by omega) (by omega)).mono ?_
      rintro e w' ⟨rfl, rfl⟩
      go_wp2_with (fail)
      refine (fm_any _ _ (by omega) (by omega)).mono ?_
      rintro e w' ⟨rfl, rfl⟩
      go_wp2_with (fail)
      refine bodyPost_ret (results_tmp4 rfl _ _ _) rfl ?_
      exact ⟨rfl, hb⟩
theorem Week_no (n : Int) (w : World) (h : ¬ (0 ≤ n ∧ n ≤ 3652058)) : Calls Tryz.prog 34 #[.int .i64 n] w fun e w' => e = .returned (.tuple #[.int .i64 0, .int .i64 0, .int .i64 0, .int .i64 1]) ∧ Below w.heap.size w w' := by
  have H := Lib.hid h
  clear h
  go_enter Tryz.func34, Tryz.ntmps34
  go_wp2_with (go_at_call 44; refine (known_no _ _ H.out).mono ?_; rintro e w' ⟨rfl, rfl⟩)
  refine bodyPost_ret (results_tmp4 rfl _ _ _) rfl ?_
  exact ⟨rfl, Below.refl _ _⟩
theorem cal_Week.calls (a0 r1 r2 r3 r4 : Int) (w : World) (_ : Tb w) (h : cal_Week.f a0 = some (r1, r2, r3, r4)) : Calls Tryz.prog 34 #[.int .i64 a0] w fun e w' => e = .returned (.tuple #[.int .i64 r1, .int .i64 r2, .int .i64 r3, .int .i64 r4]) ∧ Below w.heap.size w w' := by
  unfold cal_Week.f at h
  injection h with h
  split at h
  · rename_i hc
    simp only [Prod.mk.injEq] at h
    obtain ⟨rfl, rfl, rfl, rfl⟩ := h
    exact Week_yes a0 w hc.1 hc.2
  · rename_i hc
    simp only [Prod.mk.injEq] at h
    obtain ⟨rfl, rfl, rfl, rfl⟩ := h
    exact Week_no a0 w hc
end Go.Proofs.YteobeikcakoaaaaGreatDoor.Given

namespace Go.Proofs.YteobeikcakoaaaaGreatDoor.Given
open Go.RowKit Go.Shelf Go.Proofs.YteobeikcakoaaaaGreatDoorW.PrintWords

def strconv_Itoa.f (a0 : Int) : Option ByteArray := if -9223372036854775808 ≤ a0 ∧ a0 ≤ 9223372036854775807 then some ⟨(Lib.itoa a0).toArray⟩ else none
theorem strconv_Itoa.calls (a0 : Int) (r : ByteArray) (w : World) (hT : Tb w) (h : strconv_Itoa.f a0 = some r) : Calls Tryz.prog 67 #[.int .i64 a0] w fun e w' => e = .returned (.string r) ∧ Below w.heap.size w w' := by
  unfold strconv_Itoa.f at h
  split at h
  · rename_i hc
    cases h
    refine (Tryz.strconv_Itoa a0 hc.1 hc.2 w hT.pow).mono ?_
    rintro e w' ⟨rfl, k, os, rfl⟩
    exact ⟨rfl, Lib.below_grow _ _ (Nat.le_refl _) _ _⟩
  · cases h

def strings_Repeat.f (a0 : ByteArray) (a1 : Int) : Option ByteArray := if 0 ≤ a1 ∧ a1 ≤ 1000000 ∧ a0.size ≤ 1000000 then some ⟨(Lib.repeatL a0.data.toList a1.toNat).toArray⟩ else none
theorem strings_Repeat.calls (a0 : ByteArray) (a1 : Int) (r : ByteArray) (w : World) (_ : Tb w) (h : strings_Repeat.f a0 a1 = some r) : Calls Tryz.prog 109 #[.string a0, .int .i64 a1] w fun e w' => e = .returned (.string r) ∧ Below w.heap.size w w' := by
  unfold strings_Repeat.f at h
  split at h
  · rename_i hc
    cases h
    obtain ⟨c, rfl⟩ : ∃ c : Nat, a1 = (c : Int) := ⟨a1.toNat, by omega⟩
    have e : ((c : Int)).toNat = c := by omega
    rw [e]
    refine Tryz.strings_Repeat a0 c w (by omega) ?_
    have h1 : a0.size * c ≤ 1000000 * 1000000 := Nat.mul_le_mul hc.2.2 (by omega)
    omega
  · cases h

def strings_Join.f (l0 : List ByteArray) (a1 : ByteArray) : Option ByteArray := if l0.length ≤ 140737488355328 ∧ (Lib.join (l0.map (·.data.toList)) a1.data.toList).length ≤ 140737488355328 then some ⟨(Lib.join (l0.map (·.data.toList)) a1.data.toList).toArray⟩ else none
theorem strings_Join.calls (A0 : Option Addr) (c0 : Nat) (l0 : List ByteArray) (a1 : ByteArray) (r : ByteArray) (w : World) (_ : Tb w) (hr0 : Kd.C Kd.string w A0 l0.length l0) (hc0 : l0.length ≤ c0) (h : strings_Join.f l0 a1 = some r) : Calls Tryz.prog 113 #[.slice A0 l0.length c0, .string a1] w fun e w' => e = .returned (.string r) ∧ Below w.heap.size w w' := by
  unfold strings_Join.f at h
  split at h
  · rename_i hc
    cases h
    cases l0 with
    | nil => 
      refine (Tryz.strings_Join_none A0 c0 a1 w).mono ?_
      rintro e w' ⟨rfl, rfl⟩
      exact ⟨rfl, Below.refl _ _⟩
    | cons x0 xs =>
      obtain ⟨hl, _, hr⟩ := hr0
      obtain ⟨⟨bk, o, sp⟩, rfl, hr2⟩ := hr (by simp)
      have hcell : ∀ (j : Nat) x, (x0 :: xs)[j]? = some x → w.cell? (Addr.add ⟨bk, o, sp⟩ j) = some (.string x) := by
        intro j x hx
        obtain ⟨c, hc1, hc2, hc3⟩ := hr2 j x hx
        have hc2' : c = [Value.string x] := hc2
        subst hc2'
        have := hc3 0 _ rfl
        simpa [Kd.string, Kd.scalar] using this
      have h0 := hcell 0 x0 rfl
      have hsp : sp = none := by
        cases sp with
        | none => rfl
        | some k =>
          simp only [Addr.add, World.cell?] at h0
          split at h0 <;> simp at h0
      subst hsp
      have hbk : bk < w.heap.size := by
        have := World.block_lt_of_cell? w ⟨bk, o, none⟩ h0
        exact this
      refine Tryz.strings_Join bk o c0 (x0 :: xs) a1 w ?_ hbk hc.1 hc0 hc.2
      intro j x hx
      have := hcell j x hx
      unfold Addr.add at this
      split at this
      · rename_i hj; subst hj; exact this
      · exact this
  · cases h

def isDig (b : UInt8) : Bool := decide (48 ≤ b.toNat) && decide (b.toNat ≤ 57)
def numL (l : List UInt8) : Int := l.foldl (fun n b => 10 * n + ((b.toNat : Int) - 48)) 0
def cal_digits.f (a0 : ByteArray) (a1 : Int) : Option (Int × Bool) := if (a0.size : Int) = a1 then (if a0.data.toList.all isDig = true then (if 1 ≤ a0.size ∧ a0.size ≤ 18 then some (numL a0.data.toList, true) else none) else (if a0.size ≤ 1000 then some (0, false) else none)) else some (0, false)
theorem isDig_set (b : UInt8) : [48, 49, 50, 51, 52, 53, 54, 55, 56, 57].contains b = isDig b := by
  have : ∀ n : Fin 256, ([48, 49, 50, 51, 52, 53, 54, 55, 56, 57] : List UInt8).contains ⟨⟨n⟩⟩ = isDig ⟨⟨n⟩⟩ := by set_option maxRecDepth 100000 in decide
  exact this b.toBitVec.toFin
theorem dropWhile_none {p : UInt8 → Bool} {l : List UInt8} : l.dropWhile p = [] ↔ l.all p = true := by
  induction l with
  | nil => simp
  | cons a t ih =>
    cases h : p a with
    | true => simp [h, ih]
    | false => simp [h]
theorem trim_digits (l : List UInt8) : Lib.trimS l [48, 49, 50, 51, 52, 53, 54, 55, 56, 57] = [] ↔ l.all isDig = true := by
  have e : (fun b => ([48, 49, 50, 51, 52, 53, 54, 55, 56, 57] : List UInt8).contains b) = isDig := funext isDig_set
  unfold Lib.trimS Lib.trimLeftS Lib.trimRightS
  rw [e, dropWhile_none]
  constructor
  · intro h
    have h2 : (l.reverse.dropWhile isDig) = [] := by
      cases hd : l.reverse.dropWhile isDig with
      | nil => rfl
      | cons a t =>
        rw [hd] at h
        have ha : isDig a = true := by
          have := List.all_eq_true.1 h a (by simp)
          exact this
        have hz := List.head?_dropWhile_not isDig l.reverse
        rw [hd] at hz
        simp [ha] at hz
    rw [dropWhile_none] at h2
    simpa using h2
  · intro h
    have h2 : (l.reverse.dropWhile isDig) = [] := by rw [dropWhile_none]; simpa using h
    rw [h2]; rfl
theorem digitVal_dig {b : UInt8} (h : isDig b = true) : Lib.digitVal b = some (b.toNat - 48) := by
  simp only [isDig, Bool.and_eq_true, decide_eq_true_eq] at h
  unfold Lib.digitVal
  simp [h.1, h.2]
theorem decFrom_all (l : List UInt8) : ∀ acc : Nat, l.all isDig = true → Lib.decFrom acc l = some (l.foldl (fun n b => 10 * n + ((b.toNat : Int) - 48)) (acc : Int)).toNat ∧ 0 ≤ l.foldl (fun n b => 10 * n + ((b.toNat : Int) - 48)) (acc : Int) := by
  induction l with
  | nil => intro acc _; simp [Lib.decFrom]
  | cons a t ih =>
    intro acc h
    simp only [List.all_cons, Bool.and_eq_true] at h
    have hd := h.1
    simp only [isDig, Bool.and_eq_true, decide_eq_true_eq] at hd
    have e : 10 * (acc : Int) + ((a.toNat : Int) - 48) = ((acc * 10 + (a.toNat - 48) : Nat) : Int) := by omega
    simp only [Lib.decFrom, digitVal_dig h.1, List.foldl_cons]
    rw [e]
    exact ih _ h.2
theorem atoi_dig (l : List UInt8) (h : l.all isDig = true) (hl : l ≠ []) : Lib.atoi l = some (numL l) := by
  cases l with
  | nil => exact absurd rfl hl
  | cons a t =>
    have h0 := h
    simp only [List.all_cons, Bool.and_eq_true] at h
    have hd := h.1
    simp only [isDig, Bool.and_eq_true, decide_eq_true_eq] at hd
    have h1 : (a == 45) = false := by
      rw [beq_eq_false_iff_ne]; rintro rfl; simp at hd
    have h2 : (a == 43) = false := by
      rw [beq_eq_false_iff_ne]; rintro rfl; simp at hd
    have := decFrom_all (a :: t) 0 h0
    simp only [Lib.atoi, h1, h2, Lib.decNat]
    simp only [List.isEmpty_cons, Bool.false_eq_true, if_false]
    rw [this.1]
    have h3 := this.2
    simp only [Option.map_some, Option.some.injEq]
    unfold numL
    simp only [Int.ofNat_zero] at h3 ⊢
    omega
theorem numL_nonneg (l : List UInt8) (h : l.all isDig = true) : 0 ≤ numL l := (decFrom_all l 0 h).2

theorem cal_digits.calls (a0 : ByteArray) (a1 : Int) (r1 : Int) (r2 : Bool) (w : World) (_ : Tb w) (h : cal_digits.f a0 a1 = some (r1, r2)) : Calls Tryz.prog 107 #[.string a0, .int .i64 a1] w fun e w' => e = .returned (.tuple #[.int .i64 r1, .bool r2]) ∧ Below w.heap.size w w' := by
  unfold cal_digits.f at h
  by_cases c1 : (a0.size : Int) = a1
  · rw [if_pos c1] at h
    subst c1
    by_cases c2 : a0.data.toList.all isDig = true
    · rw [if_pos c2] at h
      split at h
      · rename_i c3
        cases h
        have ht := (Any.strings_Trim_laid Tryz.lays160 (by kernel_rfl) a0 ⟨#[48, 49, 50, 51, 52, 53, 54, 55, 56, 57]⟩ w (by omega) (by decide) (ascii_of_all (by decide)))
        rw [(trim_digits a0.data.toList).2 c2] at ht
        have HA := Lib.hid (Tryz.strconv_Atoi a0 _ c3.2 (atoi_dig _ c2 (by intro e; have : a0.size = 0 := by rw [← ByteArray.size_data, ← Array.length_toList, e]; rfl
                                                                           omega)))
        have HT := Lib.hid ht
        clear ht c2 c3
        go_enter Tryz.func107, Tryz.ntmps107
        go_wp2_with (fail)
        refine (HT.out).mono ?_
        rintro e w1 ⟨rfl, hb⟩
        go_wp2_with (fail)
        refine (HA.out _).mono ?_
        rintro e w2 ⟨rfl, t, rfl⟩
        go_wp2_with (fail)
        go_region
        all_goals
          go_wp2_with (fail)
          refine bodyPost_ret (results_tmp2 rfl _ _ _) rfl ?_
          exact ⟨rfl, (Bel.call hb (Lib.bytesWorld_below _ _ _)).drew⟩
      · cases h
    · rw [if_neg c2] at h
      split at h
      · rename_i c3
        cases h
        have ht := (Any.strings_Trim_laid Tryz.lays160 (by kernel_rfl) a0 ⟨#[48, 49, 50, 51, 52, 53, 54, 55, 56, 57]⟩ w (by omega) (by decide) (ascii_of_all (by decide)))
        have hne : Lib.trimS a0.data.toList [48, 49, 50, 51, 52, 53, 54, 55, 56, 57] ≠ [] := fun e => c2 ((trim_digits _).1 e)
        obtain ⟨t, he⟩ : ∃ t, Lib.trimS a0.data.toList [48, 49, 50, 51, 52, 53, 54, 55, 56, 57] = t := ⟨_, rfl⟩
        have ht2 : Calls Tryz.prog 124 #[.string a0, .string ⟨#[48, 49, 50, 51, 52, 53, 54, 55, 56, 57]⟩] w fun e w' => e = .returned (.string ⟨t.toArray⟩) ∧ Below w.heap.size w w' := by rw [← he]; exact ht
        rw [he] at hne
        have hs : t.isEmpty = false := by cases t; exact absurd rfl hne; rfl
        have HT := Lib.hid ht2
        clear ht ht2 he hne c2
        go_enter Tryz.func107, Tryz.ntmps107
        go_wp2_with (fail)
        refine (HT.out).mono ?_
        rintro e w1 ⟨rfl, hb⟩
        go_wp2_with (fail)
        go_ret2
        exact ⟨rfl, hb⟩
      · cases h
  · rw [if_neg c1] at h
    cases h
    have hs : ((a0.size : Int) != a1) = true := by rw [bne_iff_ne]; exact c1
    clear c1
    go_enter Tryz.func107, Tryz.ntmps107
    go_wp2_with (fail)
    go_ret2
    exact ⟨rfl, Below.refl _ _⟩
end Go.Proofs.YteobeikcakoaaaaGreatDoor.Given

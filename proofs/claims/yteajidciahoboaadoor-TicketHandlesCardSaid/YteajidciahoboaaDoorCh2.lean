import Derived.Shelf.Strings.Builder1
import Derived.Shelf.Strings.Builder2
import Derived.Shelf.Strings.OnBuilder
import Derived.Shelf.Strings.Trim
import Derived.Shelf.Small.Utf8
import Derived.Shelf.Small.Strs
import Derived.Shelf.Small.Wraps
import Derived.Shelf.Strings.BuilderF
import Derived.Shelf.Strings.BuilderK
import Derived.Shelf.Strings.Builder2Cap
import Derived.Shelf.Strings.Search1
import Derived.Shelf.Strings.Prefix
import Derived.Shelf.Strings.Runes
import Derived.Shelf.Strings.AsciiSet
import Derived.Shelf.Bits.Mul64
import Derived.Shelf.Strings.Repeat
import Derived.Shelf.Unicode.DecodeSlow
import Derived.Shelf.Unicode.DecodeAny
import Derived.Shelf.Strings.BuilderCap
import Derived.Test.YteajidciahoboaaDoorProg
import Derived.Test.YteajidciahoboaaDoorCh1
import Derived.Laws.IdiomCopy
-- Sh
/-
  DERIVED: THE SHELF's CONTRACTS AT THIS DUMP, IN PLAIN WORDS (tools/lay-plain.mjs out of 'TrydShelf.lean', which tools/lay-shelf.mjs wrote): THE SAME DECLARATIONS UNDER THE SAME NAMES: 'import', 'namespace', 'open', 'def', 'theorem' AND NOTHING ELSE: no command of the shelf's: FOR A HAND-IN. Each laying: the table of numbers ('.._ren') and one theorem, a field a fact of the dump's own or the kernel's comparison; each contract: ONE APPLICATION.
-/
namespace Go.Proofs
open Go.Shelf
def Tryd.lays170_ren : Go.Shelf.Ren := ⟨fun | 170 => 99 | n => n, fun | 70 => 84 | 3 => 3 | 0 => 0 | 72 => 86 | 37 => 36 | 5 => 5 | n => n, fun | n => n⟩
theorem Tryd.lays170 : Go.Proofs.Lays.n170 Tryd.prog Tryd.lays170_ren := {
  mixed := by kernel_rfl
  f170 := Tryd.func99.trans (congrArg some (by kernel_rfl))
  t0 := Tryd.underlying0
  a0 := Tryd.isAgg0
  z0 := Tryd.sizeOf0
  v0 := Tryd.zeroValue0
  t3 := Tryd.underlying3
  a3 := Tryd.isAgg3
  z3 := Tryd.sizeOf3
  v3 := Tryd.zeroValue3
  t37 := Tryd.underlying36
  a37 := Tryd.isAgg36
  z37 := Tryd.sizeOf36
  v37 := Tryd.zeroValue36
  t70 := Tryd.underlying84
  a70 := Tryd.isAgg84
  z70 := Tryd.sizeOf84
  v70 := Tryd.zeroValue84
  t72 := Tryd.underlying86
  a72 := Tryd.isAgg86
  z72 := Tryd.sizeOf86
  v72 := Tryd.zeroValue86 }
open Go.RowKit in
/-- (*strings.Builder).Len: "Len returns the number of accumulated bytes; b.Len() == len(b.String()).": the world is as it was. (LAID: no walk: one application.) -/
theorem Tryd.Builder_Len (B b : Nat) (bs : List Value) (w : World) (h : Lib.IsBuilder 86 5 B b bs w) :
    Calls Tryd.prog 99 #[.pointer (some ⟨b, 0, none⟩)] w fun e w' => e = .returned (.int .i64 bs.length) ∧ w' = w := Any.Builder_Len Tryd.lays170 B b bs w h
def Tryd.lays169_ren : Go.Shelf.Ren := ⟨fun | 169 => 56 | n => n, fun | 70 => 84 | 9 => 9 | 0 => 0 | 72 => 86 | 37 => 36 | 127 => 126 | 3 => 3 | 5 => 5 | n => n, fun | n => n⟩
theorem Tryd.lays169 : Go.Proofs.Lays.n169 Tryd.prog Tryd.lays169_ren := {
  mixed := by kernel_rfl
  f169 := Tryd.func56.trans (congrArg some (by kernel_rfl))
  t0 := Tryd.underlying0
  a0 := Tryd.isAgg0
  z0 := Tryd.sizeOf0
  v0 := Tryd.zeroValue0
  t3 := Tryd.underlying3
  a3 := Tryd.isAgg3
  z3 := Tryd.sizeOf3
  v3 := Tryd.zeroValue3
  t9 := Tryd.underlying9
  a9 := Tryd.isAgg9
  z9 := Tryd.sizeOf9
  v9 := Tryd.zeroValue9
  t37 := Tryd.underlying36
  a37 := Tryd.isAgg36
  z37 := Tryd.sizeOf36
  v37 := Tryd.zeroValue36
  t70 := Tryd.underlying84
  a70 := Tryd.isAgg84
  z70 := Tryd.sizeOf84
  v70 := Tryd.zeroValue84
  t72 := Tryd.underlying86
  a72 := Tryd.isAgg86
  z72 := Tryd.sizeOf86
  v72 := Tryd.zeroValue86
  t127 := Tryd.underlying126
  a127 := Tryd.isAgg126
  z127 := Tryd.sizeOf126
  v127 := Tryd.zeroValue126 }
theorem Tryd.Builder_Extra_169 : Builder.Extra Tryd.prog Tryd.lays169_ren := {
  sizeBuilder := by kernel_rfl
  liesBuilder := by kernel_rfl
  t5 := Tryd.underlying5
  a5 := Tryd.isAgg5
  z5 := Tryd.sizeOf5
  v5 := Tryd.zeroValue5
  infoByte := by kernel_rfl
  cellsByte := by kernel_rfl
  sizeByte := by kernel_rfl
  neB5 := by decide }
open Go.RowKit in
/-- (*strings.Builder).String: "String returns the accumulated string.": OF A BUILDER THAT HOLDS AT LEAST ONE BYTE. ✋ THE MODEL FREEZES THOSE BYTES IN THE BUFFER (unsafe.String): a later write INTO them ends the model's run without an answer; a later append BEHIND them goes on. The statement's order of evaluation is drawn: one draw. (LAID: no walk: one application.) -/
theorem Tryd.Builder_String (B b : Nat) (l : List UInt8) (w : World) (h : Lib.IsBuilder 86 5 B b (Lib.byteCells l) w) (h0 : l ≠ []) :
    Calls Tryd.prog 56 #[.pointer (some ⟨b, 0, none⟩)] w fun e w' => e = .returned (.string ⟨l.toArray⟩) ∧ Below B w w' := Any.Builder_String Tryd.lays169 Tryd.Builder_Extra_169 B b l w h h0
open Go.RowKit in
/-- (*strings.Builder).String OF A BUILDER THAT HOLDS NO BYTE: the empty string. (Its buffer is nil, or a row of which it has taken nothing yet; where that row has NO capacity the model lays one new block for unsafe.SliceData's 'some address'.) One draw. (LAID: no walk: one application.) -/
theorem Tryd.Builder_String_empty (B b : Nat) (w : World) (h : Lib.IsBuilder 86 5 B b [] w) (hBw : B ≤ w.heap.size) :
    Calls Tryd.prog 56 #[.pointer (some ⟨b, 0, none⟩)] w fun e w' => e = .returned (.string ⟨#[]⟩) ∧ Below B w w' := Any.Builder_String_empty Tryd.lays169 Tryd.Builder_Extra_169 B b w h hBw
open Go.RowKit in
/-- (*strings.Builder).String: "String returns the accumulated string.": WHATEVER THE BUILDER HOLDS. (LAID: no walk: one application.) -/
theorem Tryd.Builder_String_any (B b : Nat) (l : List UInt8) (w : World) (h : Lib.IsBuilder 86 5 B b (Lib.byteCells l) w) (hBw : B ≤ w.heap.size) :
    Calls Tryd.prog 56 #[.pointer (some ⟨b, 0, none⟩)] w fun e w' => e = .returned (.string ⟨l.toArray⟩) ∧ Below B w w' := Any.Builder_String_any Tryd.lays169 Tryd.Builder_Extra_169 B b l w h hBw
def Tryd.lays241_ren : Go.Shelf.Ren := ⟨fun | 241 => 107 | 277 => 114 | n => n, fun | 70 => 84 | 3 => 3 | 0 => 0 | 72 => 86 | 37 => 36 | 5 => 5 | n => n, fun | n => n⟩
theorem Tryd.lays241 : Go.Proofs.Lays.n241 Tryd.prog Tryd.lays241_ren := {
  mixed := by kernel_rfl
  f241 := Tryd.func107.trans (congrArg some (by kernel_rfl))
  f277 := Tryd.func114.trans (congrArg some (by kernel_rfl))
  t0 := Tryd.underlying0
  a0 := Tryd.isAgg0
  z0 := Tryd.sizeOf0
  v0 := Tryd.zeroValue0
  t3 := Tryd.underlying3
  a3 := Tryd.isAgg3
  z3 := Tryd.sizeOf3
  v3 := Tryd.zeroValue3
  t37 := Tryd.underlying36
  a37 := Tryd.isAgg36
  z37 := Tryd.sizeOf36
  v37 := Tryd.zeroValue36
  t70 := Tryd.underlying84
  a70 := Tryd.isAgg84
  z70 := Tryd.sizeOf84
  v70 := Tryd.zeroValue84
  t72 := Tryd.underlying86
  a72 := Tryd.isAgg86
  z72 := Tryd.sizeOf86
  v72 := Tryd.zeroValue86 }
theorem Tryd.Builder_Extra_241 : Builder.Extra Tryd.prog Tryd.lays241_ren := {
  sizeBuilder := by kernel_rfl
  liesBuilder := by kernel_rfl
  t5 := Tryd.underlying5
  a5 := Tryd.isAgg5
  z5 := Tryd.sizeOf5
  v5 := Tryd.zeroValue5
  infoByte := by kernel_rfl
  cellsByte := by kernel_rfl
  sizeByte := by kernel_rfl
  neB5 := by decide }
open Go.RowKit in
/-- (*strings.Builder).grow (no doc but "grow copies the buffer to a new, larger buffer so that there are at least n bytes of capacity beyond len(b.buf)."): AT A BUILDER WITHOUT A BUFFER: a new row of whatever bytes for its buffer, none of them its own yet. Three draws. (LAID: no walk: one application.) -/
theorem Tryd.Builder_grow_fresh (B b n : Nat) (w : World) (hB : B ≤ b) (hbk : w.heap[b]? = some (.cells #[.pointer (some ⟨b, 0, none⟩), .slice none 0 0] 86 (0, 0))) (hBw : B ≤ w.heap.size) (hn : n ≤ 281474976710656) :
    Calls Tryd.prog 107 #[.pointer (some ⟨b, 0, none⟩), .int .i64 n] w fun e w' => e = .returned (.tuple #[]) ∧ (Lib.BuilderAt 86 5 B b (.pointer (some ⟨b, 0, none⟩)) [] w' ∧ Below B w w') := Any.Builder_grow_fresh Tryd.lays241 Tryd.Builder_Extra_241 B b n w hB hbk hBw hn
def Tryd.lays165_ren : Go.Shelf.Ren := ⟨fun | 165 => 95 | 240 => 83 | 241 => 107 | 276 => 100 | 277 => 114 | n => n, fun | 70 => 84 | 3 => 3 | 0 => 0 | 4 => 4 | 9 => 9 | 20 => 20 | 72 => 86 | 37 => 36 | 164 => 143 | 5 => 5 | n => n, fun | n => n⟩
theorem Tryd.lays165 : Go.Proofs.Lays.n165 Tryd.prog Tryd.lays165_ren := {
  mixed := by kernel_rfl
  f165 := Tryd.func95.trans (congrArg some (by kernel_rfl))
  f240 := Tryd.func83.trans (congrArg some (by kernel_rfl))
  f241 := Tryd.func107.trans (congrArg some (by kernel_rfl))
  f276 := Tryd.func100.trans (congrArg some (by kernel_rfl))
  f277 := Tryd.func114.trans (congrArg some (by kernel_rfl))
  t0 := Tryd.underlying0
  a0 := Tryd.isAgg0
  z0 := Tryd.sizeOf0
  v0 := Tryd.zeroValue0
  t3 := Tryd.underlying3
  a3 := Tryd.isAgg3
  z3 := Tryd.sizeOf3
  v3 := Tryd.zeroValue3
  t4 := Tryd.underlying4
  a4 := Tryd.isAgg4
  z4 := Tryd.sizeOf4
  v4 := Tryd.zeroValue4
  t9 := Tryd.underlying9
  a9 := Tryd.isAgg9
  z9 := Tryd.sizeOf9
  v9 := Tryd.zeroValue9
  t20 := Tryd.underlying20
  a20 := Tryd.isAgg20
  z20 := Tryd.sizeOf20
  v20 := Tryd.zeroValue20
  t37 := Tryd.underlying36
  a37 := Tryd.isAgg36
  z37 := Tryd.sizeOf36
  v37 := Tryd.zeroValue36
  t70 := Tryd.underlying84
  a70 := Tryd.isAgg84
  z70 := Tryd.sizeOf84
  v70 := Tryd.zeroValue84
  t72 := Tryd.underlying86
  a72 := Tryd.isAgg86
  z72 := Tryd.sizeOf86
  v72 := Tryd.zeroValue86
  t164 := Tryd.underlying143
  a164 := Tryd.isAgg143
  z164 := Tryd.sizeOf143
  v164 := Tryd.zeroValue143 }
theorem Tryd.Builder_Extra_165 : Builder.Extra Tryd.prog Tryd.lays165_ren := {
  sizeBuilder := by kernel_rfl
  liesBuilder := by kernel_rfl
  t5 := Tryd.underlying5
  a5 := Tryd.isAgg5
  z5 := Tryd.sizeOf5
  v5 := Tryd.zeroValue5
  infoByte := by kernel_rfl
  cellsByte := by kernel_rfl
  sizeByte := by kernel_rfl
  neB5 := by decide }
open Go.RowKit in
/-- (*strings.Builder).Grow AT A BUILDER THAT HAS NOT BEEN WRITTEN ('var b strings.Builder; b.Grow(n)'): "Grow grows b's capacity, if necessary, to guarantee space for another n bytes.": it holds no byte behind it as before it. (LAID: no walk: one application.) -/
theorem Tryd.Builder_Grow_fresh (B b n : Nat) (w : World) (hB : B ≤ b) (hbk : w.heap[b]? = some (.cells #[.pointer none, .slice none 0 0] 86 (0, 0))) (hBw : B ≤ w.heap.size) (hn : n ≤ 281474976710656) :
    Calls Tryd.prog 95 #[.pointer (some ⟨b, 0, none⟩), .int .i64 n] w fun e w' => e = .returned (.tuple #[]) ∧ (Lib.BuilderAt 86 5 B b (.pointer (some ⟨b, 0, none⟩)) [] w' ∧ Below B w w') := Any.Builder_Grow_fresh Tryd.lays165 Tryd.Builder_Extra_165 B b n w hB hbk hBw hn
def Tryd.lays156_ren : Go.Shelf.Ren := ⟨fun | 156 => 75 | 165 => 95 | 166 => 96 | 169 => 56 | 240 => 83 | 241 => 107 | 276 => 100 | 277 => 114 | n => n, fun | 31 => 114 | 9 => 9 | 3 => 3 | 4 => 4 | 0 => 0 | 20 => 20 | 72 => 86 | 76 => 139 | 70 => 84 | 37 => 36 | 75 => 94 | 127 => 126 | 164 => 143 | 5 => 5 | 80 => 96 | n => n, fun | n => n⟩
theorem Tryd.lays156 : Go.Proofs.Lays.n156 Tryd.prog Tryd.lays156_ren := {
  mixed := by kernel_rfl
  f156 := Tryd.func75.trans (congrArg some (by kernel_rfl))
  f165 := Tryd.func95.trans (congrArg some (by kernel_rfl))
  f166 := Tryd.func96.trans (congrArg some (by kernel_rfl))
  f169 := Tryd.func56.trans (congrArg some (by kernel_rfl))
  f240 := Tryd.func83.trans (congrArg some (by kernel_rfl))
  f241 := Tryd.func107.trans (congrArg some (by kernel_rfl))
  f276 := Tryd.func100.trans (congrArg some (by kernel_rfl))
  f277 := Tryd.func114.trans (congrArg some (by kernel_rfl))
  t0 := Tryd.underlying0
  a0 := Tryd.isAgg0
  z0 := Tryd.sizeOf0
  v0 := Tryd.zeroValue0
  t3 := Tryd.underlying3
  a3 := Tryd.isAgg3
  z3 := Tryd.sizeOf3
  v3 := Tryd.zeroValue3
  t4 := Tryd.underlying4
  a4 := Tryd.isAgg4
  z4 := Tryd.sizeOf4
  v4 := Tryd.zeroValue4
  t9 := Tryd.underlying9
  a9 := Tryd.isAgg9
  z9 := Tryd.sizeOf9
  v9 := Tryd.zeroValue9
  t20 := Tryd.underlying20
  a20 := Tryd.isAgg20
  z20 := Tryd.sizeOf20
  v20 := Tryd.zeroValue20
  t31 := Tryd.underlying114
  a31 := Tryd.isAgg114
  z31 := Tryd.sizeOf114
  v31 := Tryd.zeroValue114
  t37 := Tryd.underlying36
  a37 := Tryd.isAgg36
  z37 := Tryd.sizeOf36
  v37 := Tryd.zeroValue36
  t70 := Tryd.underlying84
  a70 := Tryd.isAgg84
  z70 := Tryd.sizeOf84
  v70 := Tryd.zeroValue84
  t72 := Tryd.underlying86
  a72 := Tryd.isAgg86
  z72 := Tryd.sizeOf86
  v72 := Tryd.zeroValue86
  t75 := Tryd.underlying94
  a75 := Tryd.isAgg94
  z75 := Tryd.sizeOf94
  v75 := Tryd.zeroValue94
  t76 := Tryd.underlying139
  a76 := Tryd.isAgg139
  z76 := Tryd.sizeOf139
  v76 := Tryd.zeroValue139
  t127 := Tryd.underlying126
  a127 := Tryd.isAgg126
  z127 := Tryd.sizeOf126
  v127 := Tryd.zeroValue126
  t164 := Tryd.underlying143
  a164 := Tryd.isAgg143
  z164 := Tryd.sizeOf143
  v164 := Tryd.zeroValue143 }
theorem Tryd.Builder_Extra_156 : Builder.Extra Tryd.prog Tryd.lays156_ren := {
  sizeBuilder := by kernel_rfl
  liesBuilder := by kernel_rfl
  t5 := Tryd.underlying5
  a5 := Tryd.isAgg5
  z5 := Tryd.sizeOf5
  v5 := Tryd.zeroValue5
  infoByte := by kernel_rfl
  cellsByte := by kernel_rfl
  sizeByte := by kernel_rfl
  neB5 := by decide }
open Go.RowKit in
/-- No element: the empty string; the world is as it was. (Whatever the slice's address and capacity: a nil slice too.) (LAID: no walk: one application.) -/
theorem Tryd.strings_Join_none (a : Option Addr) (c : Nat) (sep : ByteArray) (w : World) :
    Calls Tryd.prog 75 #[.slice a 0 c, .string sep] w fun e w' => e = .returned (.string ⟨#[]⟩) ∧ w' = w := Any.strings_Join_none Tryd.lays156 Tryd.Builder_Extra_156 a c sep w
open Go.RowKit in
/-- strings.Join: "Join concatenates the elements of its first argument to create a single string. The separator string sep is placed between elements in the resulting string.": HOWEVER MANY ELEMENTS. Below the heap's end the world is as it was. (LAID: no walk: one application.) -/
theorem Tryd.strings_Join (bk o c : Nat) (xs : List ByteArray) (sep : ByteArray) (w : World) (hcells : ∀ (j : Nat) x, xs[j]? = some x → w.cell? ⟨bk, o + j, none⟩ = some (.string x)) (hbk : bk < w.heap.size) (hN : xs.length ≤ 140737488355328) (hcap : xs.length ≤ c) (hlen : (Lib.join (xs.map (·.data.toList)) sep.data.toList).length ≤ 140737488355328) :
    Calls Tryd.prog 75 #[.slice (some ⟨bk, o, none⟩) xs.length c, .string sep] w fun e w' => e = .returned (.string ⟨(Lib.join (xs.map (·.data.toList)) sep.data.toList).toArray⟩) ∧ Below w.heap.size w w' := Any.strings_Join Tryd.lays156 Tryd.Builder_Extra_156 bk o c xs sep w hcells hbk hN hcap hlen
def Tryd.lays231_ren : Go.Shelf.Ren := ⟨fun | 231 => 67 | n => n, fun | 9 => 9 | 5 => 5 | 3 => 3 | 4 => 4 | n => n, fun | n => n⟩
theorem Tryd.lays231 : Go.Proofs.Lays.n231 Tryd.prog Tryd.lays231_ren := {
  mixed := by kernel_rfl
  f231 := Tryd.func67.trans (congrArg some (by kernel_rfl))
  t3 := Tryd.underlying3
  a3 := Tryd.isAgg3
  z3 := Tryd.sizeOf3
  v3 := Tryd.zeroValue3
  t4 := Tryd.underlying4
  a4 := Tryd.isAgg4
  z4 := Tryd.sizeOf4
  v4 := Tryd.zeroValue4
  t5 := Tryd.underlying5
  a5 := Tryd.isAgg5
  z5 := Tryd.sizeOf5
  v5 := Tryd.zeroValue5
  t9 := Tryd.underlying9
  a9 := Tryd.isAgg9
  z9 := Tryd.sizeOf9
  v9 := Tryd.zeroValue9 }
open Go.RowKit in
/-- strings.trimLeftByte (no doc; what TrimLeft and Trim call at a cutset of one ASCII byte): the leading bytes that are c are cut off. The world is as it was. (LAID: no walk: one application.) -/
theorem Tryd.strings_trimLeftByte (s : ByteArray) (c : UInt8) (w : World) :
    Calls Tryd.prog 67 #[.string s, .int .u8 c.toNat] w fun e w' => e = .returned (.string ⟨(Lib.trimLeftB s.data.toList c).toArray⟩) ∧ w' = w := Any.strings_trimLeftByte Tryd.lays231 s c w
def Tryd.lays161_ren : Go.Shelf.Ren := ⟨fun | 161 => 37 | 231 => 67 | 227 => 68 | 233 => 69 | 235 => 70 | 228 => 88 | 197 => 89 | 151 => 90 | 260 => 103 | 152 => 104 | 137 => 101 | 119 => 111 | 224 => 112 | 225 => 113 | 217 => 110 | 266 => 115 | n => n, fun | 9 => 9 | 4 => 4 | 3 => 3 | 5 => 5 | 117 => 106 | 116 => 105 | 0 => 0 | 124 => 109 | 105 => 131 | 21 => 21 | 119 => 151 | 46 => 91 | 139 => 154 | 138 => 153 | n => n, fun | 3 => 2 | 4 => 3 | n => n⟩
theorem Tryd.lays161 : Go.Proofs.Lays.n161 Tryd.prog Tryd.lays161_ren := {
  mixed := by kernel_rfl
  f119 := Tryd.func111.trans (congrArg some (by kernel_rfl))
  f137 := Tryd.func101.trans (congrArg some (by kernel_rfl))
  f151 := Tryd.func90.trans (congrArg some (by kernel_rfl))
  f152 := Tryd.func104.trans (congrArg some (by kernel_rfl))
  f161 := Tryd.func37.trans (congrArg some (by kernel_rfl))
  f197 := Tryd.func89.trans (congrArg some (by kernel_rfl))
  f217 := Tryd.func110.trans (congrArg some (by kernel_rfl))
  f224 := Tryd.func112.trans (congrArg some (by kernel_rfl))
  f225 := Tryd.func113.trans (congrArg some (by kernel_rfl))
  f227 := Tryd.func68.trans (congrArg some (by kernel_rfl))
  f228 := Tryd.func88.trans (congrArg some (by kernel_rfl))
  f231 := Tryd.func67.trans (congrArg some (by kernel_rfl))
  f233 := Tryd.func69.trans (congrArg some (by kernel_rfl))
  f235 := Tryd.func70.trans (congrArg some (by kernel_rfl))
  f260 := Tryd.func103.trans (congrArg some (by kernel_rfl))
  f266 := Tryd.func115.trans (congrArg some (by kernel_rfl))
  t0 := Tryd.underlying0
  a0 := Tryd.isAgg0
  z0 := Tryd.sizeOf0
  v0 := Tryd.zeroValue0
  t3 := Tryd.underlying3
  a3 := Tryd.isAgg3
  z3 := Tryd.sizeOf3
  v3 := Tryd.zeroValue3
  t4 := Tryd.underlying4
  a4 := Tryd.isAgg4
  z4 := Tryd.sizeOf4
  v4 := Tryd.zeroValue4
  t5 := Tryd.underlying5
  a5 := Tryd.isAgg5
  z5 := Tryd.sizeOf5
  v5 := Tryd.zeroValue5
  t9 := Tryd.underlying9
  a9 := Tryd.isAgg9
  z9 := Tryd.sizeOf9
  v9 := Tryd.zeroValue9
  t21 := Tryd.underlying21
  a21 := Tryd.isAgg21
  z21 := Tryd.sizeOf21
  v21 := Tryd.zeroValue21
  t46 := Tryd.underlying91
  a46 := Tryd.isAgg91
  z46 := Tryd.sizeOf91
  v46 := Tryd.zeroValue91
  t105 := Tryd.underlying131
  a105 := Tryd.isAgg131
  z105 := Tryd.sizeOf131
  v105 := Tryd.zeroValue131
  t116 := Tryd.underlying105
  a116 := Tryd.isAgg105
  z116 := Tryd.sizeOf105
  t117 := Tryd.underlying106
  a117 := Tryd.isAgg106
  z117 := Tryd.sizeOf106
  v117 := Tryd.zeroValue106
  t119 := Tryd.underlying151
  a119 := Tryd.isAgg151
  z119 := Tryd.sizeOf151
  t124 := Tryd.underlying109
  a124 := Tryd.isAgg109
  z124 := Tryd.sizeOf109
  v124 := Tryd.zeroValue109
  t138 := Tryd.underlying153
  a138 := Tryd.isAgg153
  z138 := Tryd.sizeOf153
  v138 := Tryd.zeroValue153
  t139 := Tryd.underlying154
  a139 := Tryd.isAgg154
  z139 := Tryd.sizeOf154
  v139 := Tryd.zeroValue154
  g3 := by kernel_rfl
  g4 := by kernel_rfl }
open Go.RowKit in
/-- strings.TrimLeft: "TrimLeft returns a slice of the string s with all leading Unicode code points contained in cutset removed.": AT A cutset OF ONE ASCII BYTE. The world is as it was. (LAID: no walk: one application.) -/
theorem Tryd.strings_TrimLeft_one (s : ByteArray) (c : UInt8) (hc : c.toNat < 128) (w : World) :
    Calls Tryd.prog 37 #[.string s, .string ⟨#[c]⟩] w fun e w' => e = .returned (.string ⟨(Lib.trimLeftB s.data.toList c).toArray⟩) ∧ w' = w := Any.strings_TrimLeft_one Tryd.lays161 s c hc w
def Tryd.lays119_ren : Go.Shelf.Ren := ⟨fun | 119 => 111 | n => n, fun | 21 => 21 | 4 => 4 | n => n, fun | n => n⟩
theorem Tryd.lays119 : Go.Proofs.Lays.n119 Tryd.prog Tryd.lays119_ren := {
  mixed := by kernel_rfl
  f119 := Tryd.func111.trans (congrArg some (by kernel_rfl))
  t4 := Tryd.underlying4
  a4 := Tryd.isAgg4
  z4 := Tryd.sizeOf4
  v4 := Tryd.zeroValue4
  t21 := Tryd.underlying21
  a21 := Tryd.isAgg21
  z21 := Tryd.sizeOf21
  v21 := Tryd.zeroValue21 }
/-- utf8.ValidRune: "ValidRune reports whether r can be legally encoded as UTF-8. Code points that are out of range or a surrogate half are illegal.": IT RETURNS 'Lib.validRune r'; the world is as it was. (LAID: no walk: one application.) -/
theorem Tryd.utf8_ValidRune (r : Int) (w : World) :
    Calls Tryd.prog 111 #[.int .i32 r] w fun e w' => e = .returned (.bool (Lib.validRune r)) ∧ w' = w := Any.utf8_ValidRune Tryd.lays119 r w
def Tryd.lays137_ren : Go.Shelf.Ren := ⟨fun | 137 => 101 | 217 => 110 | 266 => 115 | n => n, fun | 9 => 9 | 5 => 5 | 3 => 3 | n => n, fun | n => n⟩
theorem Tryd.lays137 : Go.Proofs.Lays.n137 Tryd.prog Tryd.lays137_ren := {
  mixed := by kernel_rfl
  f137 := Tryd.func101.trans (congrArg some (by kernel_rfl))
  f217 := Tryd.func110.trans (congrArg some (by kernel_rfl))
  f266 := Tryd.func115.trans (congrArg some (by kernel_rfl))
  t3 := Tryd.underlying3
  a3 := Tryd.isAgg3
  z3 := Tryd.sizeOf3
  v3 := Tryd.zeroValue3
  t5 := Tryd.underlying5
  a5 := Tryd.isAgg5
  z5 := Tryd.sizeOf5
  v5 := Tryd.zeroValue5
  t9 := Tryd.underlying9
  a9 := Tryd.isAgg9
  z9 := Tryd.sizeOf9
  v9 := Tryd.zeroValue9 }
open Go.RowKit in
/-- strings.IndexByte: "IndexByte returns the index of the first instance of c in s, or -1 if c is not present in s.": IT RETURNS 'Lib.indexByte s c'; the world is as it was. (LAID: no walk: one application.) -/
theorem Tryd.strings_IndexByte (s : ByteArray) (c : Int) (w : World) :
    Calls Tryd.prog 101 #[.string s, .int .u8 c] w fun e w' => e = .returned (.int .i64 (Lib.indexByte s.data.toList c.toNat.toUInt8)) ∧ w' = w := Any.strings_IndexByte Tryd.lays137 s c w
def Tryd.lays211_ren : Go.Shelf.Ren := ⟨fun | 211 => 102 | 207 => 85 | n => n, fun | 9 => 9 | 4 => 4 | 3 => 3 | n => n, fun | n => n⟩
theorem Tryd.lays211 : Go.Proofs.Lays.n211 Tryd.prog Tryd.lays211_ren := {
  mixed := by kernel_rfl
  f207 := Tryd.func85.trans (congrArg some (by kernel_rfl))
  f211 := Tryd.func102.trans (congrArg some (by kernel_rfl))
  t3 := Tryd.underlying3
  a3 := Tryd.isAgg3
  z3 := Tryd.sizeOf3
  v3 := Tryd.zeroValue3
  t4 := Tryd.underlying4
  a4 := Tryd.isAgg4
  z4 := Tryd.sizeOf4
  v4 := Tryd.zeroValue4
  t9 := Tryd.underlying9
  a9 := Tryd.isAgg9
  z9 := Tryd.sizeOf9
  v9 := Tryd.zeroValue9 }
open Go.RowKit in
/-- internal/stringslite.CutSuffix (what strings.CutSuffix calls). (LAID: no walk: one application.) -/
theorem Tryd.stringslite_CutSuffix (s p : ByteArray) (w : World) (hs : s.size ≤ 9223372036854775807) :
    Calls Tryd.prog 102 #[.string s, .string p] w fun e w' => e = .returned (.tuple #[.string ⟨(Lib.trimSuffix s.data.toList p.data.toList).toArray⟩, .bool (Lib.hasSuffix s.data.toList p.data.toList)]) ∧ w' = w := Any.stringslite_CutSuffix Tryd.lays211 s p w hs
def Tryd.lays104_ren : Go.Shelf.Ren := ⟨fun | 104 => 87 | 211 => 102 | 207 => 85 | n => n, fun | 9 => 9 | 4 => 4 | 24 => 128 | 3 => 3 | n => n, fun | n => n⟩
theorem Tryd.lays104 : Go.Proofs.Lays.n104 Tryd.prog Tryd.lays104_ren := {
  mixed := by kernel_rfl
  f104 := Tryd.func87.trans (congrArg some (by kernel_rfl))
  f207 := Tryd.func85.trans (congrArg some (by kernel_rfl))
  f211 := Tryd.func102.trans (congrArg some (by kernel_rfl))
  t3 := Tryd.underlying3
  a3 := Tryd.isAgg3
  z3 := Tryd.sizeOf3
  v3 := Tryd.zeroValue3
  t4 := Tryd.underlying4
  a4 := Tryd.isAgg4
  z4 := Tryd.sizeOf4
  v4 := Tryd.zeroValue4
  t9 := Tryd.underlying9
  a9 := Tryd.isAgg9
  z9 := Tryd.sizeOf9
  v9 := Tryd.zeroValue9
  t24 := Tryd.underlying128
  a24 := Tryd.isAgg128
  z24 := Tryd.sizeOf128
  v24 := Tryd.zeroValue128 }
open Go.RowKit in
/-- strings.CutSuffix: "CutSuffix returns s without the provided ending suffix string and reports whether it found the suffix. If s doesn't end with suffix, CutSuffix returns s, false. If suffix is the empty string, CutSuffix returns s, true.": IT RETURNS '(Lib.trimSuffix s p, Lib.hasSuffix s p)'; the world is as it was. (LAID: no walk: one application.) -/
theorem Tryd.strings_CutSuffix (s p : ByteArray) (w : World) (hs : s.size ≤ 9223372036854775807) :
    Calls Tryd.prog 87 #[.string s, .string p] w fun e w' => e = .returned (.tuple #[.string ⟨(Lib.trimSuffix s.data.toList p.data.toList).toArray⟩, .bool (Lib.hasSuffix s.data.toList p.data.toList)]) ∧ w' = w := Any.strings_CutSuffix Tryd.lays104 s p w hs
open Go.RowKit in
/-- (*strings.Builder).Len: "Len returns the number of accumulated bytes; b.Len() == len(b.String()).": the world is as it was. (THE FORM '_f': 'Lib.IsBuilderF'.) (LAID: no walk: one application.) -/
theorem Tryd.Builder_Len_f (B b : Nat) (bs : List Value) (w : World) (h : Lib.IsBuilderF 86 5 B b bs w) :
    Calls Tryd.prog 99 #[.pointer (some ⟨b, 0, none⟩)] w fun e w' => e = .returned (.int .i64 bs.length) ∧ w' = w := Any.Builder_Len_f Tryd.lays170 B b bs w h
open Go.RowKit in
/-- (*strings.Builder).String: "String returns the accumulated string.": OF A BUILDER THAT HOLDS AT LEAST ONE BYTE. ✋ THE MODEL FREEZES THOSE BYTES IN THE BUFFER (unsafe.String): a later write INTO them ends the model's run without an answer; a later append BEHIND them goes on. The statement's order of evaluation is drawn: one draw. THE FORM '_f': IT SAYS BESIDES THAT THE BUILDER IS A BUILDER STILL ('Lib.IsBuilderF', the same bytes): SO IT CAN BE WRITTEN ON: 'b.WriteString(b.String()[:k])'. (LAID: no walk: one application.) -/
theorem Tryd.Builder_String_f (B b : Nat) (l : List UInt8) (w : World) (h : Lib.IsBuilderF 86 5 B b (Lib.byteCells l) w) (h0 : l ≠ []) :
    Calls Tryd.prog 56 #[.pointer (some ⟨b, 0, none⟩)] w fun e w' => e = .returned (.string ⟨l.toArray⟩) ∧ (Lib.IsBuilderF 86 5 B b (Lib.byteCells l) w' ∧ Below B w w') := Any.Builder_String_f Tryd.lays169 Tryd.Builder_Extra_169 B b l w h h0
open Go.RowKit in
/-- (*strings.Builder).String OF A BUILDER THAT HOLDS NO BYTE: the empty string; THE FORM '_f': a builder still. (LAID: no walk: one application.) -/
theorem Tryd.Builder_String_empty_f (B b : Nat) (w : World) (h : Lib.IsBuilderF 86 5 B b [] w) (hBw : B ≤ w.heap.size) :
    Calls Tryd.prog 56 #[.pointer (some ⟨b, 0, none⟩)] w fun e w' => e = .returned (.string ⟨#[]⟩) ∧ (Lib.IsBuilderF 86 5 B b [] w' ∧ Below B w w') := Any.Builder_String_empty_f Tryd.lays169 Tryd.Builder_Extra_169 B b w h hBw
open Go.RowKit in
/-- (*strings.Builder).String: "String returns the accumulated string.": WHATEVER THE BUILDER HOLDS; THE FORM '_f': OF A BUILDER THAT MAY HAVE BEEN READ BEFORE; AND IT IS A BUILDER STILL, holding the same bytes: it can be written on. (LAID: no walk: one application.) -/
theorem Tryd.Builder_String_any_f (B b : Nat) (l : List UInt8) (w : World) (h : Lib.IsBuilderF 86 5 B b (Lib.byteCells l) w) (hBw : B ≤ w.heap.size) :
    Calls Tryd.prog 56 #[.pointer (some ⟨b, 0, none⟩)] w fun e w' => e = .returned (.string ⟨l.toArray⟩) ∧ (Lib.IsBuilderF 86 5 B b (Lib.byteCells l) w' ∧ Below B w w') := Any.Builder_String_any_f Tryd.lays169 Tryd.Builder_Extra_169 B b l w h hBw
open Go.RowKit in
/-- (*strings.Builder).String: "String returns the accumulated string.": OF A BUILDER THAT HOLDS AT LEAST ONE BYTE. ✋ THE MODEL FREEZES THOSE BYTES IN THE BUFFER (unsafe.String): a later write INTO them ends the model's run without an answer; a later append BEHIND them goes on. The statement's order of evaluation is drawn: one draw. THE FORM '_k': OVER 'Lib.IsBuilderF' (a builder that 'String()' may have read), AND WITH THE FRAME THAT REACHES ABOVE THE BUILDER: 'Lib.OthersKept': every block that is not b and is no row of uint8's stands as it stood: the iterator of a range among them. (LAID: no walk: one application.) -/
theorem Tryd.Builder_String_k (B b : Nat) (l : List UInt8) (w : World) (h : Lib.IsBuilderF 86 5 B b (Lib.byteCells l) w) (h0 : l ≠ []) :
    Calls Tryd.prog 56 #[.pointer (some ⟨b, 0, none⟩)] w fun e w' => e = .returned (.string ⟨l.toArray⟩) ∧ (Lib.IsBuilderF 86 5 B b (Lib.byteCells l) w' ∧ Below B w w' ∧ Lib.OthersKept 5 (some b) w w') := Any.Builder_String_k Tryd.lays169 Tryd.Builder_Extra_169 B b l w h h0
open Go.RowKit in
/-- (*strings.Builder).String OF A BUILDER THAT HOLDS NO BYTE: the empty string; THE FORM '_k': OVER 'Lib.IsBuilderF' (a builder that 'String()' may have read), AND WITH THE FRAME THAT REACHES ABOVE THE BUILDER: 'Lib.OthersKept': every block that is not b and is no row of uint8's stands as it stood: the iterator of a range among them. (LAID: no walk: one application.) -/
theorem Tryd.Builder_String_empty_k (B b : Nat) (w : World) (h : Lib.IsBuilderF 86 5 B b [] w) (hBw : B ≤ w.heap.size) :
    Calls Tryd.prog 56 #[.pointer (some ⟨b, 0, none⟩)] w fun e w' => e = .returned (.string ⟨#[]⟩) ∧ (Lib.IsBuilderF 86 5 B b [] w' ∧ Below B w w' ∧ Lib.OthersKept 5 (some b) w w') := Any.Builder_String_empty_k Tryd.lays169 Tryd.Builder_Extra_169 B b w h hBw
open Go.RowKit in
/-- (*strings.Builder).String: "String returns the accumulated string.": WHATEVER THE BUILDER HOLDS; THE FORM '_k': OVER 'Lib.IsBuilderF' (a builder that 'String()' may have read), AND WITH THE FRAME THAT REACHES ABOVE THE BUILDER: 'Lib.OthersKept': every block that is not b and is no row of uint8's stands as it stood: the iterator of a range among them. (LAID: no walk: one application.) -/
theorem Tryd.Builder_String_any_k (B b : Nat) (l : List UInt8) (w : World) (h : Lib.IsBuilderF 86 5 B b (Lib.byteCells l) w) (hBw : B ≤ w.heap.size) :
    Calls Tryd.prog 56 #[.pointer (some ⟨b, 0, none⟩)] w fun e w' => e = .returned (.string ⟨l.toArray⟩) ∧ (Lib.IsBuilderF 86 5 B b (Lib.byteCells l) w' ∧ Below B w w' ∧ Lib.OthersKept 5 (some b) w w') := Any.Builder_String_any_k Tryd.lays169 Tryd.Builder_Extra_169 B b l w h hBw
open Go.RowKit in
/-- (*strings.Builder).grow (no doc but "grow copies the buffer to a new, larger buffer so that there are at least n bytes of capacity beyond len(b.buf)."): AT A BUILDER WITHOUT A BUFFER: a new row of whatever bytes for its buffer, none of them its own yet. Three draws. (LAID: no walk: one application.) -/
theorem Tryd.Builder_grow_fresh_cap (B b n : Nat) (w : World) (hB : B ≤ b) (hbk : w.heap[b]? = some (.cells #[.pointer (some ⟨b, 0, none⟩), .slice none 0 0] 86 (0, 0))) (hBw : B ≤ w.heap.size) (hn : n ≤ 281474976710656) :
    Calls Tryd.prog 107 #[.pointer (some ⟨b, 0, none⟩), .int .i64 n] w fun e w' => e = .returned (.tuple #[]) ∧ (Lib.BuilderAt 86 5 B b (.pointer (some ⟨b, 0, none⟩)) [] w' ∧ Below B w w') ∧ ∃ p cap, w'.cell? ⟨b, 1, none⟩ = some (.slice p 0 cap) ∧ n ≤ cap := Any.Builder_grow_fresh_cap Tryd.lays241 Tryd.Builder_Extra_241 B b n w hB hbk hBw hn
open Go.RowKit in
/-- (*strings.Builder).Grow AT A BUILDER THAT HAS NOT BEEN WRITTEN ('var b strings.Builder; b.Grow(n)'): "Grow grows b's capacity, if necessary, to guarantee space for another n bytes.": it holds no byte behind it as before it. (LAID: no walk: one application.) -/
theorem Tryd.Builder_Grow_fresh_cap (B b n : Nat) (w : World) (hB : B ≤ b) (hbk : w.heap[b]? = some (.cells #[.pointer none, .slice none 0 0] 86 (0, 0))) (hBw : B ≤ w.heap.size) (hn : n ≤ 281474976710656) :
    Calls Tryd.prog 95 #[.pointer (some ⟨b, 0, none⟩), .int .i64 n] w fun e w' => e = .returned (.tuple #[]) ∧ (Lib.BuilderAt 86 5 B b (.pointer (some ⟨b, 0, none⟩)) [] w' ∧ Below B w w') ∧ ∃ p cap, w'.cell? ⟨b, 1, none⟩ = some (.slice p 0 cap) ∧ n ≤ cap := Any.Builder_Grow_fresh_cap Tryd.lays165 Tryd.Builder_Extra_165 B b n w hB hbk hBw hn
def Tryd.lays217_ren : Go.Shelf.Ren := ⟨fun | 217 => 110 | 266 => 115 | n => n, fun | 9 => 9 | 5 => 5 | 3 => 3 | n => n, fun | n => n⟩
theorem Tryd.lays217 : Go.Proofs.Lays.n217 Tryd.prog Tryd.lays217_ren := {
  mixed := by kernel_rfl
  f217 := Tryd.func110.trans (congrArg some (by kernel_rfl))
  f266 := Tryd.func115.trans (congrArg some (by kernel_rfl))
  t3 := Tryd.underlying3
  a3 := Tryd.isAgg3
  z3 := Tryd.sizeOf3
  v3 := Tryd.zeroValue3
  t5 := Tryd.underlying5
  a5 := Tryd.isAgg5
  z5 := Tryd.sizeOf5
  v5 := Tryd.zeroValue5
  t9 := Tryd.underlying9
  a9 := Tryd.isAgg9
  z9 := Tryd.sizeOf9
  v9 := Tryd.zeroValue9 }
open Go.RowKit Go.Lib in
/-- internal/stringslite.IndexByte (what strings.IndexByte calls): IT RETURNS 'Lib.indexByte s c'; the world is as it was. (LAID: no walk: one application.) -/
theorem Tryd.stringslite_IndexByte (s : ByteArray) (c : Int) (w : World) :
    Calls Tryd.prog 110 #[.string s, .int .u8 c] w fun e w' => e = .returned (.int .i64 (Lib.indexByte s.data.toList c.toNat.toUInt8)) ∧ w' = w := Any.stringslite_IndexByte Tryd.lays217 s c w
def Tryd.lays224_ren : Go.Shelf.Ren := ⟨fun | 224 => 112 | n => n, fun | 3 => 3 | n => n, fun | n => n⟩
theorem Tryd.lays224 : Go.Proofs.Lays.n224 Tryd.prog Tryd.lays224_ren := {
  mixed := by kernel_rfl
  f224 := Tryd.func112.trans (congrArg some (by kernel_rfl))
  t3 := Tryd.underlying3
  a3 := Tryd.isAgg3
  z3 := Tryd.sizeOf3
  v3 := Tryd.zeroValue3 }
open Go.RowKit Go.Lib in
/-- internal/bytealg.Cutover: "Cutover reports the number of failures of IndexByte we should tolerate before switching over to Index. n is the number of bytes processed so far.": on amd64: (n + 16) / 8. (LAID: no walk: one application.) -/
theorem Tryd.bytealg_Cutover (n : Int) (h0 : 0 ≤ n) (h1 : n < 4611686018427387904) (w : World) :
    Calls Tryd.prog 112 #[.int .i64 n] w fun e w' => e = .returned (.int .i64 ((n + 16) / 8)) ∧ w' = w := Any.bytealg_Cutover Tryd.lays224 n h0 h1 w
def Tryd.lays206_ren : Go.Shelf.Ren := ⟨fun | 206 => 105 | n => n, fun | 9 => 9 | 4 => 4 | 3 => 3 | n => n, fun | n => n⟩
theorem Tryd.lays206 : Go.Proofs.Lays.n206 Tryd.prog Tryd.lays206_ren := {
  mixed := by kernel_rfl
  f206 := Tryd.func105.trans (congrArg some (by kernel_rfl))
  t3 := Tryd.underlying3
  a3 := Tryd.isAgg3
  z3 := Tryd.sizeOf3
  v3 := Tryd.zeroValue3
  t4 := Tryd.underlying4
  a4 := Tryd.isAgg4
  z4 := Tryd.sizeOf4
  v4 := Tryd.zeroValue4
  t9 := Tryd.underlying9
  a9 := Tryd.isAgg9
  z9 := Tryd.sizeOf9
  v9 := Tryd.zeroValue9 }
open Go.RowKit Go.Lib in
/-- internal/stringslite.HasPrefix (what strings.HasPrefix calls). (LAID: no walk: one application.) -/
theorem Tryd.stringslite_HasPrefix (s p : ByteArray) (w : World) :
    Calls Tryd.prog 105 #[.string s, .string p] w fun e w' => e = .returned (.bool (Lib.hasPrefix s.data.toList p.data.toList)) ∧ w' = w := Any.stringslite_HasPrefix Tryd.lays206 s p w
def Tryd.lays99_ren : Go.Shelf.Ren := ⟨fun | 99 => 98 | 206 => 105 | n => n, fun | 9 => 9 | 4 => 4 | 3 => 3 | n => n, fun | n => n⟩
theorem Tryd.lays99 : Go.Proofs.Lays.n99 Tryd.prog Tryd.lays99_ren := {
  mixed := by kernel_rfl
  f99 := Tryd.func98.trans (congrArg some (by kernel_rfl))
  f206 := Tryd.func105.trans (congrArg some (by kernel_rfl))
  t3 := Tryd.underlying3
  a3 := Tryd.isAgg3
  z3 := Tryd.sizeOf3
  v3 := Tryd.zeroValue3
  t4 := Tryd.underlying4
  a4 := Tryd.isAgg4
  z4 := Tryd.sizeOf4
  v4 := Tryd.zeroValue4
  t9 := Tryd.underlying9
  a9 := Tryd.isAgg9
  z9 := Tryd.sizeOf9
  v9 := Tryd.zeroValue9 }
open Go.RowKit Go.Lib in
/-- strings.HasPrefix: "HasPrefix reports whether the string s begins with prefix.": IT RETURNS 'Lib.hasPrefix s prefix'; the world is as it was. (LAID: no walk: one application.) -/
theorem Tryd.strings_HasPrefix (s p : ByteArray) (w : World) :
    Calls Tryd.prog 98 #[.string s, .string p] w fun e w' => e = .returned (.bool (Lib.hasPrefix s.data.toList p.data.toList)) ∧ w' = w := Any.strings_HasPrefix Tryd.lays99 s p w
def Tryd.lays207_ren : Go.Shelf.Ren := ⟨fun | 207 => 85 | n => n, fun | 9 => 9 | 4 => 4 | 3 => 3 | n => n, fun | n => n⟩
theorem Tryd.lays207 : Go.Proofs.Lays.n207 Tryd.prog Tryd.lays207_ren := {
  mixed := by kernel_rfl
  f207 := Tryd.func85.trans (congrArg some (by kernel_rfl))
  t3 := Tryd.underlying3
  a3 := Tryd.isAgg3
  z3 := Tryd.sizeOf3
  v3 := Tryd.zeroValue3
  t4 := Tryd.underlying4
  a4 := Tryd.isAgg4
  z4 := Tryd.sizeOf4
  v4 := Tryd.zeroValue4
  t9 := Tryd.underlying9
  a9 := Tryd.isAgg9
  z9 := Tryd.sizeOf9
  v9 := Tryd.zeroValue9 }
open Go.RowKit Go.Lib in
/-- internal/stringslite.HasSuffix (what strings.HasSuffix calls). (LAID: no walk: one application.) -/
theorem Tryd.stringslite_HasSuffix (s p : ByteArray) (w : World) (hs : s.size ≤ 9223372036854775807) :
    Calls Tryd.prog 85 #[.string s, .string p] w fun e w' => e = .returned (.bool (Lib.hasSuffix s.data.toList p.data.toList)) ∧ w' = w := Any.stringslite_HasSuffix Tryd.lays207 s p w hs
def Tryd.lays100_ren : Go.Shelf.Ren := ⟨fun | 100 => 60 | 207 => 85 | n => n, fun | 9 => 9 | 4 => 4 | 3 => 3 | n => n, fun | n => n⟩
theorem Tryd.lays100 : Go.Proofs.Lays.n100 Tryd.prog Tryd.lays100_ren := {
  mixed := by kernel_rfl
  f100 := Tryd.func60.trans (congrArg some (by kernel_rfl))
  f207 := Tryd.func85.trans (congrArg some (by kernel_rfl))
  t3 := Tryd.underlying3
  a3 := Tryd.isAgg3
  z3 := Tryd.sizeOf3
  v3 := Tryd.zeroValue3
  t4 := Tryd.underlying4
  a4 := Tryd.isAgg4
  z4 := Tryd.sizeOf4
  v4 := Tryd.zeroValue4
  t9 := Tryd.underlying9
  a9 := Tryd.isAgg9
  z9 := Tryd.sizeOf9
  v9 := Tryd.zeroValue9 }
open Go.RowKit Go.Lib in
/-- strings.HasSuffix: "HasSuffix reports whether the string s ends with suffix.": IT RETURNS 'Lib.hasSuffix s suffix'; the world is as it was. ('hs': no Go string is longer: a caller has it of every string that it was handed.) (LAID: no walk: one application.) -/
theorem Tryd.strings_HasSuffix (s p : ByteArray) (w : World) (hs : s.size ≤ 9223372036854775807) :
    Calls Tryd.prog 60 #[.string s, .string p] w fun e w' => e = .returned (.bool (Lib.hasSuffix s.data.toList p.data.toList)) ∧ w' = w := Any.strings_HasSuffix Tryd.lays100 s p w hs
def Tryd.lays208_ren : Go.Shelf.Ren := ⟨fun | 208 => 91 | 206 => 105 | n => n, fun | 9 => 9 | 4 => 4 | 3 => 3 | n => n, fun | n => n⟩
theorem Tryd.lays208 : Go.Proofs.Lays.n208 Tryd.prog Tryd.lays208_ren := {
  mixed := by kernel_rfl
  f206 := Tryd.func105.trans (congrArg some (by kernel_rfl))
  f208 := Tryd.func91.trans (congrArg some (by kernel_rfl))
  t3 := Tryd.underlying3
  a3 := Tryd.isAgg3
  z3 := Tryd.sizeOf3
  v3 := Tryd.zeroValue3
  t4 := Tryd.underlying4
  a4 := Tryd.isAgg4
  z4 := Tryd.sizeOf4
  v4 := Tryd.zeroValue4
  t9 := Tryd.underlying9
  a9 := Tryd.isAgg9
  z9 := Tryd.sizeOf9
  v9 := Tryd.zeroValue9 }
open Go.RowKit Go.Lib in
/-- internal/stringslite.TrimPrefix (what strings.TrimPrefix calls). (LAID: no walk: one application.) -/
theorem Tryd.stringslite_TrimPrefix (s p : ByteArray) (w : World) :
    Calls Tryd.prog 91 #[.string s, .string p] w fun e w' => e = .returned (.string ⟨(Lib.trimPrefix s.data.toList p.data.toList).toArray⟩) ∧ w' = w := Any.stringslite_TrimPrefix Tryd.lays208 s p w
def Tryd.lays101_ren : Go.Shelf.Ren := ⟨fun | 101 => 71 | 208 => 91 | 206 => 105 | n => n, fun | 9 => 9 | 4 => 4 | 3 => 3 | n => n, fun | n => n⟩
theorem Tryd.lays101 : Go.Proofs.Lays.n101 Tryd.prog Tryd.lays101_ren := {
  mixed := by kernel_rfl
  f101 := Tryd.func71.trans (congrArg some (by kernel_rfl))
  f206 := Tryd.func105.trans (congrArg some (by kernel_rfl))
  f208 := Tryd.func91.trans (congrArg some (by kernel_rfl))
  t3 := Tryd.underlying3
  a3 := Tryd.isAgg3
  z3 := Tryd.sizeOf3
  v3 := Tryd.zeroValue3
  t4 := Tryd.underlying4
  a4 := Tryd.isAgg4
  z4 := Tryd.sizeOf4
  v4 := Tryd.zeroValue4
  t9 := Tryd.underlying9
  a9 := Tryd.isAgg9
  z9 := Tryd.sizeOf9
  v9 := Tryd.zeroValue9 }
open Go.RowKit Go.Lib in
/-- strings.TrimPrefix: "TrimPrefix returns s without the provided leading prefix string. If s doesn't start with prefix, s is returned unchanged.": IT RETURNS 'Lib.trimPrefix s prefix'; the world is as it was. (LAID: no walk: one application.) -/
theorem Tryd.strings_TrimPrefix (s p : ByteArray) (w : World) :
    Calls Tryd.prog 71 #[.string s, .string p] w fun e w' => e = .returned (.string ⟨(Lib.trimPrefix s.data.toList p.data.toList).toArray⟩) ∧ w' = w := Any.strings_TrimPrefix Tryd.lays101 s p w
def Tryd.lays209_ren : Go.Shelf.Ren := ⟨fun | 209 => 84 | 207 => 85 | n => n, fun | 9 => 9 | 4 => 4 | 3 => 3 | n => n, fun | n => n⟩
theorem Tryd.lays209 : Go.Proofs.Lays.n209 Tryd.prog Tryd.lays209_ren := {
  mixed := by kernel_rfl
  f207 := Tryd.func85.trans (congrArg some (by kernel_rfl))
  f209 := Tryd.func84.trans (congrArg some (by kernel_rfl))
  t3 := Tryd.underlying3
  a3 := Tryd.isAgg3
  z3 := Tryd.sizeOf3
  v3 := Tryd.zeroValue3
  t4 := Tryd.underlying4
  a4 := Tryd.isAgg4
  z4 := Tryd.sizeOf4
  v4 := Tryd.zeroValue4
  t9 := Tryd.underlying9
  a9 := Tryd.isAgg9
  z9 := Tryd.sizeOf9
  v9 := Tryd.zeroValue9 }
open Go.RowKit Go.Lib in
/-- internal/stringslite.TrimSuffix (what strings.TrimSuffix calls). (LAID: no walk: one application.) -/
theorem Tryd.stringslite_TrimSuffix (s p : ByteArray) (w : World) (hs : s.size ≤ 9223372036854775807) :
    Calls Tryd.prog 84 #[.string s, .string p] w fun e w' => e = .returned (.string ⟨(Lib.trimSuffix s.data.toList p.data.toList).toArray⟩) ∧ w' = w := Any.stringslite_TrimSuffix Tryd.lays209 s p w hs
def Tryd.lays102_ren : Go.Shelf.Ren := ⟨fun | 102 => 59 | 209 => 84 | 207 => 85 | n => n, fun | 9 => 9 | 4 => 4 | 3 => 3 | n => n, fun | n => n⟩
theorem Tryd.lays102 : Go.Proofs.Lays.n102 Tryd.prog Tryd.lays102_ren := {
  mixed := by kernel_rfl
  f102 := Tryd.func59.trans (congrArg some (by kernel_rfl))
  f207 := Tryd.func85.trans (congrArg some (by kernel_rfl))
  f209 := Tryd.func84.trans (congrArg some (by kernel_rfl))
  t3 := Tryd.underlying3
  a3 := Tryd.isAgg3
  z3 := Tryd.sizeOf3
  v3 := Tryd.zeroValue3
  t4 := Tryd.underlying4
  a4 := Tryd.isAgg4
  z4 := Tryd.sizeOf4
  v4 := Tryd.zeroValue4
  t9 := Tryd.underlying9
  a9 := Tryd.isAgg9
  z9 := Tryd.sizeOf9
  v9 := Tryd.zeroValue9 }
open Go.RowKit Go.Lib in
/-- strings.TrimSuffix: "TrimSuffix returns s without the provided trailing suffix string. If s doesn't end with suffix, s is returned unchanged.": IT RETURNS 'Lib.trimSuffix s suffix'; the world is as it was. (LAID: no walk: one application.) -/
theorem Tryd.strings_TrimSuffix (s p : ByteArray) (w : World) (hs : s.size ≤ 9223372036854775807) :
    Calls Tryd.prog 59 #[.string s, .string p] w fun e w' => e = .returned (.string ⟨(Lib.trimSuffix s.data.toList p.data.toList).toArray⟩) ∧ w' = w := Any.strings_TrimSuffix Tryd.lays102 s p w hs
def Tryd.lays152_ren : Go.Shelf.Ren := ⟨fun | 152 => 104 | 137 => 101 | 119 => 111 | 224 => 112 | 225 => 113 | 217 => 110 | 266 => 115 | n => n, fun | 9 => 9 | 21 => 21 | 3 => 3 | 4 => 4 | 5 => 5 | 0 => 0 | 46 => 91 | n => n, fun | n => n⟩
theorem Tryd.lays152 : Go.Proofs.Lays.n152 Tryd.prog Tryd.lays152_ren := {
  mixed := by kernel_rfl
  f119 := Tryd.func111.trans (congrArg some (by kernel_rfl))
  f137 := Tryd.func101.trans (congrArg some (by kernel_rfl))
  f152 := Tryd.func104.trans (congrArg some (by kernel_rfl))
  f217 := Tryd.func110.trans (congrArg some (by kernel_rfl))
  f224 := Tryd.func112.trans (congrArg some (by kernel_rfl))
  f225 := Tryd.func113.trans (congrArg some (by kernel_rfl))
  f266 := Tryd.func115.trans (congrArg some (by kernel_rfl))
  t0 := Tryd.underlying0
  a0 := Tryd.isAgg0
  z0 := Tryd.sizeOf0
  v0 := Tryd.zeroValue0
  t3 := Tryd.underlying3
  a3 := Tryd.isAgg3
  z3 := Tryd.sizeOf3
  v3 := Tryd.zeroValue3
  t4 := Tryd.underlying4
  a4 := Tryd.isAgg4
  z4 := Tryd.sizeOf4
  v4 := Tryd.zeroValue4
  t5 := Tryd.underlying5
  a5 := Tryd.isAgg5
  z5 := Tryd.sizeOf5
  v5 := Tryd.zeroValue5
  t9 := Tryd.underlying9
  a9 := Tryd.isAgg9
  z9 := Tryd.sizeOf9
  v9 := Tryd.zeroValue9
  t21 := Tryd.underlying21
  a21 := Tryd.isAgg21
  z21 := Tryd.sizeOf21
  v21 := Tryd.zeroValue21
  t46 := Tryd.underlying91
  a46 := Tryd.isAgg91
  z46 := Tryd.sizeOf91
  v46 := Tryd.zeroValue91 }
open Go.RowKit Go.Lib in
theorem Tryd.strings_IndexRune_ascii (s : ByteArray) (r : Int) (w : World) (h0 : 0 ≤ r) (h1 : r < 128) :
    Calls Tryd.prog 104 #[.string s, .int .i32 r] w fun e w' => e = .returned (.int .i64 (Lib.indexByte s.data.toList r.toNat.toUInt8)) ∧ w' = w := Any.strings_IndexRune_ascii Tryd.lays152 s r w h0 h1
def Tryd.lays151_ren : Go.Shelf.Ren := ⟨fun | 151 => 90 | 152 => 104 | 137 => 101 | 119 => 111 | 224 => 112 | 225 => 113 | 217 => 110 | 266 => 115 | n => n, fun | 9 => 9 | 21 => 21 | 4 => 4 | 3 => 3 | 5 => 5 | 0 => 0 | 46 => 91 | n => n, fun | n => n⟩
theorem Tryd.lays151 : Go.Proofs.Lays.n151 Tryd.prog Tryd.lays151_ren := {
  mixed := by kernel_rfl
  f119 := Tryd.func111.trans (congrArg some (by kernel_rfl))
  f137 := Tryd.func101.trans (congrArg some (by kernel_rfl))
  f151 := Tryd.func90.trans (congrArg some (by kernel_rfl))
  f152 := Tryd.func104.trans (congrArg some (by kernel_rfl))
  f217 := Tryd.func110.trans (congrArg some (by kernel_rfl))
  f224 := Tryd.func112.trans (congrArg some (by kernel_rfl))
  f225 := Tryd.func113.trans (congrArg some (by kernel_rfl))
  f266 := Tryd.func115.trans (congrArg some (by kernel_rfl))
  t0 := Tryd.underlying0
  a0 := Tryd.isAgg0
  z0 := Tryd.sizeOf0
  v0 := Tryd.zeroValue0
  t3 := Tryd.underlying3
  a3 := Tryd.isAgg3
  z3 := Tryd.sizeOf3
  v3 := Tryd.zeroValue3
  t4 := Tryd.underlying4
  a4 := Tryd.isAgg4
  z4 := Tryd.sizeOf4
  v4 := Tryd.zeroValue4
  t5 := Tryd.underlying5
  a5 := Tryd.isAgg5
  z5 := Tryd.sizeOf5
  v5 := Tryd.zeroValue5
  t9 := Tryd.underlying9
  a9 := Tryd.isAgg9
  z9 := Tryd.sizeOf9
  v9 := Tryd.zeroValue9
  t21 := Tryd.underlying21
  a21 := Tryd.isAgg21
  z21 := Tryd.sizeOf21
  v21 := Tryd.zeroValue21
  t46 := Tryd.underlying91
  a46 := Tryd.isAgg91
  z46 := Tryd.sizeOf91
  v46 := Tryd.zeroValue91 }
open Go.RowKit Go.Lib in
theorem Tryd.strings_ContainsRune_ascii (s : ByteArray) (r : Int) (w : World) (h0 : 0 ≤ r) (h1 : r < 128) :
    Calls Tryd.prog 90 #[.string s, .int .i32 r] w fun e w' => e = .returned (.bool (decide (0 ≤ Lib.indexByte s.data.toList r.toNat.toUInt8))) ∧ w' = w := Any.strings_ContainsRune_ascii Tryd.lays151 s r w h0 h1
def Tryd.lays227_ren : Go.Shelf.Ren := ⟨fun | 227 => 68 | n => n, fun | 9 => 9 | 116 => 105 | 4 => 4 | 0 => 0 | 3 => 3 | 5 => 5 | n => n, fun | n => n⟩
theorem Tryd.lays227 : Go.Proofs.Lays.n227 Tryd.prog Tryd.lays227_ren := {
  mixed := by kernel_rfl
  f227 := Tryd.func68.trans (congrArg some (by kernel_rfl))
  t0 := Tryd.underlying0
  a0 := Tryd.isAgg0
  z0 := Tryd.sizeOf0
  v0 := Tryd.zeroValue0
  t3 := Tryd.underlying3
  a3 := Tryd.isAgg3
  z3 := Tryd.sizeOf3
  v3 := Tryd.zeroValue3
  t4 := Tryd.underlying4
  a4 := Tryd.isAgg4
  z4 := Tryd.sizeOf4
  v4 := Tryd.zeroValue4
  t5 := Tryd.underlying5
  a5 := Tryd.isAgg5
  z5 := Tryd.sizeOf5
  v5 := Tryd.zeroValue5
  t9 := Tryd.underlying9
  a9 := Tryd.isAgg9
  z9 := Tryd.sizeOf9
  v9 := Tryd.zeroValue9
  t116 := Tryd.underlying105
  a116 := Tryd.isAgg105
  z116 := Tryd.sizeOf105 }
open Go.RowKit Go.Lib in
theorem Tryd.strings_makeASCIISet (hv116 : ∀ w, (zeroValue 105).run Tryd.prog w = .ok (.agg (Array.replicate 256 (.bool false))) w) (chars : ByteArray) (w : World) (hs : chars.size < 4294967281) (hascii : ∀ (j : Nat) b, chars.data.toList[j]? = some b → b.toNat < 128) :
    Calls Tryd.prog 68 #[.string chars] w fun e w' => e = .returned (.tuple #[.agg (Lib.setCells chars.data.toList), .bool true]) ∧ w' = w.alloc (.cells (Lib.setCells chars.data.toList) 105) := Any.strings_makeASCIISet Tryd.lays227 hv116 (by kernel_rfl) chars w hs hascii
def Tryd.lays228_ren : Go.Shelf.Ren := ⟨fun | 228 => 88 | n => n, fun | 124 => 109 | 5 => 5 | 4 => 4 | 0 => 0 | 116 => 105 | n => n, fun | n => n⟩
theorem Tryd.lays228 : Go.Proofs.Lays.n228 Tryd.prog Tryd.lays228_ren := {
  mixed := by kernel_rfl
  f228 := Tryd.func88.trans (congrArg some (by kernel_rfl))
  t0 := Tryd.underlying0
  a0 := Tryd.isAgg0
  z0 := Tryd.sizeOf0
  v0 := Tryd.zeroValue0
  t4 := Tryd.underlying4
  a4 := Tryd.isAgg4
  z4 := Tryd.sizeOf4
  v4 := Tryd.zeroValue4
  t5 := Tryd.underlying5
  a5 := Tryd.isAgg5
  z5 := Tryd.sizeOf5
  v5 := Tryd.zeroValue5
  t116 := Tryd.underlying105
  a116 := Tryd.isAgg105
  z116 := Tryd.sizeOf105
  t124 := Tryd.underlying109
  a124 := Tryd.isAgg109
  z124 := Tryd.sizeOf109
  v124 := Tryd.zeroValue109 }
open Go.RowKit Go.Lib in
/-- '(as *asciiSet) contains(c)': 'as[c]': the set lies at block b, whole. (LAID: no walk: one application.) -/
theorem Tryd.asciiSet_contains (b : Nat) (x : UInt8) (v : Bool) (w : World) (hc : w.cell? ⟨b, x.toNat, none⟩ = some (.bool v)) :
    Calls Tryd.prog 88 #[.pointer (some ⟨b, 0, none⟩), .int .u8 x.toNat] w fun e w' => e = .returned (.bool v) ∧ w' = w := Any.asciiSet_contains Tryd.lays228 b x v w hc
def Tryd.lays264_ren : Go.Shelf.Ren := ⟨fun | 264 => 109 | n => n, fun | 53 => 79 | 46 => 91 | n => n, fun | n => n⟩
theorem Tryd.lays264 : Go.Proofs.Lays.n264 Tryd.prog Tryd.lays264_ren := {
  mixed := by kernel_rfl
  f264 := Tryd.func109.trans (congrArg some (by kernel_rfl))
  t46 := Tryd.underlying91
  a46 := Tryd.isAgg91
  z46 := Tryd.sizeOf91
  v46 := Tryd.zeroValue91
  t53 := Tryd.underlying79
  a53 := Tryd.isAgg79
  z53 := Tryd.sizeOf79
  v53 := Tryd.zeroValue79 }
open Go.RowKit Go.Lib in
theorem Tryd.bits_Mul64 (x y : Nat) (hx : x < 18446744073709551616) (hy : y < 18446744073709551616) (w : World) :
    Calls Tryd.prog 109 #[.int .u64 x, .int .u64 y] w fun e w' => e = .returned (.tuple #[.int .u64 ((x * y / 18446744073709551616 : Nat) : Int), .int .u64 ((x * y % 18446744073709551616 : Nat) : Int)]) ∧ w' = w := Any.bits_Mul64 Tryd.lays264 x y hx hy w
def Tryd.lays212_ren : Go.Shelf.Ren := ⟨fun | 212 => 97 | 263 => 108 | 264 => 109 | n => n, fun | 46 => 91 | 51 => 81 | 146 => 147 | 53 => 79 | 148 => 149 | n => n, fun | n => n⟩
theorem Tryd.lays212 : Go.Proofs.Lays.n212 Tryd.prog Tryd.lays212_ren := {
  mixed := by kernel_rfl
  f212 := Tryd.func97.trans (congrArg some (by kernel_rfl))
  f263 := Tryd.func108.trans (congrArg some (by kernel_rfl))
  f264 := Tryd.func109.trans (congrArg some (by kernel_rfl))
  t46 := Tryd.underlying91
  a46 := Tryd.isAgg91
  z46 := Tryd.sizeOf91
  v46 := Tryd.zeroValue91
  t51 := Tryd.underlying81
  a51 := Tryd.isAgg81
  z51 := Tryd.sizeOf81
  v51 := Tryd.zeroValue81
  t53 := Tryd.underlying79
  a53 := Tryd.isAgg79
  z53 := Tryd.sizeOf79
  v53 := Tryd.zeroValue79
  t146 := Tryd.underlying147
  a146 := Tryd.isAgg147
  z146 := Tryd.sizeOf147
  v146 := Tryd.zeroValue147
  t148 := Tryd.underlying149
  a148 := Tryd.isAgg149
  z148 := Tryd.sizeOf149
  v148 := Tryd.zeroValue149 }
open Go.RowKit Go.Lib in
/-- math/bits.Mul: "Mul returns the full-width product of x and y": on a machine of 64 bits: Mul64's. (LAID: no walk: one application.) -/
theorem Tryd.bits_Mul (x y : Nat) (hx : x < 18446744073709551616) (hy : y < 18446744073709551616) (w : World) :
    Calls Tryd.prog 97 #[.int .u64 x, .int .u64 y] w fun e w' => e = .returned (.tuple #[.int .u64 ((x * y / 18446744073709551616 : Nat) : Int), .int .u64 ((x * y % 18446744073709551616 : Nat) : Int)]) ∧ w' = w := Any.bits_Mul Tryd.lays212 x y hx hy w
def Tryd.lays105_ren : Go.Shelf.Ren := ⟨fun | 105 => 80 | 212 => 97 | 99 => 98 | 165 => 95 | 166 => 96 | 170 => 99 | 169 => 56 | 263 => 108 | 264 => 109 | 206 => 105 | 240 => 83 | 241 => 107 | 276 => 100 | 277 => 114 | n => n, fun | 9 => 9 | 3 => 3 | 4 => 4 | 20 => 20 | 0 => 0 | 46 => 91 | 109 => 141 | 5 => 5 | 72 => 86 | 76 => 139 | 51 => 81 | 146 => 147 | 53 => 79 | 148 => 149 | 70 => 84 | 37 => 36 | 75 => 94 | 127 => 126 | 164 => 143 | 80 => 96 | n => n, fun | n => n⟩
theorem Tryd.lays105 : Go.Proofs.Lays.n105 Tryd.prog Tryd.lays105_ren := {
  mixed := by kernel_rfl
  f99 := Tryd.func98.trans (congrArg some (by kernel_rfl))
  f105 := Tryd.func80.trans (congrArg some (by kernel_rfl))
  f165 := Tryd.func95.trans (congrArg some (by kernel_rfl))
  f166 := Tryd.func96.trans (congrArg some (by kernel_rfl))
  f169 := Tryd.func56.trans (congrArg some (by kernel_rfl))
  f170 := Tryd.func99.trans (congrArg some (by kernel_rfl))
  f206 := Tryd.func105.trans (congrArg some (by kernel_rfl))
  f212 := Tryd.func97.trans (congrArg some (by kernel_rfl))
  f240 := Tryd.func83.trans (congrArg some (by kernel_rfl))
  f241 := Tryd.func107.trans (congrArg some (by kernel_rfl))
  f263 := Tryd.func108.trans (congrArg some (by kernel_rfl))
  f264 := Tryd.func109.trans (congrArg some (by kernel_rfl))
  f276 := Tryd.func100.trans (congrArg some (by kernel_rfl))
  f277 := Tryd.func114.trans (congrArg some (by kernel_rfl))
  t0 := Tryd.underlying0
  a0 := Tryd.isAgg0
  z0 := Tryd.sizeOf0
  v0 := Tryd.zeroValue0
  t3 := Tryd.underlying3
  a3 := Tryd.isAgg3
  z3 := Tryd.sizeOf3
  v3 := Tryd.zeroValue3
  t4 := Tryd.underlying4
  a4 := Tryd.isAgg4
  z4 := Tryd.sizeOf4
  v4 := Tryd.zeroValue4
  t5 := Tryd.underlying5
  a5 := Tryd.isAgg5
  z5 := Tryd.sizeOf5
  v5 := Tryd.zeroValue5
  t9 := Tryd.underlying9
  a9 := Tryd.isAgg9
  z9 := Tryd.sizeOf9
  v9 := Tryd.zeroValue9
  t20 := Tryd.underlying20
  a20 := Tryd.isAgg20
  z20 := Tryd.sizeOf20
  v20 := Tryd.zeroValue20
  t37 := Tryd.underlying36
  a37 := Tryd.isAgg36
  z37 := Tryd.sizeOf36
  v37 := Tryd.zeroValue36
  t46 := Tryd.underlying91
  a46 := Tryd.isAgg91
  z46 := Tryd.sizeOf91
  v46 := Tryd.zeroValue91
  t51 := Tryd.underlying81
  a51 := Tryd.isAgg81
  z51 := Tryd.sizeOf81
  v51 := Tryd.zeroValue81
  t53 := Tryd.underlying79
  a53 := Tryd.isAgg79
  z53 := Tryd.sizeOf79
  v53 := Tryd.zeroValue79
  t70 := Tryd.underlying84
  a70 := Tryd.isAgg84
  z70 := Tryd.sizeOf84
  v70 := Tryd.zeroValue84
  t72 := Tryd.underlying86
  a72 := Tryd.isAgg86
  z72 := Tryd.sizeOf86
  v72 := Tryd.zeroValue86
  t75 := Tryd.underlying94
  a75 := Tryd.isAgg94
  z75 := Tryd.sizeOf94
  v75 := Tryd.zeroValue94
  t76 := Tryd.underlying139
  a76 := Tryd.isAgg139
  z76 := Tryd.sizeOf139
  v76 := Tryd.zeroValue139
  t109 := Tryd.underlying141
  a109 := Tryd.isAgg141
  z109 := Tryd.sizeOf141
  v109 := Tryd.zeroValue141
  t127 := Tryd.underlying126
  a127 := Tryd.isAgg126
  z127 := Tryd.sizeOf126
  v127 := Tryd.zeroValue126
  t146 := Tryd.underlying147
  a146 := Tryd.isAgg147
  z146 := Tryd.sizeOf147
  v146 := Tryd.zeroValue147
  t148 := Tryd.underlying149
  a148 := Tryd.isAgg149
  z148 := Tryd.sizeOf149
  v148 := Tryd.zeroValue149
  t164 := Tryd.underlying143
  a164 := Tryd.isAgg143
  z164 := Tryd.sizeOf143
  v164 := Tryd.zeroValue143 }
theorem Tryd.Builder_Extra_105 : Builder.Extra Tryd.prog Tryd.lays105_ren := {
  sizeBuilder := by kernel_rfl
  liesBuilder := by kernel_rfl
  t5 := Tryd.underlying5
  a5 := Tryd.isAgg5
  z5 := Tryd.sizeOf5
  v5 := Tryd.zeroValue5
  infoByte := by kernel_rfl
  cellsByte := by kernel_rfl
  sizeByte := by kernel_rfl
  neB5 := by decide }
open Go.RowKit Go.Lib in
/-- THE MAIN CASE: at least two copies of a string that is not empty. (LAID: no walk: one application.) -/
theorem Tryd.strings_Repeat_main (s : ByteArray) (c : Nat) (w : World) (hc2 : 2 ≤ c) (hc : c ≤ 9223372036854775807) (hlen : s.size * c ≤ 140737488355328) (h0 : 0 < s.size) :
    Calls Tryd.prog 80 #[.string s, .int .i64 c] w fun e w' => e = .returned (.string ⟨(Lib.repeatL s.data.toList c).toArray⟩) ∧ Below w.heap.size w w' := Any.strings_Repeat_main Tryd.lays105 Tryd.Builder_Extra_105 s c w hc2 hc hlen h0
open Go.RowKit Go.Lib in
theorem Tryd.strings_Repeat_zero (s : ByteArray) (w : World) :
    Calls Tryd.prog 80 #[.string s, .int .i64 0] w fun e w' => e = .returned (.string ⟨#[]⟩) ∧ w' = w := Any.strings_Repeat_zero Tryd.lays105 s w
open Go.RowKit Go.Lib in
theorem Tryd.strings_Repeat_one (s : ByteArray) (w : World) :
    Calls Tryd.prog 80 #[.string s, .int .i64 1] w fun e w' => e = .returned (.string s) ∧ w' = w := Any.strings_Repeat_one Tryd.lays105 s w
open Go.RowKit Go.Lib in
/-- Copies of the empty string. (LAID: no walk: one application.) -/
theorem Tryd.strings_Repeat_empty (s : ByteArray) (c : Nat) (w : World) (hc2 : 2 ≤ c) (hc : c ≤ 9223372036854775807) (h0 : s.size = 0) :
    Calls Tryd.prog 80 #[.string s, .int .i64 c] w fun e w' => e = .returned (.string ⟨#[]⟩) ∧ w' = w := Any.strings_Repeat_empty Tryd.lays105 s c w hc2 hc h0
open Go.RowKit Go.Lib in
/-- count < 0: "It panics if count is negative". (LAID: no walk: one application.) -/
theorem Tryd.strings_Repeat_negative (s : ByteArray) (c : Int) (w : World) (hc : c < 0) :
    Calls Tryd.prog 80 #[.string s, .int .i64 c] w fun e w' => e = .panicked [{ v := repeatPanic Tryd.lays105_ren "strings: negative Repeat count", recovered := false }] ∧ w' = w := Any.strings_Repeat_negative Tryd.lays105 s c w hc
open Go.RowKit Go.Lib in
/-- len(s) * count is no int: ".. or if the result of (len(s) * count) overflows". (LAID: no walk: one application.) -/
theorem Tryd.strings_Repeat_overflow (s : ByteArray) (c : Nat) (w : World) (hc : c ≤ 9223372036854775807) (hs : s.size ≤ 9223372036854775807) (hbig : 9223372036854775807 < s.size * c) :
    Calls Tryd.prog 80 #[.string s, .int .i64 c] w fun e w' => e = .panicked [{ v := repeatPanic Tryd.lays105_ren "strings: Repeat output length overflow", recovered := false }] ∧ w' = w := Any.strings_Repeat_overflow Tryd.lays105 s c w hc hs hbig
open Go.RowKit Go.Lib in
/-- **strings.Repeat: count ≥ 0, the result within one allocation: count copies of s.** (LAID: no walk: one application.) -/
theorem Tryd.strings_Repeat (s : ByteArray) (c : Nat) (w : World) (hc : c ≤ 9223372036854775807) (hlen : s.size * c ≤ 140737488355328) :
    Calls Tryd.prog 80 #[.string s, .int .i64 c] w fun e w' => e = .returned (.string ⟨(Lib.repeatL s.data.toList c).toArray⟩) ∧ Below w.heap.size w w' := Any.strings_Repeat Tryd.lays105 Tryd.Builder_Extra_105 s c w hc hlen
def Tryd.lays260_ren : Go.Shelf.Ren := ⟨fun | 260 => 103 | n => n, fun | 9 => 9 | 21 => 21 | 3 => 3 | 4 => 4 | 5 => 5 | 119 => 151 | 0 => 0 | 46 => 91 | 139 => 154 | 138 => 153 | n => n, fun | 3 => 2 | 4 => 3 | n => n⟩
theorem Tryd.lays260 : Go.Proofs.Lays.n260 Tryd.prog Tryd.lays260_ren := {
  mixed := by kernel_rfl
  f260 := Tryd.func103.trans (congrArg some (by kernel_rfl))
  t0 := Tryd.underlying0
  a0 := Tryd.isAgg0
  z0 := Tryd.sizeOf0
  v0 := Tryd.zeroValue0
  t3 := Tryd.underlying3
  a3 := Tryd.isAgg3
  z3 := Tryd.sizeOf3
  v3 := Tryd.zeroValue3
  t4 := Tryd.underlying4
  a4 := Tryd.isAgg4
  z4 := Tryd.sizeOf4
  v4 := Tryd.zeroValue4
  t5 := Tryd.underlying5
  a5 := Tryd.isAgg5
  z5 := Tryd.sizeOf5
  v5 := Tryd.zeroValue5
  t9 := Tryd.underlying9
  a9 := Tryd.isAgg9
  z9 := Tryd.sizeOf9
  v9 := Tryd.zeroValue9
  t21 := Tryd.underlying21
  a21 := Tryd.isAgg21
  z21 := Tryd.sizeOf21
  v21 := Tryd.zeroValue21
  t46 := Tryd.underlying91
  a46 := Tryd.isAgg91
  z46 := Tryd.sizeOf91
  v46 := Tryd.zeroValue91
  t119 := Tryd.underlying151
  a119 := Tryd.isAgg151
  z119 := Tryd.sizeOf151
  t138 := Tryd.underlying153
  a138 := Tryd.isAgg153
  z138 := Tryd.sizeOf153
  v138 := Tryd.zeroValue153
  t139 := Tryd.underlying154
  a139 := Tryd.isAgg154
  z139 := Tryd.sizeOf154
  v139 := Tryd.zeroValue154
  g3 := by kernel_rfl
  g4 := by kernel_rfl }
open Go.RowKit Go.Lib in
theorem Tryd.utf8_decodeRuneInStringSlow (s : ByteArray) (w : World) (hT : Lib.Utf8Tabs 2 3 w) :
    Calls Tryd.prog 103 #[.string s] w fun e w' => e = .returned (.tuple #[.int .i32 (Lib.decodeGo s).1, .int .i64 (Lib.decodeGo s).2]) ∧ Below w.heap.size w w' := Any.utf8_decodeRuneInStringSlow Tryd.lays260 s w hT
def Tryd.lays197_ren : Go.Shelf.Ren := ⟨fun | 197 => 89 | 260 => 103 | n => n, fun | 9 => 9 | 21 => 21 | 3 => 3 | 4 => 4 | 5 => 5 | 105 => 131 | 119 => 151 | 0 => 0 | 46 => 91 | 139 => 154 | 138 => 153 | n => n, fun | 3 => 2 | 4 => 3 | n => n⟩
theorem Tryd.lays197 : Go.Proofs.Lays.n197 Tryd.prog Tryd.lays197_ren := {
  mixed := by kernel_rfl
  f197 := Tryd.func89.trans (congrArg some (by kernel_rfl))
  f260 := Tryd.func103.trans (congrArg some (by kernel_rfl))
  t0 := Tryd.underlying0
  a0 := Tryd.isAgg0
  z0 := Tryd.sizeOf0
  v0 := Tryd.zeroValue0
  t3 := Tryd.underlying3
  a3 := Tryd.isAgg3
  z3 := Tryd.sizeOf3
  v3 := Tryd.zeroValue3
  t4 := Tryd.underlying4
  a4 := Tryd.isAgg4
  z4 := Tryd.sizeOf4
  v4 := Tryd.zeroValue4
  t5 := Tryd.underlying5
  a5 := Tryd.isAgg5
  z5 := Tryd.sizeOf5
  v5 := Tryd.zeroValue5
  t9 := Tryd.underlying9
  a9 := Tryd.isAgg9
  z9 := Tryd.sizeOf9
  v9 := Tryd.zeroValue9
  t21 := Tryd.underlying21
  a21 := Tryd.isAgg21
  z21 := Tryd.sizeOf21
  v21 := Tryd.zeroValue21
  t46 := Tryd.underlying91
  a46 := Tryd.isAgg91
  z46 := Tryd.sizeOf91
  v46 := Tryd.zeroValue91
  t105 := Tryd.underlying131
  a105 := Tryd.isAgg131
  z105 := Tryd.sizeOf131
  v105 := Tryd.zeroValue131
  t119 := Tryd.underlying151
  a119 := Tryd.isAgg151
  z119 := Tryd.sizeOf151
  t138 := Tryd.underlying153
  a138 := Tryd.isAgg153
  z138 := Tryd.sizeOf153
  v138 := Tryd.zeroValue153
  t139 := Tryd.underlying154
  a139 := Tryd.isAgg154
  z139 := Tryd.sizeOf154
  v139 := Tryd.zeroValue154
  g3 := by kernel_rfl
  g4 := by kernel_rfl }
open Go.RowKit Go.Lib in
/-- **unicode/utf8.DecodeRuneInString AT EVERY STRING.** (LAID: no walk: one application.) -/
theorem Tryd.utf8_DecodeRuneInString (s : ByteArray) (w : World) (hT : Lib.Utf8Tabs 2 3 w) :
    Calls Tryd.prog 89 #[.string s] w fun e w' => e = .returned (.tuple #[.int .i32 (Lib.decodeGo s).1, .int .i64 (Lib.decodeGo s).2]) ∧ Below w.heap.size w w' := Any.utf8_DecodeRuneInString Tryd.lays197 s w hT
end Go.Proofs
-- E3
set_option linter.unusedVariables false
set_option linter.unusedSimpArgs false
namespace Go.Proofs.YteajidciahoboaaDoor.H
open Go.RowKit Go.Shelf Go.Proofs.YteajidciahoboaaDoorW.PrintWords Go.Proofs.YteajidciahoboaaDoorW.PrintLast Go.Proofs.YteajidciahoboaaDoorW.PrintMore Go.Proofs.YteajidciahoboaaDoor.M
attribute [local go_sem] Oper.semAt_some

theorem pieces_in (F : Fence) (n : Nat) (hf : F.fn 54) (hro : F.round = none) (A : Option Addr) (m c : Nat) (w : World) :
    CallsIn F n Tryd.prog 54 #[.slice A m c, .int .i64 3] w fun e w' => e = .returned (.func (.func 82) #[] #[.pointer (some ⟨w.heap.size, 0, none⟩), .pointer (some ⟨w.heap.size + 1, 0, none⟩)]) ∧ w' = (w.alloc (.cells #[.slice A m c] 36)).alloc (.cells #[.int .i64 3] 3) := by
  have hmf : ∀ (fn : Fn) (first cap : Array Value) (w : World), (Instr.makeFunc fn first cap).run Tryd.prog w = .ok (.func fn first cap) w := fun _ _ _ _ => rfl
  refine callsIn_of_wp Tryd.func54 rfl hf ?_ hro
  simp only [Tryd.ntmps54, List.size_toArray, List.length_cons, List.length_nil, Nat.reduceAdd, Nat.reduceSub, Array.replicate_succ, Array.replicate_zero, List.push_toArray, List.append_toArray, List.nil_append, List.cons_append]
  gi_wp2
  go_ret
  exact ⟨rfl, rfl⟩

/-- The three bytes of a piece, noughts behind. -/
def three (p : List Int) : Array Value := #[.int .u8 (p.getD 0 0), .int .u8 (p.getD 1 0), .int .u8 (p.getD 2 0)]
theorem copy_piece (a : Addr) (p : List Int) (k : Nat) (W : World) (hk : p.length = k) (h1 : 1 ≤ k) (h3 : k ≤ 3) (hr : Kd.C (Kd.int .u8) W (some a) k p) (ty : TypeId) :
    (Builtin.copy_ #[36, 36] ty #[.slice (some ⟨W.heap.size, 0, none⟩) 3 3, .slice (some a) k k]).run Tryd.prog (W.alloc (.cells #[.int .u8 0, .int .u8 0, .int .u8 0] 90)) = .ok (.int .i64 k) (W.alloc (.cells (three p) 90)) := by
  have hcell : ∀ j v, (nums .u8 p)[j]? = some v → (W.alloc (.cells #[.int .u8 0, .int .u8 0, .int .u8 0] 90)).cell? (a.add j) = some v := by
    intro j v hj
    have hjl : j < p.length := by
      have := (List.getElem?_eq_some_iff.1 hj).1
      simpa [nums] using this
    obtain ⟨ad, he, hc⟩ := Kd.at_int (Kd.C_below hr (below_alloc (Below.refl _ _) (.cells #[.int .u8 0, .int .u8 0, .int .u8 0] 90))) (j : Int) (by omega) (by omega)
    obtain rfl := Option.some.inj he
    rw [Int.toNat_natCast] at hc
    rw [hc]
    simp [nums, rd] at hj ⊢
    obtain ⟨x, hx, rfl⟩ := hj
    simp [hx]
  have hsz : (Tryd.prog.info? 5).map (·.size) = some 1 := by kernel_rfl
  have := run_copy_cells (P := Tryd.prog) (W.alloc (.cells #[.int .u8 0, .int .u8 0, .int .u8 0] 90)) 36 36 ty 5 W.heap.size 0 3 3 a k k (nums .u8 p) Tryd.underlying36 hsz (by rw [nums_length, hk]; exact (Nat.min_eq_left h3).symm) hcell
    (by intro j hj; rw [nums_length, hk] at hj; have h : j = 0 ∨ j = 1 ∨ j = 2 := by omega
        rw [World.cell?_alloc_new]; rcases h with rfl | rfl | rfl <;> rfl)
    (by intro j hj; exact World.frozen?_alloc_at _ _ _ _ rfl)
    (by intro v hv; simp [nums] at hv; obtain ⟨x, _, rfl⟩ := hv; rfl)
  rw [this]
  match p, hk with
  | [x], hk => subst hk; simp [nums, World.setCells, three, World.setCell_alloc_new, goInt]
  | [x, y], hk => subst hk; simp [nums, World.setCells, three, World.setCell_alloc_new, goInt]
  | [x, y, z], hk => subst hk; simp [nums, World.setCells, three, World.setCell_alloc_new, goInt]
  | [], hk => simp at hk; omega
  | x :: y :: z :: u :: r, hk => simp at hk; omega

def signsTab : List Nat := [65, 66, 67, 68, 69, 70, 71, 72, 73, 74, 75, 76, 77, 78, 79, 80, 81, 82, 83, 84, 85, 86, 87, 88, 89, 90, 97, 98, 99, 100, 101, 102, 103, 104, 105, 106, 107, 108, 109, 110, 111, 112, 113, 114, 115, 116, 117, 118, 119, 120, 121, 122, 48, 49, 50, 51, 52, 53, 54, 55, 56, 57, 43, 47]
def sgn (k : Nat) : Int := ((signsTab.getD k 0 : Nat) : Int)
theorem sgn_at : ∀ z : Fin 64, ((⟨#[65, 66, 67, 68, 69, 70, 71, 72, 73, 74, 75, 76, 77, 78, 79, 80, 81, 82, 83, 84, 85, 86, 87, 88, 89, 90, 97, 98, 99, 100, 101, 102, 103, 104, 105, 106, 107, 108, 109, 110, 111, 112, 113, 114, 115, 116, 117, 118, 119, 120, 121, 122, 48, 49, 50, 51, 52, 53, 54, 55, 56, 57, 43, 47]⟩ : ByteArray)[z.val]?).map (fun b => (b.toNat : Int)) = some (sgn z.val) := by decide +kernel
theorem sign_ix (z : Nat) (hz : z < 64) (W : World) : (Instr.index 9 (.string ⟨#[65, 66, 67, 68, 69, 70, 71, 72, 73, 74, 75, 76, 77, 78, 79, 80, 81, 82, 83, 84, 85, 86, 87, 88, 89, 90, 97, 98, 99, 100, 101, 102, 103, 104, 105, 106, 107, 108, 109, 110, 111, 112, 113, 114, 115, 116, 117, 118, 119, 120, 121, 122, 48, 49, 50, 51, 52, 53, 54, 55, 56, 57, 43, 47]⟩) (.int .u8 z)).run Tryd.prog W = .ok (.int .u8 (sgn z)) W := by
  rw [run_index_string W _ _ _ _ Tryd.underlying9, dif_pos ⟨by omega, by show (z : Int) < 64; omega⟩]
  have h := sgn_at ⟨z, hz⟩
  simp only [Int.toNat_natCast]
  rw [getElem?_pos _ _ (by show z < 64; exact hz)] at h
  simpa using h
theorem four_ix (y0 y1 y2 y3 : Int) (i : Nat) (hi : i < 4) (W : World) : (Instr.index 92 (.agg #[.int .u8 y0, .int .u8 y1, .int .u8 y2, .int .u8 y3]) (.int .i64 i)).run Tryd.prog W = .ok (.int .u8 ([y0, y1, y2, y3].getD i 0)) W := by
  have h : i = 0 ∨ i = 1 ∨ i = 2 ∨ i = 3 := by omega
  rcases h with rfl | rfl | rfl | rfl <;> simp [Instr.index, run_underlying Tryd.underlying92, asIntOf, go_sem]
theorem wraps_u8 (n : Int) (h₀ : 0 ≤ n) (h₁ : n < 2 ^ 8) : IntKind.u8.wrap n = n := by rw [IntKind.wrap_u8]; omega
theorem n8_or (a b : Nat) (ha : a < 256) (hb : b < 256) : Go.bits .or .u8 a b = ((a ||| b : Nat) : Int) := (bits_nat .u8 8 (by decide) wraps_u8 a b ha hb).2
theorem n8_mask (a k : Nat) (ha : a < 256) (hk : k ≤ 8) : Go.bits .and .u8 a ((2 ^ k - 1 : Nat) : Int) = ((a % 2 ^ k : Nat) : Int) := by
  have h2 : 2 ^ k ≤ 2 ^ 8 := Nat.pow_le_pow_right (by decide) hk
  rw [(bits_nat .u8 8 (by decide) wraps_u8 a (2 ^ k - 1) ha (by have := Nat.two_pow_pos k; omega)).1, Nat.and_two_pow_sub_one_eq_mod]
theorem n8_glue (a b k : Nat) (ha : a * 2 ^ k < 256) (hb : b < 2 ^ k) (hb' : b < 256) : Go.bits .or .u8 ((a * 2 ^ k : Nat) : Int) b = ((a * 2 ^ k + b : Nat) : Int) := by
  rw [n8_or _ _ ha hb', Nat.mul_comm, ← Nat.two_pow_add_eq_or_of_lt hb]
/-- The four signs' places of a piece. -/
def four6 (p : List Int) : List Nat := [(p.getD 0 0).toNat / 4, (p.getD 0 0).toNat % 4 * 16 + (p.getD 1 0).toNat / 16, (p.getD 1 0).toNat % 16 * 4 + (p.getD 2 0).toNat / 64, (p.getD 2 0).toNat % 64]
def encAt (p : List Int) (i : Nat) : Int := if i > p.length then 61 else sgn ((four6 p).getD i 0)
def enc3 (p : List Int) : List Int := [encAt p 0, encAt p 1, encAt p 2, encAt p 3]
def encode (xs : List Int) : List Int := ((chunks3 xs).map enc3).flatten

theorem enc3_take (p : List Int) (i : Nat) (h : i < 4) : (enc3 p).take (i + 1) = (enc3 p).take i ++ [encAt p i] := by
  have h : i = 0 ∨ i = 1 ∨ i = 2 ∨ i = 3 := by omega
  rcases h with rfl | rfl | rfl | rfl <;> rfl
theorem enc3_all (p : List Int) : (enc3 p).take 4 = enc3 p := rfl
theorem nums_append (k : IntKind) (a b : List Int) : nums k (a ++ b) = nums k a ++ nums k b := by simp [nums]
theorem enc_len (l : List (List Int)) : ((l.map enc3).flatten).length = 4 * l.length := by
  induction l with
  | nil => rfl
  | cons a l ih => simp only [List.map_cons, List.flatten_cons, List.length_append, ih, List.length_cons]; show 4 + _ = _; omega
theorem pre_len {w0 : World} (pre : List (Pc w0)) : pre.length ≤ (pre.map (·.1.2)).flatten.length := by
  induction pre with
  | nil => simp
  | cons a l ih => have := a.2.2.1; simp only [List.map_cons, List.flatten_cons, List.length_append, List.length_cons]; omega
theorem sgn_lt (k : Nat) : 0 ≤ sgn k ∧ sgn k < 256 := by
  unfold sgn
  by_cases h : k < 64
  · have := (by decide +kernel : ∀ z : Fin 64, signsTab.getD z.val 0 < 256) ⟨k, h⟩
    simp only at this
    omega
  · rw [List.getD_eq_getElem?_getD, List.getElem?_eq_none (by show 64 ≤ k; omega)]
    decide
theorem encode_bytes (xs : List Int) : isBytes (encode xs) := by
  intro y hy
  unfold encode at hy
  obtain ⟨l, hl, hyl⟩ := List.mem_flatten.1 hy
  obtain ⟨p, _, rfl⟩ := List.mem_map.1 hl
  have one : ∀ i, 0 ≤ encAt p i ∧ encAt p i < 256 := fun i => by unfold encAt; split; decide; exact sgn_lt _
  simp only [enc3, List.mem_cons, List.not_mem_nil, or_false] at hyl
  rcases hyl with rfl | rfl | rfl | rfl <;> exact one _
theorem nums_bytes (xs : List Int) (h : isBytes xs) : nums .u8 xs = Lib.byteCells (xs.map fun x => UInt8.ofNat x.toNat) := by
  unfold nums Lib.byteCells
  rw [List.map_map]
  refine List.map_congr_left fun x hx => ?_
  have := h x hx
  simp only [Function.comp_apply, UInt8.toNat_ofNat']
  congr 1
  omega
theorem six_bits (p : List Int) (x0 x1 x2 : Int) (h0 : p.getD 0 0 = x0) (h1 : p.getD 1 0 = x1) (h2 : p.getD 2 0 = x2) (hb : isBytes p) : ∃ y0 y1 y2 y3 : Nat, y0 < 64 ∧ y1 < 64 ∧ y2 < 64 ∧ y3 < 64 ∧ x0 / 4 = (y0 : Int) ∧ Go.bits .or .u8 (Go.bits .and .u8 x0 3 * 16 % 256) (x1 / 16) = (y1 : Int) ∧ Go.bits .or .u8 (Go.bits .and .u8 x1 15 * 4 % 256) (x2 / 64) = (y2 : Int) ∧ Go.bits .and .u8 x2 63 = (y3 : Int) ∧ four6 p = [y0, y1, y2, y3] := by
  have at' : ∀ i, ∃ n : Nat, p.getD i 0 = (n : Int) ∧ n < 256 := fun i => by
    by_cases h : i < p.length
    · have := hb (p.getD i 0) (by simp [h])
      exact ⟨(p.getD i 0).toNat, by omega, by omega⟩
    · exact ⟨0, by simp [List.getElem?_eq_none (Nat.le_of_not_lt h)], by decide⟩
  obtain ⟨n0, e0, b0⟩ := at' 0
  obtain ⟨n1, e1, b1⟩ := at' 1
  obtain ⟨n2, e2, b2⟩ := at' 2
  rw [e0] at h0
  rw [e1] at h1
  rw [e2] at h2
  subst h0 h1 h2
  have m3 := n8_mask n0 2 b0 (by decide)
  have m15 := n8_mask n1 4 b1 (by decide)
  have m63 := n8_mask n2 6 b2 (by decide)
  have g1 := n8_glue (n0 % 4) (n1 / 16) 4 (by omega) (by omega) (by omega)
  have g2 := n8_glue (n1 % 16) (n2 / 64) 2 (by omega) (by omega) (by omega)
  have c3 : ((2 ^ 2 - 1 : Nat) : Int) = 3 := rfl
  have c15 : ((2 ^ 4 - 1 : Nat) : Int) = 15 := rfl
  have c63 : ((2 ^ 6 - 1 : Nat) : Int) = 63 := rfl
  rw [c3] at m3
  rw [c15] at m15
  rw [c63] at m63
  refine ⟨n0 / 4, n0 % 4 * 16 + n1 / 16, n1 % 16 * 4 + n2 / 64, n2 % 64, by omega, by omega, by omega, by omega, by omega, ?_, ?_, m63, ?_⟩
  · rw [m3, show ((n0 % 2 ^ 2 : Nat) : Int) * 16 % 256 = ((n0 % 4 * 2 ^ 4 : Nat) : Int) by omega, show (n1 : Int) / 16 = ((n1 / 16 : Nat) : Int) by omega]
    exact g1
  · rw [m15, show ((n1 % 2 ^ 4 : Nat) : Int) * 4 % 256 = ((n1 % 16 * 2 ^ 2 : Nat) : Int) by omega, show (n2 : Int) / 64 = ((n2 / 64 : Nat) : Int) by omega]
    exact g2
  · unfold four6
    rw [e0, e1, e2]
    simp only [Int.toNat_natCast]

/-- What the caller keeps between two rounds. -/
def EncI (w : World) (w0 : World) (pre : List (Pc w0)) (W : World) : Prop :=
  Lib.IsBuilder 86 5 w.heap.size w.heap.size (nums .u8 ((pre.map (·.1.2)).map enc3).flatten) W ∧ Below w.heap.size w W ∧
    (∃ v, W.heap[w.heap.size + 1]? = some (.cells #[v] 36 (0, 0))) ∧ (∃ v, W.heap[w.heap.size + 2]? = some (.cells #[v] 3 (0, 0)))
theorem keepsOthers_of {b : Nat} {W W' : World} (hs : W.heap.size ≤ W'.heap.size) (h : Lib.OthersKept 5 (some b) W W') (hb : ∀ o, W.heap[b]? = some o → o.isCells = true) : KeepsOthers W W' := by
  refine ⟨hs, fun k o hk ho => h k o hk (fun e => ?_) (fun c fz e => ?_)⟩
  · cases e
    rw [hb o hk] at ho
    cases ho
  · subst e
    cases ho
theorem isBuilder_kept {b B : Nat} {bs : List Value} {W W' : World} (h : Lib.IsBuilder 86 5 B b bs W) (hk : ∀ k c t fz, W.heap[k]? = some (.cells c t fz) → (k = b ∨ t = 5) → W'.heap[k]? = W.heap[k]?) : Lib.IsBuilder 86 5 B b bs W' := by
  have step : ∀ p, Lib.BuilderAt 86 5 B b p bs W → Lib.BuilderAt 86 5 B b p bs W' := by
    rintro p ⟨hB, v, hb, hown, hne⟩
    refine ⟨hB, v, (hk b _ _ _ hb (.inl rfl)).trans hb, own_move hown (fun k hv => ?_), hne⟩
    obtain ⟨cells, hc⟩ := own_typed hown k hv
    exact hk k _ _ _ hc (.inr rfl)
  rcases h with h | h
  · exact .inl (step _ h)
  · exact .inr (step _ h)
theorem heap_new (w : World) (o : Obj) : (w.alloc o).heap[w.heap.size]? = some o := World.alloc_heap_new w o
theorem heap_old (w : World) (o : Obj) (k : Nat) (hk : k < w.heap.size) : (w.alloc o).heap[k]? = w.heap[k]? := Below.heap_alloc _ _ _ hk
theorem heap_new1 (w : World) (a b : Obj) : ((w.alloc a).alloc b).heap[w.heap.size + 1]? = some b := by have := heap_new (w.alloc a) b; rwa [World.size_alloc] at this
theorem heap_new2 (w : World) (a b c : Obj) : (((w.alloc a).alloc b).alloc c).heap[w.heap.size + 2]? = some c := by have := heap_new ((w.alloc a).alloc b) c; rwa [World.size_alloc, World.size_alloc] at this
theorem cells_lt {W : World} {k : Nat} {o : Obj} (h : W.heap[k]? = some o) : k < W.heap.size := (Array.getElem?_eq_some_iff.1 h).1
theorem EncI.alloc {w w0 : World} {pre : List (Pc w0)} {W : World} (h : EncI w w0 pre W) (o : Obj) : EncI w w0 pre (W.alloc o) := by
  obtain ⟨h1, h2, ⟨v, h3⟩, ⟨u, h4⟩⟩ := h
  exact ⟨isBuilder_kept h1 (fun k c t fz hk _ => heap_old _ _ _ (cells_lt hk)), below_alloc h2 _, ⟨v, (heap_old _ _ _ (cells_lt h3)).trans h3⟩, ⟨u, (heap_old _ _ _ (cells_lt h4)).trans h4⟩⟩
theorem EncI.putObj {w w0 : World} {pre : List (Pc w0)} {W : World} (h : EncI w w0 pre W) {l : Nat} {o o' : Obj} (hl : w.heap.size ≤ l) (hlo : W.heap[l]? = some o) (ho : o.isCells = false) : EncI w w0 pre (W.putObj l o') := by
  obtain ⟨h1, h2, ⟨v, h3⟩, ⟨u, h4⟩⟩ := h
  have ne : ∀ k c t fz, W.heap[k]? = some (.cells c t fz) → k ≠ l := fun k c t fz hk e => by
    subst e
    rw [hlo] at hk
    cases hk
    cases ho
  exact ⟨isBuilder_kept h1 (fun k c t fz hk _ => World.putObj_heap_other (ne _ _ _ _ hk)), h2.grown (grownBy_putObj' W l o') h2.size (fun k e => by cases e; exact hl), ⟨v, (World.putObj_heap_other (ne _ _ _ _ h3)).trans h3⟩, ⟨u, (World.putObj_heap_other (ne _ _ _ _ h4)).trans h4⟩⟩
theorem EncI.box {w w0 : World} {pre : List (Pc w0)} {W : World} (h : EncI w w0 pre W) (v : Value) : EncI w w0 pre (W.setCell ⟨w.heap.size + 1, 0, none⟩ v) := by
  obtain ⟨h1, h2, ⟨u, h3⟩, ⟨x, h4⟩⟩ := h
  refine ⟨isBuilder_kept h1 (fun k c t fz hk ht => Below.heap_setCell _ _ _ _ (fun e => ?_)), h2.setCell (p := ⟨w.heap.size + 1, 0, none⟩) (by simp) _, ⟨_, blk_set h3 0 v⟩, ⟨x, blk_far h4 (p := ⟨w.heap.size + 1, 0, none⟩) (by simp) v⟩⟩
  have e' : k = w.heap.size + 1 := e
  subst e'
  rw [h3] at hk
  cases hk
  rcases ht with ht | ht
  · omega
  · exact absurd ht (by decide)

set_option maxRecDepth 100000 in
set_option maxHeartbeats 4000000 in
theorem encode_in (n : Nat) (hn : 6 ≤ n) (A : Option Addr) (c : Nat) (xs : List Int) (w : World) (hr : Kd.C (Kd.int .u8) w A xs.length xs) (hc : xs.length ≤ c) (hx : isBytes xs) (hl : xs.length ≤ 1000000) :
    CallsIn Fence.wide n Tryd.prog 21 #[.slice A xs.length c] w fun e w' => e = .returned (.string (strOfNums (encode xs))) ∧ Below w.heap.size w w' := by
  have hro : Fence.wide.round = none := rfl
  have h1 : 1 ≤ n := by omega
  have hf1 : Fence.wide.fn 54 := trivial
  have hf2 : Fence.wide.fn 82 := trivial
  have HR := Aside0.mk hr
  have HX := Aside0.mk hx
  clear hr hx
  refine callsIn_of_wp_marks Tryd.func21 rfl trivial ?_ hro
  simp only [Tryd.ntmps21, List.size_toArray, List.length_cons, List.length_nil, Nat.reduceAdd, Nat.reduceSub, Array.replicate_succ, Array.replicate_zero, List.push_toArray, List.append_toArray, List.nil_append, List.cons_append]
  gi_wp2_with (gi_at_call 54; refine (pieces_in _ _ hf1 hro A xs.length c _).mono ?_; rintro e w' ⟨rfl, rfl⟩)
  have hB0 : Below w.heap.size w (((w.alloc (.cells #[.pointer none, .slice none 0 0] 86)).alloc (.cells #[.slice A xs.length c] 36)).alloc (.cells #[.int .i64 3] 3)) := below_alloc (below_alloc (below_alloc (Below.refl _ _) _) _) _
  refine range_pieces (w0 := w) (xs := xs) (B1 := w.heap.size + 1) (B2 := w.heap.size + 2) hro (by omega) rfl hf2 rfl HX.out hl (by omega) (by simp) (by simp) ?atRest (EncI w w) ?i1 ?i2 ?i3 ?i0
    (fun x => { tmps := #[.slice A xs.length c, undef, .string ⟨#[]⟩, .pointer (some ⟨w.heap.size, 0, none⟩), .slice (some x.1.1) x.1.2.length x.1.2.length, undef, undef, undef, undef, undef, .slice A xs.length c, .func (.func 82) #[] #[.pointer (some ⟨w.heap.size + 1, 0, none⟩), .pointer (some ⟨w.heap.size + 2, 0, none⟩)], .slice (some x.1.1) x.1.2.length x.1.2.length,
      undef, undef, undef, undef, undef, undef, undef, undef, undef, undef, undef, undef, undef, undef, undef, undef, undef, undef, undef, undef, undef, undef, undef, undef, undef, undef, undef, undef, undef, undef, undef, undef, undef, undef, undef, undef, undef, undef, undef, undef], defers := [] }) ?assign ?body ?done
  case assign =>
    intro l x W K hK
    unfold encPc
    gi_wp2
    exact hK
  case atRest =>
    exact ⟨A, c, (heap_old _ _ _ (by simp)).trans (heap_new1 _ _ _), heap_new2 _ _ _ _, hc, HR.out⟩
  case i1 => exact fun s W v h => h.box v
  case i2 => exact fun s W l o o' h hl hlo ho => h.putObj (Nat.le_trans hB0.size hl) hlo ho
  case i3 => exact fun s W o h => h.alloc o
  case i0 =>
    refine ⟨?_, hB0, ⟨_, (heap_old _ _ _ (by simp)).trans (heap_new1 _ _ _)⟩, ⟨_, heap_new2 _ _ _ _⟩⟩
    refine isBuilder_kept (isBuilder_kept (Lib.fresh_isBuilder 86 5 w) (fun k c t fz hk _ => heap_old _ _ _ (cells_lt hk))) (fun k c t fz hk _ => heap_old _ _ _ (cells_lt hk))
  case done =>
    rintro D ys W hD hS ⟨hb, hB, _⟩ hK
    rw [hS] at hb
    have hbytes : nums .u8 ((chunks3 xs).map enc3).flatten = Lib.byteCells ((encode xs).map fun x => UInt8.ofNat x.toNat) := nums_bytes _ (encode_bytes xs)
    rw [hbytes] at hb
    have HBF := Aside0.mk (Lib.IsBuilderF.of hb)
    have HB := Aside0.mk hB
    clear hb hbytes
    gi_wp2_with (refine ⟨trivial, ?_⟩; gi_at_call 56; refine (callsIn_wide.2 (Tryd.Builder_String_any_k w.heap.size w.heap.size _ W HBF.out HB.out.size)).mono ?_; rintro e W2 ⟨rfl, _, hb2, hk2⟩)
    have hDb : W.heap[w.heap.size]? ≠ some (.deferred (some [])) := by
      intro h
      rcases HBF.out with ⟨_, v, hv, _⟩ | ⟨_, v, hv, _⟩
      · rw [hv] at h; cases h
      · rw [hv] at h; cases h
    have hK2 : W2.heap[D]? = some (.deferred (some [])) := hk2 D _ hK (fun e => by cases e; exact hDb hK) (fun c fz e => by cases e)
    refine ⟨by simp, .inl ⟨_, _, rfl, run_takeDeferred hK2, ?_⟩⟩
    refine ⟨_, results_tmp rfl _ _ _, ?_, (HB.out.trans hb2).grown (grownBy_putObj' W2 D _) (HB.out.trans hb2).size (fun k e => by cases e; exact Nat.le_trans hB0.size hD)⟩
    rfl
  case body =>
    rintro l pre X W hI hlen
    obtain ⟨a, ha⟩ : ∃ a, X.1.1 = a := ⟨_, rfl⟩
    obtain ⟨p, hpe⟩ : ∃ p, X.1.2 = p := ⟨_, rfl⟩
    have hp := X.2
    have HXE := Aside0.mk hpe
    unfold PieceOk at hp
    rw [ha, hpe] at hp
    rw [ha, hpe]
    obtain ⟨hab, hp1, hp3, hpx⟩ := hp
    have HI := Aside0.mk hI
    have HXS := Aside0.mk HX.out
    obtain ⟨x0, hx0⟩ : ∃ x, p.getD 0 0 = x := ⟨_, rfl⟩
    obtain ⟨x1, hx1⟩ : ∃ x, p.getD 1 0 = x := ⟨_, rfl⟩
    obtain ⟨x2, hx2⟩ : ∃ x, p.getD 2 0 = x := ⟨_, rfl⟩
    obtain ⟨k, hk⟩ : ∃ k, p.length = k := ⟨_, rfl⟩
    have hcp := copy_piece a p k W hk (by rw [← hk]; exact hp1) (by rw [← hk]; exact hp3) (by rw [← hk]; exact Kd.C_below hab hI.2.1) 3
    unfold three at hcp
    rw [hx0, hx1, hx2] at hcp
    have HPB := Aside0.mk (And.intro hab hpx)
    have HL := Aside0.mk hlen
    rw [hk] at hp1 hp3 ⊢
    clear hI hab hpx hlen ha hpe
    have HX0 := Aside0.mk hx0
    have HX1 := Aside0.mk hx1
    have HX2 := Aside0.mk hx2
    have HK := Aside0.mk hk
    clear hx0 hx1 hx2
    gi_wp2
    have hidx : ∃ y0 y1 y2 y3 : Nat, y0 < 64 ∧ y1 < 64 ∧ y2 < 64 ∧ y3 < 64 ∧ x0 / 4 = (y0 : Int) ∧ Go.bits .or .u8 (Go.bits .and .u8 x0 3 * 16 % 256) (x1 / 16) = (y1 : Int) ∧ Go.bits .or .u8 (Go.bits .and .u8 x1 15 * 4 % 256) (x2 / 64) = (y2 : Int) ∧ Go.bits .and .u8 x2 63 = (y3 : Int) ∧ four6 p = [y0, y1, y2, y3] := six_bits p x0 x1 x2 HX0.out HX1.out HX2.out HPB.out.2
    obtain ⟨y0, y1, y2, y3, l0, l1, l2, l3, e0, e1, e2, e3, hf6⟩ := hidx
    rw [e0, e1, e2, e3]
    have HF6 := Aside0.mk hf6
    clear e0 e1 e2 e3 hf6 hcp
    gi_loopw [40] (fun i wr => ∃ k : Nat, k ≤ 4 ∧ i = .int .i64 k ∧ Aside0 (Lib.IsBuilder 86 5 w.heap.size w.heap.size (nums .u8 (((pre.map (·.1.2)).map enc3).flatten ++ (enc3 p).take k)) wr) ∧ Aside0 (Below w.heap.size w wr) ∧ Aside0 (Lib.OthersKept 5 (some w.heap.size) W wr) ∧ Aside0 (W.heap.size ≤ wr.heap.size)) (fun i _ => 4 - (intOf i).toNat)
    case atStart =>
      have h2 := (HI.out.alloc (.cells #[.int .u8 x0, .int .u8 x1, .int .u8 x2] 90)).alloc (.cells #[.agg #[.int .u8 y0, .int .u8 y1, .int .u8 y2, .int .u8 y3]] 92)
      exact ⟨0, by decide, rfl, ⟨by simpa using (HI.out.alloc _).alloc _ |>.1⟩, ⟨((HI.out.alloc _).alloc _).2.1⟩, ⟨((Lib.OthersKept.refl _ _ _).alloc _).alloc _⟩, ⟨by simp; omega⟩⟩
    case round =>
      obtain ⟨i, hi, rfl, HB, HBw, HO, HSZ⟩ := hrel
      by_cases hlt : i < 4
      · obtain ⟨z, hz, hzl, hze⟩ : ∃ z : Nat, [(y0 : Int), y1, y2, y3].getD i 0 = (z : Int) ∧ z < 64 ∧ (four6 p).getD i 0 = z := by
          rw [HF6.out]
          have h : i = 0 ∨ i = 1 ∨ i = 2 ∨ i = 3 := by omega
          rcases h with rfl | rfl | rfl | rfl
          · exact ⟨y0, rfl, l0, rfl⟩
          · exact ⟨y1, rfl, l1, rfl⟩
          · exact ⟨y2, rfl, l2, rfl⟩
          · exact ⟨y3, rfl, l3, rfl⟩
        have hix := four_ix y0 y1 y2 y3 i hlt
        rw [hz] at hix
        have hsg := sign_ix z hzl
        have HZ := Aside0.mk hze
        have HLT := Aside0.mk hlt
        clear hz hze
        have hsz : (nums .u8 (((pre.map (·.1.2)).map enc3).flatten ++ (enc3 p).take i)).length + 1 ≤ 140737488355328 := by
          rw [nums_length, List.length_append, List.length_take, enc_len, List.length_map]
          have := pre_len pre
          have := HL.out
          omega
        have N1 : ∀ W', Below w.heap.size w W' → Lib.IsBuilder 86 5 w.heap.size w.heap.size (nums .u8 (((pre.map (·.1.2)).map enc3).flatten ++ (enc3 p).take i)) W' → _ := fun W' h1 h2 => fun c => writeByte_any w.heap.size w.heap.size _ c W' h2 hsz h1.size
        by_cases hgt : k < i
        · gi_wp2
          refine ⟨trivial, fun _ => by omega, ?_⟩
          refine (CallsIn.inRound l (callsIn_wide.2 (N1 _ HBw.out HB.out (61)))).mono ?_
          rintro e w1 ⟨rfl, hb1, hB1, hO1⟩
          have HB1 := Aside0.mk hb1
          have HB2 := Aside0.mk (HBw.out.trans hB1)
          have HO1 := Aside0.mk hO1
          have HS1 := Aside0.mk hB1.size
          clear hb1 hB1 hO1
          gi_wp2
          go_roundw
          case rel =>
            refine ⟨i + 1, by omega, by go_num, ⟨?_⟩, HB2, ⟨HO.out.trans HO1.out⟩, ⟨Nat.le_trans HSZ.out HS1.out⟩⟩
            rw [enc3_take p i HLT.out, ← List.append_assoc, nums_append]
            have e : encAt p i = 61 := by unfold encAt; rw [HK.out]; exact if_pos hgt
            rw [e]
            exact .inr HB1.out
          case measure => simp [intOf]; omega
        · gi_wp2
          refine ⟨trivial, fun _ => by omega, ?_⟩
          refine (CallsIn.inRound l (callsIn_wide.2 (N1 _ HBw.out HB.out (sgn z)))).mono ?_
          rintro e w1 ⟨rfl, hb1, hB1, hO1⟩
          have HB1 := Aside0.mk hb1
          have HB2 := Aside0.mk (HBw.out.trans hB1)
          have HO1 := Aside0.mk hO1
          have HS1 := Aside0.mk hB1.size
          clear hb1 hB1 hO1
          gi_wp2
          go_roundw
          case rel =>
            refine ⟨i + 1, by omega, by go_num, ⟨?_⟩, HB2, ⟨HO.out.trans HO1.out⟩, ⟨Nat.le_trans HSZ.out HS1.out⟩⟩
            rw [enc3_take p i HLT.out, ← List.append_assoc, nums_append]
            have e : encAt p i = sgn z := by unfold encAt; rw [HK.out, if_neg (by omega), HZ.out]
            rw [e]
            exact .inr HB1.out
          case measure => simp [intOf]; omega
      · have hie : i = 4 := by omega
        subst hie
        gi_wp2
        have h0 := HI.out
        obtain ⟨q1, q2, ⟨v, q3⟩, ⟨u, q4⟩⟩ := h0
        have r3 := HO.out _ _ q3 (fun e => by have := Option.some.inj e; omega) (fun c fz e => by cases e)
        have r4 := HO.out _ _ q4 (fun e => by have := Option.some.inj e; omega) (fun c fz e => by cases e)
        refine ⟨keepsOthers_of HSZ.out HO.out ?_, ⟨r3.trans q3.symm, r4.trans q4.symm⟩, ?_, HBw.out, ⟨v, r3⟩, ⟨u, r4⟩⟩
        · intro o ho
          rcases q1 with ⟨_, v, hv, _⟩ | ⟨_, v, hv, _⟩
          · rw [hv] at ho; cases ho; rfl
          · rw [hv] at ho; cases ho; rfl
        · have := HB.out
          rw [enc3_all] at this
          rw [List.map_append, List.map_append, List.flatten_append]
          simp only [List.map_cons, List.map_nil, List.flatten_cons, List.flatten_nil, List.append_nil]
          rw [HXE.out]
          exact this
/-- basic.Encode. -/
theorem Encode_any (A : Option Addr) (c : Nat) (xs : List Int) (w : World) (hr : Kd.C (Kd.int .u8) w A xs.length xs) (hc : xs.length ≤ c) (hx : isBytes xs) (hl : xs.length ≤ 1000000) :
    Calls Tryd.prog 21 #[.slice A xs.length c] w fun e w' => e = .returned (.string (strOfNums (encode xs))) ∧ Below w.heap.size w w' :=
  callsIn_wide.1 (encode_in 6 (Nat.le_refl _) A c xs w hr hc hx hl)
end Go.Proofs.YteajidciahoboaaDoor.H
-- Pzracewayref22Encode
-- PRINTED by print.py (a twelfth state) out of the translation. Not trusted: Lean checks it.
namespace Go.Proofs.YteajidciahoboaaDoor.P
open Go.RowKit Go.Proofs.YteajidciahoboaaDoorW.PrintWords Go.Proofs.YteajidciahoboaaDoorW.PrintLast Go.Proofs.YteajidciahoboaaDoorW.PrintMore
attribute [local go_sem] max2_int min2_int max_two min_two max_three min_three max_four min_four   -- for this text's walks alone
set_option linter.unusedVariables false
set_option linter.unusedSimpArgs false

/-! ### racewayref22_Encode: function 26 -/
mutual
def racewayref22_Encode.l0 : Nat → List Int → List Int → Int → Option (ByteArray)
  | 0, _, _, _ => none
  | k + 1, x0, x3, x4 => if x4 < (x0.length : Int) then (racewayref22_Encode.l1 k x0 x3 x4 128) else (racewayref22_Encode.l2 k x3)
def racewayref22_Encode.l1 : Nat → List Int → List Int → Int → Int → Option (ByteArray)
  | 0, _, _, _, _ => none
  | k + 1, x0, x3, x4, x5 => if x5 > 0 then (if 0 ≤ x4 then (if x4 < (x0.length : Int) then (if x5 = 0 then (none) else (if x3.length < 17592186044416 then (racewayref22_Encode.l1 k x0 (x3 ++ [Int.tmod (wrap64 (Int.tdiv (wrap64 (rd x0 x4)) x5)) 2]) x4 (wrap64 (Int.tdiv x5 2))) else (none))) else (none)) else (none)) else (racewayref22_Encode.l0 k x0 x3 (wrap64 (x4 + 1)))
def racewayref22_Encode.l2 : Nat → List Int → Option (ByteArray)
  | 0, _ => none
  | k + 1, x3 => if ((x3.length : Int) % 6) = 0 then (racewayref22_Encode.l3 k x3 (⟨#[]⟩ : ByteArray) 0) else (if x3.length < 17592186044416 then (racewayref22_Encode.l2 k (x3 ++ [0])) else (none))
def racewayref22_Encode.l3 : Nat → List Int → ByteArray → Int → Option (ByteArray)
  | 0, _, _, _ => none
  | k + 1, x3, x6, x7 => if x7 < (x3.length : Int) then (racewayref22_Encode.l4 k x3 x6 x7 0 0) else (racewayref22_Encode.l5 k x6)
def racewayref22_Encode.l4 : Nat → List Int → ByteArray → Int → Int → Int → Option (ByteArray)
  | 0, _, _, _, _, _ => none
  | k + 1, x3, x6, x7, x8, x9 => if x9 < 6 then (if 0 ≤ (wrap64 (x7 + x9)) then (if (wrap64 (x7 + x9)) < (x3.length : Int) then (racewayref22_Encode.l4 k x3 x6 x7 (wrap64 ((wrap64 (2 * x8)) + (rd x3 (wrap64 (x7 + x9))))) (wrap64 (x9 + 1))) else (none)) else (none)) else (if 0 ≤ x8 then (if x8 ≤ (wrap64 (x8 + 1)) then (if (wrap64 (x8 + 1)) ≤ 64 then (if x6.size + ((⟨#[65, 66, 67, 68, 69, 70, 71, 72, 73, 74, 75, 76, 77, 78, 79, 80, 81, 82, 83, 84, 85, 86, 87, 88, 89, 90, 97, 98, 99, 100, 101, 102, 103, 104, 105, 106, 107, 108, 109, 110, 111, 112, 113, 114, 115, 116, 117, 118, 119, 120, 121, 122, 48, 49, 50, 51, 52, 53, 54, 55, 56, 57, 43, 47]⟩ : ByteArray).extract (x8 : Int).toNat ((wrap64 (x8 + 1)) : Int).toNat).size ≤ 9223372036854775807 then (racewayref22_Encode.l3 k x3 (x6 ++ ((⟨#[65, 66, 67, 68, 69, 70, 71, 72, 73, 74, 75, 76, 77, 78, 79, 80, 81, 82, 83, 84, 85, 86, 87, 88, 89, 90, 97, 98, 99, 100, 101, 102, 103, 104, 105, 106, 107, 108, 109, 110, 111, 112, 113, 114, 115, 116, 117, 118, 119, 120, 121, 122, 48, 49, 50, 51, 52, 53, 54, 55, 56, 57, 43, 47]⟩ : ByteArray).extract (x8 : Int).toNat ((wrap64 (x8 + 1)) : Int).toNat)) (wrap64 (x7 + 6))) else (none)) else (none)) else (none)) else (none))
def racewayref22_Encode.l5 : Nat → ByteArray → Option (ByteArray)
  | 0, _ => none
  | k + 1, x6 => if ((x6.size : Int) % 4) = 0 then (some x6) else (if x6.size + 1 ≤ 9223372036854775807 then (racewayref22_Encode.l5 k (x6 ++ (⟨#[61]⟩ : ByteArray))) else (none))
end
def racewayref22_Encode.f (k : Nat) (l0 : List Int) : Option (ByteArray) := racewayref22_Encode.l0 k l0 ([] : List Int) 0
theorem racewayref22_Encode.mono_l : ∀ k, (∀ y0 y1 y2, LeO (racewayref22_Encode.l0 k y0 y1 y2) (racewayref22_Encode.l0 (k + 1) y0 y1 y2)) ∧ (∀ y0 y1 y2 y3, LeO (racewayref22_Encode.l1 k y0 y1 y2 y3) (racewayref22_Encode.l1 (k + 1) y0 y1 y2 y3)) ∧ (∀ y0, LeO (racewayref22_Encode.l2 k y0) (racewayref22_Encode.l2 (k + 1) y0)) ∧ (∀ y0 y1 y2, LeO (racewayref22_Encode.l3 k y0 y1 y2) (racewayref22_Encode.l3 (k + 1) y0 y1 y2)) ∧ (∀ y0 y1 y2 y3 y4, LeO (racewayref22_Encode.l4 k y0 y1 y2 y3 y4) (racewayref22_Encode.l4 (k + 1) y0 y1 y2 y3 y4)) ∧ (∀ y0, LeO (racewayref22_Encode.l5 k y0) (racewayref22_Encode.l5 (k + 1) y0))
  | 0 => ⟨fun _ _ _ r h => by simp [racewayref22_Encode.l0] at h, fun _ _ _ _ r h => by simp [racewayref22_Encode.l1] at h, fun _ r h => by simp [racewayref22_Encode.l2] at h, fun _ _ _ r h => by simp [racewayref22_Encode.l3] at h, fun _ _ _ _ _ r h => by simp [racewayref22_Encode.l4] at h, fun _ r h => by simp [racewayref22_Encode.l5] at h⟩
  | k + 1 => by
    obtain ⟨ih0, ih1, ih2, ih3, ih4, ih5⟩ := racewayref22_Encode.mono_l k
    refine ⟨?_, ?_, ?_, ?_, ?_, ?_⟩
    · intro y0 y1 y2
      unfold racewayref22_Encode.l0
      repeat' first
      | (with_reducible exact ih0 _ _ _)
      | (with_reducible exact ih1 _ _ _ _)
      | (with_reducible exact ih2 _)
      | (with_reducible exact ih3 _ _ _)
      | (with_reducible exact ih4 _ _ _ _ _)
      | (with_reducible exact ih5 _)
      | (with_reducible exact LeO.refl _)
      | (with_reducible exact LeO.none _)
      | (with_reducible refine LeO.ite ?_ ?_)
      | (with_reducible refine LeO.bind ?_ (fun _ => ?_))
      | exact ih0 _ _ _
      | exact ih1 _ _ _ _
      | exact ih2 _
      | exact ih3 _ _ _
      | exact ih4 _ _ _ _ _
      | exact ih5 _
      | exact LeO.none _
      | refine LeO.ite ?_ ?_
      | refine LeO.bind ?_ (fun _ => ?_)
    · intro y0 y1 y2 y3
      unfold racewayref22_Encode.l1
      repeat' first
      | (with_reducible exact ih0 _ _ _)
      | (with_reducible exact ih1 _ _ _ _)
      | (with_reducible exact ih2 _)
      | (with_reducible exact ih3 _ _ _)
      | (with_reducible exact ih4 _ _ _ _ _)
      | (with_reducible exact ih5 _)
      | (with_reducible exact LeO.refl _)
      | (with_reducible exact LeO.none _)
      | (with_reducible refine LeO.ite ?_ ?_)
      | (with_reducible refine LeO.bind ?_ (fun _ => ?_))
      | exact ih0 _ _ _
      | exact ih1 _ _ _ _
      | exact ih2 _
      | exact ih3 _ _ _
      | exact ih4 _ _ _ _ _
      | exact ih5 _
      | exact LeO.none _
      | refine LeO.ite ?_ ?_
      | refine LeO.bind ?_ (fun _ => ?_)
    · intro y0
      unfold racewayref22_Encode.l2
      repeat' first
      | (with_reducible exact ih0 _ _ _)
      | (with_reducible exact ih1 _ _ _ _)
      | (with_reducible exact ih2 _)
      | (with_reducible exact ih3 _ _ _)
      | (with_reducible exact ih4 _ _ _ _ _)
      | (with_reducible exact ih5 _)
      | (with_reducible exact LeO.refl _)
      | (with_reducible exact LeO.none _)
      | (with_reducible refine LeO.ite ?_ ?_)
      | (with_reducible refine LeO.bind ?_ (fun _ => ?_))
      | exact ih0 _ _ _
      | exact ih1 _ _ _ _
      | exact ih2 _
      | exact ih3 _ _ _
      | exact ih4 _ _ _ _ _
      | exact ih5 _
      | exact LeO.none _
      | refine LeO.ite ?_ ?_
      | refine LeO.bind ?_ (fun _ => ?_)
    · intro y0 y1 y2
      unfold racewayref22_Encode.l3
      repeat' first
      | (with_reducible exact ih0 _ _ _)
      | (with_reducible exact ih1 _ _ _ _)
      | (with_reducible exact ih2 _)
      | (with_reducible exact ih3 _ _ _)
      | (with_reducible exact ih4 _ _ _ _ _)
      | (with_reducible exact ih5 _)
      | (with_reducible exact LeO.refl _)
      | (with_reducible exact LeO.none _)
      | (with_reducible refine LeO.ite ?_ ?_)
      | (with_reducible refine LeO.bind ?_ (fun _ => ?_))
      | exact ih0 _ _ _
      | exact ih1 _ _ _ _
      | exact ih2 _
      | exact ih3 _ _ _
      | exact ih4 _ _ _ _ _
      | exact ih5 _
      | exact LeO.none _
      | refine LeO.ite ?_ ?_
      | refine LeO.bind ?_ (fun _ => ?_)
    · intro y0 y1 y2 y3 y4
      unfold racewayref22_Encode.l4
      repeat' first
      | (with_reducible exact ih0 _ _ _)
      | (with_reducible exact ih1 _ _ _ _)
      | (with_reducible exact ih2 _)
      | (with_reducible exact ih3 _ _ _)
      | (with_reducible exact ih4 _ _ _ _ _)
      | (with_reducible exact ih5 _)
      | (with_reducible exact LeO.refl _)
      | (with_reducible exact LeO.none _)
      | (with_reducible refine LeO.ite ?_ ?_)
      | (with_reducible refine LeO.bind ?_ (fun _ => ?_))
      | exact ih0 _ _ _
      | exact ih1 _ _ _ _
      | exact ih2 _
      | exact ih3 _ _ _
      | exact ih4 _ _ _ _ _
      | exact ih5 _
      | exact LeO.none _
      | refine LeO.ite ?_ ?_
      | refine LeO.bind ?_ (fun _ => ?_)
    · intro y0
      unfold racewayref22_Encode.l5
      repeat' first
      | (with_reducible exact ih0 _ _ _)
      | (with_reducible exact ih1 _ _ _ _)
      | (with_reducible exact ih2 _)
      | (with_reducible exact ih3 _ _ _)
      | (with_reducible exact ih4 _ _ _ _ _)
      | (with_reducible exact ih5 _)
      | (with_reducible exact LeO.refl _)
      | (with_reducible exact LeO.none _)
      | (with_reducible refine LeO.ite ?_ ?_)
      | (with_reducible refine LeO.bind ?_ (fun _ => ?_))
      | exact ih0 _ _ _
      | exact ih1 _ _ _ _
      | exact ih2 _
      | exact ih3 _ _ _
      | exact ih4 _ _ _ _ _
      | exact ih5 _
      | exact LeO.none _
      | refine LeO.ite ?_ ?_
      | refine LeO.bind ?_ (fun _ => ?_)
theorem racewayref22_Encode.mono : ∀ a0 k, LeO (racewayref22_Encode.f k a0) (racewayref22_Encode.f (k + 1) a0) := by
  intro a0 k
  obtain ⟨ih0, ih1, ih2, ih3, ih4, ih5⟩ := racewayref22_Encode.mono_l k
  unfold racewayref22_Encode.f
  repeat' first
      | (with_reducible exact ih0 _ _ _)
      | (with_reducible exact ih1 _ _ _ _)
      | (with_reducible exact ih2 _)
      | (with_reducible exact ih3 _ _ _)
      | (with_reducible exact ih4 _ _ _ _ _)
      | (with_reducible exact ih5 _)
      | (with_reducible exact LeO.refl _)
      | (with_reducible exact LeO.none _)
      | (with_reducible refine LeO.ite ?_ ?_)
      | (with_reducible refine LeO.bind ?_ (fun _ => ?_))
      | exact ih0 _ _ _
      | exact ih1 _ _ _ _
      | exact ih2 _
      | exact ih3 _ _ _
      | exact ih4 _ _ _ _ _
      | exact ih5 _
      | exact LeO.none _
      | refine LeO.ite ?_ ?_
      | refine LeO.bind ?_ (fun _ => ?_)
set_option maxHeartbeats 8000000 in
set_option maxRecDepth 100000 in
theorem racewayref22_Encode.calls (k : Nat) (A0 : Option Addr) (c0 : Nat) (l0 : List Int) (r : ByteArray) (w : World) (hr0 : Kd.C (Kd.int .u8) w A0 l0.length l0) (hc0 : l0.length ≤ c0) (h : racewayref22_Encode.f k l0 = some r) :
    Calls Tryd.prog 26 #[.slice A0 l0.length c0] w fun e w' => e = .returned (.string r) ∧ Below w.heap.size w w' := by
  have HR0 := Aside0.mk hr0
  have HC0 := Aside0.mk hc0
  clear hr0 hc0
  have HB := Aside0.mk (Below.refl w.heap.size w)
  have H : (racewayref22_Encode.l0 k l0 ([] : List Int) 0) = some r := h
  clear h
  have H' := Aside0.mk H
  clear H
  go_enter Tryd.func26, Tryd.ntmps26
  go_wp2
  go_loopg [3, 4] k (fun kq v3 v4 w' => ∃ (x3_1 : List Int) (x4_1 : Int), v4 = .int .i64 x4_1 ∧ Aside0 (racewayref22_Encode.l0 kq l0 x3_1 x4_1 = some r) ∧ Aside0 (kq ≤ k) ∧ Aside0 (Kd.R (Kd.int .i64) 3 w' w.heap.size (fun _ => True) v3 x3_1) ∧ Aside0 (Below w.heap.size w w'))
  case atStart => exact ⟨(([] : List Int)), (0), (by first | rfl | (simp; done) | (simp [*]; done)), H', ⟨Nat.le_refl _⟩, ⟨by first | exact Kd.R_nil _ _ _ _ _ | exact Kd.N_nil _ _ _ _ _ | exact Kd.V_nil _ _ _ _ _ | exact Kd.Q_nil _ _ _ _ _ | exact Kd.S_nil _ _ _ _ _⟩, ⟨by repeat (first | (with_reducible first | exact HB.out | apply below_alloc | apply pw_below_drewN | apply below_drew1) | exact HB.out)⟩⟩
  case round =>
    clear H'
    obtain ⟨x3_1, x4_1, rfl, HA, HK1, HO_3, HB⟩ := hrel
    cases gk with
    | zero => exact absurd HA.out (by simp [racewayref22_Encode.l0])
    | succ k1 =>
      have H := HA.out
      clear HA
      simp only [racewayref22_Encode.l0] at H
      by_cases c2 : x4_1 < (l0.length : Int)
      · rw [if_pos c2] at H
        have c2b0 : decide (x4_1 < (l0.length : Int)) = true := decide_eq_true c2
        clear c2
        have H' := Aside0.mk H
        clear H
        go_wp2
        go_loopg [3, 5] k1 (fun kq v3 v5 w' => ∃ (x3_2 : List Int) (x5_2 : Int), v5 = .int .i64 x5_2 ∧ Aside0 (racewayref22_Encode.l1 kq l0 x3_2 x4_1 x5_2 = some r) ∧ Aside0 (kq ≤ k1) ∧ Aside0 (Kd.R (Kd.int .i64) 3 w' w.heap.size (fun _ => True) v3 x3_2) ∧ Aside0 (Below w.heap.size w w'))
        case atStart => exact ⟨(x3_1), (128), (by first | rfl | (simp; done) | (simp [*]; done)), H', ⟨Nat.le_refl _⟩, ⟨by (with_reducible repeat (first | apply Kd.R_alloc | apply Kd.R_drewN | apply Kd.R_drew)); exact HO_3.out⟩, ⟨by repeat (first | (with_reducible first | exact HB.out | apply below_alloc | apply pw_below_drewN | apply below_drew1) | exact HB.out)⟩⟩
        case round =>
          clear H'
          try clear c2
          try clear c2b0
          try clear p2
          obtain ⟨x3_2, x5_2, rfl, HA, HK2, HO_3, HB⟩ := hrel
          cases gk with
          | zero => exact absurd HA.out (by simp [racewayref22_Encode.l1])
          | succ k2 =>
            have H := HA.out
            clear HA
            simp only [racewayref22_Encode.l1] at H
            by_cases c3 : x5_2 > 0
            · rw [if_pos c3] at H
              have c3b0 : decide (0 < x5_2) = true := decide_eq_true c3
              clear c3
              by_cases c4 : 0 ≤ x4_1
              · rw [if_pos c4] at H
                have c4b0 : decide (0 ≤ x4_1) = true := decide_eq_true c4
                clear c4
                by_cases c5 : x4_1 < (l0.length : Int)
                · rw [if_pos c5] at H
                  have c5b0 : decide (x4_1 < (l0.length : Int)) = true := decide_eq_true c5
                  clear c5
                  by_cases c6 : x5_2 = 0
                  · rw [if_pos c6] at H
                    exact absurd H (by simp)
                  · rw [if_neg c6] at H
                    have c6b0 : (x5_2 == 0) = false := beq_eq_false_iff_ne.mpr c6
                    have c6b1 : (x5_2 != 0) = true := bne_iff_ne.mpr c6
                    by_cases c7 : x3_2.length < 17592186044416
                    · rw [if_pos c7] at H
                      have LMc7 := Aside0.mk c7
                      clear c7
                      obtain ⟨y162, hy162⟩ : ∃ y_ : List Int, y_ = (x3_2 ++ [Int.tmod (wrap64 (Int.tdiv (wrap64 (rd l0 x4_1)) x5_2)) 2]) := ⟨_, rfl⟩
                      replace H : (racewayref22_Encode.l1 k2 l0 y162 x4_1 (wrap64 (Int.tdiv x5_2 2))) = some r := by first | (rw [hy162]; with_reducible exact H) | (have H2_ := (Option.bind_some _ _).symm.trans H; rw [hy162]; with_reducible exact H2_) | (have H2_ := (Option.bind_some _ _).symm.trans H; with_reducible exact H2_) | with_reducible exact H | (rw [hy162]; exact H) | exact H
                      have Ny162 := Aside0.mk hy162
                      clear hy162
                      have H' := Aside0.mk H
                      clear H
                      have p161 : 0 ≤ (x4_1 : Int) := of_decide_eq_true (by first | (with_reducible assumption) | assumption)
                      have q161 : x4_1 < (l0.length : Int) := of_decide_eq_true (by first | (with_reducible assumption) | assumption)
                      obtain ⟨ad161, e161, hx161_0⟩ := Kd.at_int HR0.out x4_1 p161 q161
                      cases e161
                      replace hx161_0 := (HB.out.cell (World.block_lt_of_cell? w _ hx161_0)).trans hx161_0
                      replace p161 := eq_true p161
                      replace q161 := eq_true q161
                      go_wp2_with (first | ((with_reducible refine gate_builtin (b := .append) (xs := #[.tmp 20, .tmp 29]) rfl ?_); at_builtin; refine Kd.R_append (Kd.int .i64) (w0 := w) w.heap.size rfl (.tmp 20) (.tmp 29) 45 3 (.int .i64 0) 8 rfl Tryd.underlying45 info3 rfl (by decide) (by omega) u3 x3_2 (Int.tmod (wrap64 (Int.tdiv (wrap64 (rd l0 x4_1)) x5_2)) 2) [.int .i64 (Int.tmod (wrap64 (Int.tdiv (wrap64 (rd l0 x4_1)) x5_2)) 2)] (fun _ => True) (fun _ => False) rfl rfl ?aP (fun _ hk => hk.elim) ?aF ?aO ?aB ?aS ?aL ?_; (case aP => exact rfl); (case aB => exact (by repeat (first | (with_reducible first | exact HB.out | apply below_alloc | apply pw_below_drewN | apply below_drew1) | exact HB.out))); (case aF => exact (fun _ _ => trivial)); (case aO => exact (by (with_reducible repeat (first | apply Kd.R_alloc | apply Kd.R_drewN | apply Kd.R_drew)); exact HO_3.out)); (case aS => exact (below_size (by repeat (first | (with_reducible first | exact HB.out | apply below_alloc | apply pw_below_drewN | apply below_drew1) | exact HB.out)))); (case aL => have := LMc7.out; omega); intro v163 w8 ho hb hg hat; rw [← Ny162.out] at ho; have n0_ := Aside0.mk (hb); have n1_ := Aside0.mk (ho); clear HB; clear HO_3; have HB := n0_; have HO164 := n1_; clear n0_ n1_; clear ho hb hg hat))
                      go_roundg k2
                      case measure => have := HK1.out; have := HK2.out; omega
                      case rel => exact ⟨(y162), (wrap64 (Int.tdiv x5_2 2)), (by first | rfl | (simp; done) | (simp [*]; done)), H', ⟨by have := HK1.out; have := HK2.out; omega⟩, ⟨by (with_reducible repeat (first | apply Kd.R_alloc | apply Kd.R_drewN | apply Kd.R_drew)); exact HO164.out⟩, ⟨by repeat (first | (with_reducible first | exact HB.out | apply below_alloc | apply pw_below_drewN | apply below_drew1) | exact HB.out)⟩⟩
                    · rw [if_neg c7] at H
                      exact absurd H (by simp)
                · rw [if_neg c5] at H
                  exact absurd H (by simp)
              · rw [if_neg c4] at H
                exact absurd H (by simp)
            · rw [if_neg c3] at H
              have c3b0 : decide (0 < x5_2) = false := decide_eq_false c3
              clear c3
              have H' := Aside0.mk H
              clear H
              go_wp2
              go_roundg k2
              case measure => have := HK1.out; have := HK2.out; omega
              case rel => exact ⟨(x3_2), (wrap64 (x4_1 + 1)), (by first | rfl | (simp; done) | (simp [*]; done)), H', ⟨by have := HK1.out; have := HK2.out; omega⟩, ⟨by (with_reducible repeat (first | apply Kd.R_alloc | apply Kd.R_drewN | apply Kd.R_drew)); exact HO_3.out⟩, ⟨by repeat (first | (with_reducible first | exact HB.out | apply below_alloc | apply pw_below_drewN | apply below_drew1) | exact HB.out)⟩⟩
      · rw [if_neg c2] at H
        have c2b0 : decide (x4_1 < (l0.length : Int)) = false := decide_eq_false c2
        clear c2
        have H' := Aside0.mk H
        clear H
        go_wp2
        go_loopg [3] k1 (fun kq v3 w' => ∃ (x3_2 : List Int), Aside0 (racewayref22_Encode.l2 kq x3_2 = some r) ∧ Aside0 (kq ≤ k1) ∧ Aside0 (Kd.R (Kd.int .i64) 3 w' w.heap.size (fun _ => True) v3 x3_2) ∧ Aside0 (Below w.heap.size w w'))
        case atStart => exact ⟨(x3_1), H', ⟨Nat.le_refl _⟩, ⟨by (with_reducible repeat (first | apply Kd.R_alloc | apply Kd.R_drewN | apply Kd.R_drew)); exact HO_3.out⟩, ⟨by repeat (first | (with_reducible first | exact HB.out | apply below_alloc | apply pw_below_drewN | apply below_drew1) | exact HB.out)⟩⟩
        case round =>
          clear H'
          try clear p1
          try clear q1
          try clear hx1
          try clear c2
          try clear c2b0
          try clear p2
          try clear c3
          try clear c3b0
          try clear c4
          try clear c4b0
          try clear c5
          try clear c5b0
          try clear c6
          try clear c6b0
          try clear c6b1
          try clear p6
          try clear c7
          try clear hx161_0
          try clear p161
          try clear p2
          try clear q161
          obtain ⟨x3_2, HA, HK2, HO_3, HB⟩ := hrel
          cases gk with
          | zero => exact absurd HA.out (by simp [racewayref22_Encode.l2])
          | succ k2 =>
            have H := HA.out
            clear HA
            simp only [racewayref22_Encode.l2] at H
            by_cases c9 : ((x3_2.length : Int) % 6) = 0
            · rw [if_pos c9] at H
              have c9b0 : (((x3_2.length : Int) % 6) == 0) = true := beq_iff_eq.mpr c9
              have c9b1 : (((x3_2.length : Int) % 6) != 0) = false := bne_eq_false_iff_eq.mpr c9
              clear c9
              have H' := Aside0.mk H
              clear H
              obtain ⟨Ao10, co10, eo10⟩ := Kd.R_slice HO_3.out
              subst eo10
              go_wp2
              go_loopg [6, 7] k2 (fun kq v6 v7 w' => ∃ (x6_3 : ByteArray) (x7_3 : Int), v6 = .string x6_3 ∧ v7 = .int .i64 x7_3 ∧ Aside0 (racewayref22_Encode.l3 kq x3_2 x6_3 x7_3 = some r) ∧ Aside0 (kq ≤ k2) ∧ Aside0 (Kd.R (Kd.int .i64) 3 w' w.heap.size (fun _ => True) (.slice Ao10 x3_2.length co10) x3_2) ∧ Aside0 (Below w.heap.size w w'))
              case atStart => exact ⟨((⟨#[]⟩ : ByteArray)), (0), (by first | rfl | (simp; done) | (simp [*]; done)), (by first | rfl | (simp; done) | (simp [*]; done)), H', ⟨Nat.le_refl _⟩, ⟨by (with_reducible repeat (first | apply Kd.R_alloc | apply Kd.R_drewN | apply Kd.R_drew)); exact HO_3.out⟩, ⟨by repeat (first | (with_reducible first | exact HB.out | apply below_alloc | apply pw_below_drewN | apply below_drew1) | exact HB.out)⟩⟩
              case round =>
                clear H'
                try clear p1
                try clear q1
                try clear hx1
                try clear c2
                try clear c2b0
                try clear p2
                try clear c3
                try clear c3b0
                try clear c4
                try clear c4b0
                try clear c5
                try clear c5b0
                try clear c6
                try clear c6b0
                try clear c6b1
                try clear p6
                try clear c7
                try clear c9
                try clear c9b0
                try clear c9b1
                try clear hx161_0
                try clear p1
                try clear p161
                try clear p2
                try clear p6
                try clear q1
                try clear q161
                obtain ⟨x6_3, x7_3, rfl, rfl, HA, HK3, HO_3, HB⟩ := hrel
                cases gk with
                | zero => exact absurd HA.out (by simp [racewayref22_Encode.l3])
                | succ k3 =>
                  have H := HA.out
                  clear HA
                  simp only [racewayref22_Encode.l3] at H
                  by_cases c11 : x7_3 < (x3_2.length : Int)
                  · rw [if_pos c11] at H
                    have c11b0 : decide (x7_3 < (x3_2.length : Int)) = true := decide_eq_true c11
                    clear c11
                    have H' := Aside0.mk H
                    clear H
                    go_wp2
                    go_loopg [8, 9] k3 (fun kq v8 v9 w' => ∃ (x8_4 : Int) (x9_4 : Int), v8 = .int .i64 x8_4 ∧ v9 = .int .i64 x9_4 ∧ Aside0 (racewayref22_Encode.l4 kq x3_2 x6_3 x7_3 x8_4 x9_4 = some r) ∧ Aside0 (kq ≤ k3) ∧ Aside0 (Kd.R (Kd.int .i64) 3 w' w.heap.size (fun _ => True) (.slice Ao10 x3_2.length co10) x3_2) ∧ Aside0 (Below w.heap.size w w'))
                    case atStart => exact ⟨(0), (0), (by first | rfl | (simp; done) | (simp [*]; done)), (by first | rfl | (simp; done) | (simp [*]; done)), H', ⟨Nat.le_refl _⟩, ⟨by (with_reducible repeat (first | apply Kd.R_alloc | apply Kd.R_drewN | apply Kd.R_drew)); exact HO_3.out⟩, ⟨by repeat (first | (with_reducible first | exact HB.out | apply below_alloc | apply pw_below_drewN | apply below_drew1) | exact HB.out)⟩⟩
                    case round =>
                      clear H'
                      try clear c1
                      try clear p1
                      try clear q1
                      try clear hx1
                      try clear c2
                      try clear c2b0
                      try clear p2
                      try clear c3
                      try clear c3b0
                      try clear c4
                      try clear c4b0
                      try clear c5
                      try clear c5b0
                      try clear c6
                      try clear c6b0
                      try clear c6b1
                      try clear p6
                      try clear c7
                      try clear c9
                      try clear c9b0
                      try clear c9b1
                      try clear c11
                      try clear c11b0
                      try clear hx161_0
                      try clear p1
                      try clear p161
                      try clear p2
                      try clear p6
                      try clear q1
                      try clear q161
                      obtain ⟨x8_4, x9_4, rfl, rfl, HA, HK4, HO_3, HB⟩ := hrel
                      cases gk with
                      | zero => exact absurd HA.out (by simp [racewayref22_Encode.l4])
                      | succ k4 =>
                        have H := HA.out
                        clear HA
                        simp only [racewayref22_Encode.l4] at H
                        by_cases c12 : x9_4 < 6
                        · rw [if_pos c12] at H
                          have c12b0 : decide (x9_4 < 6) = true := decide_eq_true c12
                          clear c12
                          obtain ⟨ji13, hji13⟩ : ∃ j_ : Int, (wrap64 (x7_3 + x9_4)) = j_ := ⟨_, rfl⟩
                          replace H : (if 0 ≤ (ji13) then (if (ji13) < (x3_2.length : Int) then (racewayref22_Encode.l4 k4 x3_2 x6_3 x7_3 (wrap64 ((wrap64 (2 * x8_4)) + (rd x3_2 (ji13)))) (wrap64 (x9_4 + 1))) else (none)) else (none)) = some r := by first | (rw [hji13] at H; exact H) | (simp only [hji13] at H ⊢; exact H)
                          have hji13w : (IntKind.i64.wrap (x7_3 + x9_4)) = ji13 := (i64_w _).trans hji13
                          by_cases c14 : 0 ≤ (ji13)
                          · rw [if_pos c14] at H
                            have c14b0 : decide (0 ≤ (ji13)) = true := decide_eq_true c14
                            clear c14
                            by_cases c15 : (ji13) < (x3_2.length : Int)
                            · rw [if_pos c15] at H
                              have c15b0 : decide ((ji13) < (x3_2.length : Int)) = true := decide_eq_true c15
                              clear c15
                              have H' := Aside0.mk H
                              clear H
                              have p168 : 0 ≤ ((ji13) : Int) := of_decide_eq_true (by first | (with_reducible assumption) | assumption)
                              have q168 : (ji13) < (x3_2.length : Int) := of_decide_eq_true (by first | (with_reducible assumption) | assumption)
                              obtain ⟨ad168, e168, hx168_0⟩ := Kd.at_int (Kd.R_reads' HO_3.out).2.2 (ji13) p168 q168
                              cases e168
                              replace p168 := eq_true p168
                              replace q168 := eq_true q168
                              go_wp2
                              go_roundg k4
                              case measure => have := HK1.out; have := HK2.out; have := HK3.out; have := HK4.out; omega
                              case rel => exact ⟨(wrap64 ((wrap64 (2 * x8_4)) + (rd x3_2 (ji13)))), (wrap64 (x9_4 + 1)), (by first | rfl | (simp; done) | (simp only [← hji13] <;> (first | rfl | simp)) | (simp [*]; done)), (by first | rfl | (simp; done) | (simp [*]; done)), H', ⟨by have := HK1.out; have := HK2.out; have := HK3.out; have := HK4.out; omega⟩, ⟨by (with_reducible repeat (first | apply Kd.R_alloc | apply Kd.R_drewN | apply Kd.R_drew)); exact HO_3.out⟩, ⟨by repeat (first | (with_reducible first | exact HB.out | apply below_alloc | apply pw_below_drewN | apply below_drew1) | exact HB.out)⟩⟩
                            · rw [if_neg c15] at H
                              exact absurd H (by simp)
                          · rw [if_neg c14] at H
                            exact absurd H (by simp)
                        · rw [if_neg c12] at H
                          have c12b0 : decide (x9_4 < 6) = false := decide_eq_false c12
                          clear c12
                          by_cases c16 : 0 ≤ x8_4
                          · rw [if_pos c16] at H
                            have c16b0 := eq_true c16
                            have c16b1 : decide (0 ≤ x8_4) = true := decide_eq_true c16
                            clear c16
                            by_cases c17 : x8_4 ≤ (wrap64 (x8_4 + 1))
                            · rw [if_pos c17] at H
                              have c17b0 := eq_true c17
                              have c17b1 : decide (x8_4 ≤ (wrap64 (x8_4 + 1))) = true := decide_eq_true c17
                              by_cases c18 : (wrap64 (x8_4 + 1)) ≤ 64
                              · rw [if_pos c18] at H
                                have c18b0 := eq_true c18
                                have c18b1 : decide ((wrap64 (x8_4 + 1)) ≤ 64) = true := decide_eq_true c18
                                by_cases c19 : x6_3.size + ((⟨#[65, 66, 67, 68, 69, 70, 71, 72, 73, 74, 75, 76, 77, 78, 79, 80, 81, 82, 83, 84, 85, 86, 87, 88, 89, 90, 97, 98, 99, 100, 101, 102, 103, 104, 105, 106, 107, 108, 109, 110, 111, 112, 113, 114, 115, 116, 117, 118, 119, 120, 121, 122, 48, 49, 50, 51, 52, 53, 54, 55, 56, 57, 43, 47]⟩ : ByteArray).extract (x8_4 : Int).toNat ((wrap64 (x8_4 + 1)) : Int).toNat).size ≤ 9223372036854775807
                                · rw [if_pos c19] at H
                                  have c19b0 := eq_true c19
                                  have c19b1 : decide (x6_3.size + ((⟨#[65, 66, 67, 68, 69, 70, 71, 72, 73, 74, 75, 76, 77, 78, 79, 80, 81, 82, 83, 84, 85, 86, 87, 88, 89, 90, 97, 98, 99, 100, 101, 102, 103, 104, 105, 106, 107, 108, 109, 110, 111, 112, 113, 114, 115, 116, 117, 118, 119, 120, 121, 122, 48, 49, 50, 51, 52, 53, 54, 55, 56, 57, 43, 47]⟩ : ByteArray).extract (x8_4 : Int).toNat ((wrap64 (x8_4 + 1)) : Int).toNat).size ≤ 9223372036854775807) = true := decide_eq_true c19
                                  try have c19b2 : (9223372036854775807 < x6_3.size + ((⟨#[65, 66, 67, 68, 69, 70, 71, 72, 73, 74, 75, 76, 77, 78, 79, 80, 81, 82, 83, 84, 85, 86, 87, 88, 89, 90, 97, 98, 99, 100, 101, 102, 103, 104, 105, 106, 107, 108, 109, 110, 111, 112, 113, 114, 115, 116, 117, 118, 119, 120, 121, 122, 48, 49, 50, 51, 52, 53, 54, 55, 56, 57, 43, 47]⟩ : ByteArray).extract (x8_4 : Int).toNat ((wrap64 (x8_4 + 1)) : Int).toNat).size) = False := eq_false (Nat.not_lt.2 c19)
                                  have c19z : (9223372036854775807 < x6_3.size + (((wrap64 (x8_4 + 1)) : Int).toNat - ((x8_4 : Int) : Int).toNat)) = False := eq_false (by have hs : (⟨#[65, 66, 67, 68, 69, 70, 71, 72, 73, 74, 75, 76, 77, 78, 79, 80, 81, 82, 83, 84, 85, 86, 87, 88, 89, 90, 97, 98, 99, 100, 101, 102, 103, 104, 105, 106, 107, 108, 109, 110, 111, 112, 113, 114, 115, 116, 117, 118, 119, 120, 121, 122, 48, 49, 50, 51, 52, 53, 54, 55, 56, 57, 43, 47]⟩ : ByteArray).size = 64 := rfl; have q := c19; rw [ByteArray.size_extract, hs] at q; omega)
                                  have H' := Aside0.mk H
                                  clear H
                                  go_wp2
                                  go_roundg k4
                                  case measure => have := HK1.out; have := HK2.out; have := HK3.out; have := HK4.out; omega
                                  case rel => exact ⟨(x6_3 ++ ((⟨#[65, 66, 67, 68, 69, 70, 71, 72, 73, 74, 75, 76, 77, 78, 79, 80, 81, 82, 83, 84, 85, 86, 87, 88, 89, 90, 97, 98, 99, 100, 101, 102, 103, 104, 105, 106, 107, 108, 109, 110, 111, 112, 113, 114, 115, 116, 117, 118, 119, 120, 121, 122, 48, 49, 50, 51, 52, 53, 54, 55, 56, 57, 43, 47]⟩ : ByteArray).extract (x8_4 : Int).toNat ((wrap64 (x8_4 + 1)) : Int).toNat)), (wrap64 (x7_3 + 6)), (by first | rfl | (simp; done) | (simp [*]; done)), (by first | rfl | (simp; done) | (simp [*]; done)), H', ⟨by have := HK1.out; have := HK2.out; have := HK3.out; have := HK4.out; omega⟩, ⟨by (with_reducible repeat (first | apply Kd.R_alloc | apply Kd.R_drewN | apply Kd.R_drew)); exact HO_3.out⟩, ⟨by repeat (first | (with_reducible first | exact HB.out | apply below_alloc | apply pw_below_drewN | apply below_drew1) | exact HB.out)⟩⟩
                                · rw [if_neg c19] at H
                                  exact absurd H (by simp)
                              · rw [if_neg c18] at H
                                exact absurd H (by simp)
                            · rw [if_neg c17] at H
                              exact absurd H (by simp)
                          · rw [if_neg c16] at H
                            exact absurd H (by simp)
                  · rw [if_neg c11] at H
                    have c11b0 : decide (x7_3 < (x3_2.length : Int)) = false := decide_eq_false c11
                    clear c11
                    have H' := Aside0.mk H
                    clear H
                    go_wp2
                    go_loopg [6] k3 (fun kq v6 w' => ∃ (x6_4 : ByteArray), v6 = .string x6_4 ∧ Aside0 (racewayref22_Encode.l5 kq x6_4 = some r) ∧ Aside0 (kq ≤ k3) ∧ Aside0 (Below w.heap.size w w'))
                    case atStart => exact ⟨(x6_3), (by first | rfl | (simp; done) | (simp [*]; done)), H', ⟨Nat.le_refl _⟩, ⟨by repeat (first | (with_reducible first | exact HB.out | apply below_alloc | apply pw_below_drewN | apply below_drew1) | exact HB.out)⟩⟩
                    case round =>
                      clear H'
                      try clear c1
                      try clear p1
                      try clear q1
                      try clear hx1
                      try clear c2
                      try clear c2b0
                      try clear p2
                      try clear c3
                      try clear c3b0
                      try clear c4
                      try clear c4b0
                      try clear c5
                      try clear c5b0
                      try clear c6
                      try clear c6b0
                      try clear c6b1
                      try clear p6
                      try clear c7
                      try clear c9
                      try clear c9b0
                      try clear c9b1
                      try clear c11
                      try clear c11b0
                      try clear c12
                      try clear c12b0
                      try clear c14
                      try clear c14b0
                      try clear c15
                      try clear c15b0
                      try clear c16
                      try clear c16b0
                      try clear c16b1
                      try clear p16
                      try clear q16
                      try clear hx16
                      try clear c17
                      try clear c17b0
                      try clear c17b1
                      try clear c18
                      try clear c18b0
                      try clear c18b1
                      try clear c19
                      try clear c19b0
                      try clear c19b1
                      try clear c19b2
                      try clear hx161_0
                      try clear hx168_0
                      try clear p1
                      try clear p161
                      try clear p168
                      try clear p2
                      try clear p6
                      try clear q1
                      try clear q161
                      try clear q168
                      obtain ⟨x6_4, rfl, HA, HK4, HB⟩ := hrel
                      cases gk with
                      | zero => exact absurd HA.out (by simp [racewayref22_Encode.l5])
                      | succ k4 =>
                        have H := HA.out
                        clear HA
                        simp only [racewayref22_Encode.l5] at H
                        by_cases c20 : ((x6_4.size : Int) % 4) = 0
                        · rw [if_pos c20] at H
                          have c20b0 : (((x6_4.size : Int) % 4) == 0) = true := beq_iff_eq.mpr c20
                          have c20b1 : (((x6_4.size : Int) % 4) != 0) = false := bne_eq_false_iff_eq.mpr c20
                          clear c20
                          obtain rfl := Option.some.inj H
                          go_wp2
                          go_ret
                          exact ⟨by first | rfl | (simp [errW_none, errW_some] <;> rfl) | (simp [*, errW_none, errW_some] <;> rfl), by repeat (first | (with_reducible first | exact HB.out | apply below_alloc | apply pw_below_drewN | apply below_drew1) | exact HB.out)⟩
                        · rw [if_neg c20] at H
                          have c20b0 : (((x6_4.size : Int) % 4) == 0) = false := beq_eq_false_iff_ne.mpr c20
                          have c20b1 : (((x6_4.size : Int) % 4) != 0) = true := bne_iff_ne.mpr c20
                          by_cases c21 : x6_4.size + 1 ≤ 9223372036854775807
                          · rw [if_pos c21] at H
                            have c21b0 := eq_true c21
                            have c21b1 : decide (x6_4.size + 1 ≤ 9223372036854775807) = true := decide_eq_true c21
                            try have c21b2 : (9223372036854775807 < x6_4.size + 1) = False := eq_false (Nat.not_lt.2 c21)
                            have H' := Aside0.mk H
                            clear H
                            go_wp2
                            go_roundg k4
                            case measure => have := HK1.out; have := HK2.out; have := HK3.out; have := HK4.out; omega
                            case rel => exact ⟨(x6_4 ++ (⟨#[61]⟩ : ByteArray)), (by first | rfl | (simp; done) | (simp [*]; done)), H', ⟨by have := HK1.out; have := HK2.out; have := HK3.out; have := HK4.out; omega⟩, ⟨by repeat (first | (with_reducible first | exact HB.out | apply below_alloc | apply pw_below_drewN | apply below_drew1) | exact HB.out)⟩⟩
                          · rw [if_neg c21] at H
                            exact absurd H (by simp)
            · rw [if_neg c9] at H
              have c9b0 : (((x3_2.length : Int) % 6) == 0) = false := beq_eq_false_iff_ne.mpr c9
              have c9b1 : (((x3_2.length : Int) % 6) != 0) = true := bne_iff_ne.mpr c9
              by_cases c22 : x3_2.length < 17592186044416
              · rw [if_pos c22] at H
                have LMc22 := Aside0.mk c22
                clear c22
                obtain ⟨y165, hy165⟩ : ∃ y_ : List Int, y_ = (x3_2 ++ [0]) := ⟨_, rfl⟩
                replace H : (racewayref22_Encode.l2 k2 y165) = some r := by first | (rw [hy165]; with_reducible exact H) | (have H2_ := (Option.bind_some _ _).symm.trans H; rw [hy165]; with_reducible exact H2_) | (have H2_ := (Option.bind_some _ _).symm.trans H; with_reducible exact H2_) | with_reducible exact H | (rw [hy165]; exact H) | exact H
                have Ny165 := Aside0.mk hy165
                clear hy165
                have H' := Aside0.mk H
                clear H
                obtain ⟨Ao23, co23, eo23⟩ := Kd.R_slice HO_3.out
                subst eo23
                go_wp2_with (first | ((with_reducible refine gate_builtin (b := .append) (xs := #[.tmp 35, .tmp 36]) rfl ?_); at_builtin; refine Kd.R_append (Kd.int .i64) (w0 := w) w.heap.size rfl (.tmp 35) (.tmp 36) 45 3 (.int .i64 0) 8 rfl Tryd.underlying45 info3 rfl (by decide) (by omega) (.slice Ao23 x3_2.length co23) x3_2 0 [.int .i64 0] (fun _ => True) (fun _ => False) rfl rfl ?aP (fun _ hk => hk.elim) ?aF ?aO ?aB ?aS ?aL ?_; (case aP => exact rfl); (case aB => exact (by repeat (first | (with_reducible first | exact HB.out | apply below_alloc | apply pw_below_drewN | apply below_drew1) | exact HB.out))); (case aF => exact (fun _ _ => trivial)); (case aO => exact (by (with_reducible repeat (first | apply Kd.R_alloc | apply Kd.R_drewN | apply Kd.R_drew)); exact HO_3.out)); (case aS => exact (below_size (by repeat (first | (with_reducible first | exact HB.out | apply below_alloc | apply pw_below_drewN | apply below_drew1) | exact HB.out)))); (case aL => have := LMc22.out; omega); intro v166 w24 ho hb hg hat; rw [← Ny165.out] at ho; have n0_ := Aside0.mk (hb); have n1_ := Aside0.mk (ho); clear HB; clear HO_3; have HB := n0_; have HO167 := n1_; clear n0_ n1_; clear ho hb hg hat))
                go_roundg k2
                case measure => have := HK1.out; have := HK2.out; omega
                case rel => exact ⟨(y165), H', ⟨by have := HK1.out; have := HK2.out; omega⟩, ⟨by (with_reducible repeat (first | apply Kd.R_alloc | apply Kd.R_drewN | apply Kd.R_drew)); exact HO167.out⟩, ⟨by repeat (first | (with_reducible first | exact HB.out | apply below_alloc | apply pw_below_drewN | apply below_drew1) | exact HB.out)⟩⟩
              · rw [if_neg c22] at H
                exact absurd H (by simp)

end Go.Proofs.YteajidciahoboaaDoor.P
-- P1
set_option linter.unusedVariables false
set_option linter.unusedSimpArgs false
namespace Go.Proofs.YteajidciahoboaaDoor.H
open Go.RowKit Go.Shelf Go.Proofs.YteajidciahoboaaDoorW.PrintWords Go.Proofs.YteajidciahoboaaDoorW.PrintLast Go.Proofs.YteajidciahoboaaDoorW.PrintMore Go.Proofs.YteajidciahoboaaDoor.M

/-- With rounds enough it answers so. -/
def Ev {α : Type} (f : Nat → Option α) (r : α) : Prop := ∃ K, ∀ k, K ≤ k → f k = some r
theorem Ev.step {α : Type} {f g : Nat → Option α} {r : α} (h : ∀ k, f (k + 1) = g k) (hg : Ev g r) : Ev f r := by
  obtain ⟨K, hK⟩ := hg
  refine ⟨K + 1, fun k hk => ?_⟩
  obtain ⟨j, rfl⟩ : ∃ j, k = j + 1 := ⟨k - 1, by omega⟩
  rw [h, hK j (by omega)]
theorem Ev.now {α : Type} {f : Nat → Option α} {r : α} (h : ∀ k, f (k + 1) = some r) : Ev f r := Ev.step (g := fun _ => some r) h ⟨0, fun _ _ => rfl⟩
theorem Ev.const {α : Type} (r : α) : Ev (fun _ => some r) r := ⟨0, fun _ _ => rfl⟩
theorem Ev.eq {α : Type} {f g : Nat → Option α} {r : α} (hg : Ev g r) (h : ∀ k, f k = g k) : Ev f r := by
  obtain ⟨K, hK⟩ := hg
  exact ⟨K, fun k hk => by rw [h, hK k hk]⟩
theorem Ev.bind {α β : Type} {f : Nat → Option α} {g : Nat → α → Option β} {a : α} {r : β} (hf : Ev f a) (hg : Ev (fun k => g k a) r) : Ev (fun k => (f k).bind (g k)) r := by
  obtain ⟨K, hK⟩ := hf
  obtain ⟨L, hL⟩ := hg
  exact ⟨K + L, fun k hk => by simp only [hK k (by omega), Option.bind_some]; exact hL k (by omega)⟩
theorem Ev.bindc {α β : Type} {x : Option α} {g : Nat → α → Option β} {a : α} {r : β} (hf : x = some a) (hg : Ev (fun k => g k a) r) : Ev (fun k => x.bind (g k)) r := by subst hf; exact hg
theorem Ev.get {α : Type} {f : Nat → Option α} {r : α} (h : Ev f r) : ∃ k, f k = some r := by obtain ⟨K, hK⟩ := h; exact ⟨K, hK K (Nat.le_refl _)⟩

theorem Ev.stepB {α β : Type} {f : Nat → Option β} {h : Nat → Option α} {g : Nat → α → Option β} {a : α} {r : β} (hh : Ev h a) (e : ∀ k, f (k + 1) = (h k).bind (g k)) (hg : Ev (fun k => g k a) r) : Ev f r := Ev.step e (Ev.bind hh hg)
theorem strOfNums_append (a b : List Int) : strOfNums (a ++ b) = strOfNums a ++ strOfNums b := by
  apply ByteArray.ext
  simp [strOfNums, ByteArray.data_append]
theorem strOfNums_size (a : List Int) : (strOfNums a).size = a.length := by simp [strOfNums, ByteArray.size]
theorem sign_cut : ∀ z : Fin 64, (⟨#[65, 66, 67, 68, 69, 70, 71, 72, 73, 74, 75, 76, 77, 78, 79, 80, 81, 82, 83, 84, 85, 86, 87, 88, 89, 90, 97, 98, 99, 100, 101, 102, 103, 104, 105, 106, 107, 108, 109, 110, 111, 112, 113, 114, 115, 116, 117, 118, 119, 120, 121, 122, 48, 49, 50, 51, 52, 53, 54, 55, 56, 57, 43, 47]⟩ : ByteArray).extract z.val (z.val + 1) = strOfNums [sgn z.val] := by decide +kernel
theorem w64 {n : Int} (h : -9223372036854775808 ≤ n) (h2 : n < 9223372036854775808) : wrap64 n = n := by unfold wrap64; omega

def bits8 (x : Int) : List Int := [x / 128 % 2, x / 64 % 2, x / 32 % 2, x / 16 % 2, x / 8 % 2, x / 4 % 2, x / 2 % 2, x % 2]
def bitsAll (xs : List Int) : List Int := (xs.map bits8).flatten
theorem bitsAll_len (xs : List Int) : (bitsAll xs).length = 8 * xs.length := by
  induction xs with
  | nil => rfl
  | cons a l ih => simp only [bitsAll, List.map_cons, List.flatten_cons, List.length_append, List.length_cons] at ih ⊢; rw [ih]; show 8 + _ = _; omega

theorem enc_bit (k : Nat) (x0 x3 : List Int) (x4 d x : Int) (h0 : 0 ≤ x4) (h1 : x4 < (x0.length : Int)) (hx : rd x0 x4 = x) (hb : 0 ≤ x ∧ x < 256) (hl : x3.length < 10000000) (hd : 0 < d) (hd2 : d ≤ 128) :
    P.racewayref22_Encode.l1 (k + 1) x0 x3 x4 d = P.racewayref22_Encode.l1 k x0 (x3 ++ [x / d % 2]) x4 (d / 2) := by
  rw [P.racewayref22_Encode.l1, if_pos (by omega), if_pos h0, if_pos h1, if_neg (by omega), if_pos (by omega), hx]
  have hq0 : 0 ≤ x / d := Int.ediv_nonneg hb.1 (by omega)
  have hq1 : x / d < 256 := by
    have := Int.ediv_le_self d hb.1
    omega
  rw [w64 (n := x) (by omega) (by omega), Int.tdiv_eq_ediv_of_nonneg hb.1, w64 (by omega) (by omega), Int.tmod_eq_emod_of_nonneg hq0, Int.tdiv_eq_ediv_of_nonneg (by omega : 0 ≤ d), w64 (n := d / 2) (by omega) (by omega)]

theorem enc_byte (x0 x3 : List Int) (x4 x : Int) (r : ByteArray) (h0 : 0 ≤ x4) (h1 : x4 < (x0.length : Int)) (hx : rd x0 x4 = x) (hb : 0 ≤ x ∧ x < 256) (hl : x3.length + 8 < 10000000) (h4 : x4 < 10000000)
    (h : Ev (fun k => P.racewayref22_Encode.l0 k x0 (x3 ++ bits8 x) (x4 + 1)) r) : Ev (fun k => P.racewayref22_Encode.l0 k x0 x3 x4) r := by
  refine Ev.step (fun k => by rw [P.racewayref22_Encode.l0, if_pos h1]) ?_
  have ll : ∀ (l : List Int) (x : Int), (l ++ [x]).length = l.length + 1 := fun l x => by simp
  refine Ev.step (fun k => enc_bit k x0 _ x4 128 x h0 h1 hx hb (by omega) (by decide) (by decide)) ?_
  refine Ev.step (fun k => enc_bit k x0 _ x4 64 x h0 h1 hx hb (by simp only [ll]; omega) (by decide) (by decide)) ?_
  refine Ev.step (fun k => enc_bit k x0 _ x4 32 x h0 h1 hx hb (by simp only [ll]; omega) (by decide) (by decide)) ?_
  refine Ev.step (fun k => enc_bit k x0 _ x4 16 x h0 h1 hx hb (by simp only [ll]; omega) (by decide) (by decide)) ?_
  refine Ev.step (fun k => enc_bit k x0 _ x4 8 x h0 h1 hx hb (by simp only [ll]; omega) (by decide) (by decide)) ?_
  refine Ev.step (fun k => enc_bit k x0 _ x4 4 x h0 h1 hx hb (by simp only [ll]; omega) (by decide) (by decide)) ?_
  refine Ev.step (fun k => enc_bit k x0 _ x4 2 x h0 h1 hx hb (by simp only [ll]; omega) (by decide) (by decide)) ?_
  refine Ev.step (fun k => enc_bit k x0 _ x4 1 x h0 h1 hx hb (by simp only [ll]; omega) (by decide) (by decide)) ?_
  refine Ev.step (g := fun k => P.racewayref22_Encode.l0 k x0 (x3 ++ bits8 x) (x4 + 1)) (fun k => ?_) h
  rw [P.racewayref22_Encode.l1, if_neg (by decide), w64 (by omega) (by omega)]
  simp only [List.append_assoc, List.cons_append, List.nil_append, bits8, Int.ediv_one]

theorem enc_bytes (x0 : List Int) (hb : isBytes x0) (hl : x0.length ≤ 1000000) (r : ByteArray) (h : Ev (fun k => P.racewayref22_Encode.l2 k (bitsAll x0)) r) :
    ∀ (ys pre : List Int), x0 = pre ++ ys → Ev (fun k => P.racewayref22_Encode.l0 k x0 (bitsAll pre) pre.length) r := by
  intro ys
  induction ys with
  | nil =>
    intro pre he
    rw [List.append_nil] at he
    subst he
    exact Ev.step (fun k => by rw [P.racewayref22_Encode.l0, if_neg (by omega)]) h
  | cons y ys ih =>
    intro pre he
    have hlen : x0.length = pre.length + (ys.length + 1) := by rw [he]; simp
    have hrd : rd x0 pre.length = y := by unfold rd; rw [he]; simp
    refine enc_byte x0 _ pre.length y r (by omega) (by omega) hrd (hb y (by rw [he]; simp)) (by rw [bitsAll_len]; omega) (by omega) ?_
    have := ih (pre ++ [y]) (by rw [he]; simp)
    refine this.eq fun k => ?_
    simp [bitsAll]

def sixes : List Int → List Int
  | a :: b :: c :: d :: e :: f :: r => (32 * a + 16 * b + 8 * c + 4 * d + 2 * e + f) :: sixes r
  | _ => []
def isBits (xs : List Int) : Prop := ∀ x ∈ xs, 0 ≤ x ∧ x < 2

theorem enc_six (k : Nat) (x3 : List Int) (x6 : ByteArray) (x7 x8 x9 b : Int) (h9 : 0 ≤ x9 ∧ x9 < 6) (h7 : 0 ≤ x7) (hl : x7 + x9 < (x3.length : Int)) (hl2 : x3.length < 100000000) (h8 : 0 ≤ x8 ∧ x8 < 1000) (hb : rd x3 (x7 + x9) = b) (hb2 : 0 ≤ b ∧ b < 2) :
    P.racewayref22_Encode.l4 (k + 1) x3 x6 x7 x8 x9 = P.racewayref22_Encode.l4 k x3 x6 x7 (2 * x8 + b) (x9 + 1) := by
  rw [P.racewayref22_Encode.l4, if_pos h9.2, w64 (n := x7 + x9) (by omega) (by omega), if_pos (by omega), if_pos hl, hb, w64 (n := 2 * x8) (by omega) (by omega), w64 (by omega) (by omega), w64 (by omega) (by omega)]

theorem enc_sixes (x3 : List Int) (hl2 : x3.length < 100000000) (hb : isBits x3) (r : ByteArray) (ys : List Int) (pre out : List Int) (he : x3 = pre ++ ys) (hm : ys.length % 6 = 0) (ho : out.length + ys.length < 1000000000)
    (h : Ev (fun k => P.racewayref22_Encode.l5 k (strOfNums (out ++ (sixes ys).map fun z => sgn z.toNat))) r) : Ev (fun k => P.racewayref22_Encode.l3 k x3 (strOfNums out) pre.length) r := by
  match ys, hm with
  | [], _ =>
    rw [List.append_nil] at he
    subst he
    refine Ev.step (fun k => by rw [P.racewayref22_Encode.l3, if_neg (by omega)]) ?_
    simpa [sixes] using h
  | a :: b :: c :: d :: e :: f :: ys, hm =>
    have hlen : x3.length = pre.length + (ys.length + 6) := by rw [he]; simp
    refine Ev.step (fun k => by rw [P.racewayref22_Encode.l3, if_pos (by omega)]) ?_
    have ba : 0 ≤ a ∧ a < 2 := hb a (by rw [he]; simp)
    have bb : 0 ≤ b ∧ b < 2 := hb b (by rw [he]; simp)
    have bc : 0 ≤ c ∧ c < 2 := hb c (by rw [he]; simp)
    have bd : 0 ≤ d ∧ d < 2 := hb d (by rw [he]; simp)
    have be : 0 ≤ e ∧ e < 2 := hb e (by rw [he]; simp)
    have bf : 0 ≤ f ∧ f < 2 := hb f (by rw [he]; simp)
    have at' : ∀ i : Nat, rd x3 (pre.length + i) = (a :: b :: c :: d :: e :: f :: ys).getD i 0 := fun i => by
      unfold rd
      rw [show ((pre.length : Int) + i).toNat = pre.length + i by omega, he, List.getD_eq_getElem?_getD, List.getElem?_append_right (by omega), Nat.add_sub_cancel_left, List.getD_eq_getElem?_getD]
    refine Ev.step (fun k => enc_six k x3 _ pre.length 0 0 a (by decide) (by omega) (by omega) hl2 (by omega) (at' 0) ba) ?_
    refine Ev.step (fun k => enc_six k x3 _ pre.length _ 1 b (by decide) (by omega) (by omega) hl2 (by omega) (at' 1) bb) ?_
    refine Ev.step (fun k => enc_six k x3 _ pre.length _ 2 c (by decide) (by omega) (by omega) hl2 (by omega) (at' 2) bc) ?_
    refine Ev.step (fun k => enc_six k x3 _ pre.length _ 3 d (by decide) (by omega) (by omega) hl2 (by omega) (at' 3) bd) ?_
    refine Ev.step (fun k => enc_six k x3 _ pre.length _ 4 e (by decide) (by omega) (by omega) hl2 (by omega) (at' 4) be) ?_
    refine Ev.step (fun k => enc_six k x3 _ pre.length _ 5 f (by decide) (by omega) (by omega) hl2 (by omega) (at' 5) bf) ?_
    obtain ⟨z, hz⟩ : ∃ z : Nat, 2 * (2 * (2 * (2 * (2 * (2 * 0 + a) + b) + c) + d) + e) + f = (z : Int) := ⟨(2 * (2 * (2 * (2 * (2 * (2 * 0 + a) + b) + c) + d) + e) + f).toNat, by omega⟩
    rw [hz]
    have hz64 : z < 64 := by omega
    have hcut := sign_cut ⟨z, hz64⟩
    simp only at hcut
    have hrec := enc_sixes x3 hl2 hb r ys (pre ++ [a, b, c, d, e, f]) (out ++ [sgn z]) (by rw [he]; simp) (by simp only [List.length_cons] at hm; omega) (by simp only [List.length_append, List.length_cons, List.length_nil] at ho ⊢; omega) (by
      refine h.eq fun k => ?_
      rw [sixes, List.map_cons, show (32 * a + 16 * b + 8 * c + 4 * d + 2 * e + f).toNat = z by omega, List.append_assoc]
      rfl)
    refine Ev.step (fun k => ?_) hrec
    rw [P.racewayref22_Encode.l4, if_neg (by decide), if_pos (by omega), w64 (n := (z : Int) + 1) (by omega) (by omega), if_pos (by omega), if_pos (by omega), show ((z : Int) + 1).toNat = z + 1 by omega, Int.toNat_natCast, hcut, strOfNums_size, if_pos (by rw [strOfNums_size]; simp; omega), ← strOfNums_append, w64 (by omega) (by omega)]
    simp
  termination_by ys.length
theorem enc_pad4 (out : List Int) (n : Nat) (hn : n ≤ 3) (hl : out.length + n < 1000000000) (h : (out.length + n) % 4 = 0) : Ev (fun k => P.racewayref22_Encode.l5 k (strOfNums out)) (strOfNums (out ++ List.replicate n 61)) := by
  induction n generalizing out with
  | zero =>
    refine Ev.now fun k => ?_
    rw [P.racewayref22_Encode.l5, strOfNums_size, if_pos (by omega)]
    simp
  | succ n ih =>
    have := ih (out ++ [61]) (by omega) (by simp; omega) (by simp; omega)
    refine Ev.step (g := fun k => P.racewayref22_Encode.l5 k (strOfNums (out ++ [61]))) (fun k => ?_) (by simpa [List.replicate_succ] using this)
    rw [P.racewayref22_Encode.l5, strOfNums_size, if_neg (by omega), if_pos (by omega), strOfNums_append]
    rfl
theorem enc_pad6 (x3 : List Int) (n : Nat) (hn : n ≤ 5) (hl : x3.length + n < 100000000) (h : (x3.length + n) % 6 = 0) (r : ByteArray) (hr : Ev (fun k => P.racewayref22_Encode.l3 k (x3 ++ List.replicate n 0) (strOfNums []) 0) r) : Ev (fun k => P.racewayref22_Encode.l2 k x3) r := by
  induction n generalizing x3 with
  | zero =>
    refine Ev.step (fun k => by rw [P.racewayref22_Encode.l2, if_pos (by omega)]) ?_
    have e : x3 ++ List.replicate 0 0 = x3 := by simp
    rw [e] at hr
    exact hr
  | succ n ih =>
    have := ih (x3 ++ [0]) (by omega) (by simp; omega) (by simp; omega) (by simpa [List.replicate_succ] using hr)
    refine Ev.step (fun k => ?_) this
    rw [P.racewayref22_Encode.l2, if_neg (by omega), if_pos (by omega)]

def pad6 (b : List Int) : List Int := b ++ List.replicate ((6 - b.length % 6) % 6) 0
def pad4 (b : List Int) : List Int := b ++ List.replicate ((4 - b.length % 4) % 4) 61
theorem bits8_bits (x : Int) : isBits (bits8 x) := by
  intro y hy
  simp only [bits8, List.mem_cons, List.not_mem_nil, or_false] at hy
  rcases hy with rfl | rfl | rfl | rfl | rfl | rfl | rfl | rfl <;> omega
theorem bitsAll_bits (xs : List Int) : isBits (bitsAll xs) := by
  intro y hy
  obtain ⟨l, hl, hy⟩ := List.mem_flatten.1 hy
  obtain ⟨x, _, rfl⟩ := List.mem_map.1 hl
  exact bits8_bits x y hy
theorem pad6_bits {b : List Int} (h : isBits b) : isBits (pad6 b) := by
  intro y hy
  rcases List.mem_append.1 hy with hy | hy
  · exact h y hy
  · have := (List.mem_replicate.1 hy).2
    omega
theorem sixes_len (b : List Int) (h : b.length % 6 = 0) : 6 * (sixes b).length = b.length := by
  match b, h with
  | [], _ => rfl
  | a :: c :: d :: e :: f :: g :: r, h =>
    have := sixes_len r (by simp only [List.length_cons] at h; omega)
    simp only [sixes, List.length_cons]
    omega
def refEnc (xs : List Int) : List Int := pad4 ((sixes (pad6 (bitsAll xs))).map fun z => sgn z.toNat)
theorem refEnc_ev (xs : List Int) (hb : isBytes xs) (hl : xs.length ≤ 1000000) : Ev (fun k => P.racewayref22_Encode.f k xs) (strOfNums (refEnc xs)) := by
  have hbl := bitsAll_len xs
  have hpl : (pad6 (bitsAll xs)).length % 6 = 0 := by unfold pad6; simp; omega
  have hpl2 : (pad6 (bitsAll xs)).length ≤ 8 * xs.length + 5 := by unfold pad6; simp; omega
  have hsl := sixes_len _ hpl
  refine (enc_bytes xs hb hl _ ?_ xs [] rfl).eq (fun k => by unfold P.racewayref22_Encode.f; rfl)
  refine enc_pad6 _ ((6 - (bitsAll xs).length % 6) % 6) (by omega) (by omega) (by omega) _ ?_
  refine enc_sixes (pad6 (bitsAll xs)) (by omega) (pad6_bits (bitsAll_bits xs)) _ (pad6 (bitsAll xs)) [] [] rfl hpl (by simp; omega) ?_
  rw [List.nil_append]
  exact enc_pad4 _ _ (by omega) (by simp; omega) (by simp; omega)

theorem pad6_app (a b : List Int) (h : a.length % 6 = 0) : pad6 (a ++ b) = a ++ pad6 b := by
  unfold pad6
  rw [List.append_assoc, List.length_append, show (a.length + b.length) % 6 = b.length % 6 by omega]
theorem pad4_app (a b : List Int) (h : a.length % 4 = 0) : pad4 (a ++ b) = a ++ pad4 b := by
  unfold pad4
  rw [List.append_assoc, List.length_append, show (a.length + b.length) % 4 = b.length % 4 by omega]
theorem six1 (a : Int) (h : 0 ≤ a ∧ a < 256) : (32 * (a / 128 % 2) + 16 * (a / 64 % 2) + 8 * (a / 32 % 2) + 4 * (a / 16 % 2) + 2 * (a / 8 % 2) + a / 4 % 2).toNat = a.toNat / 4 := by omega
theorem six2a (a : Int) (h : 0 ≤ a ∧ a < 256) : 32 * (a / 2 % 2) + 16 * (a % 2) = a % 4 * 16 := by omega
theorem six2b (b : Int) (h : 0 ≤ b ∧ b < 256) : 8 * (b / 128 % 2) + 4 * (b / 64 % 2) + 2 * (b / 32 % 2) + b / 16 % 2 = b / 16 := by omega
theorem six2 (a b : Int) (h : 0 ≤ a ∧ a < 256) (h2 : 0 ≤ b ∧ b < 256) : (32 * (a / 2 % 2) + 16 * (a % 2) + 8 * (b / 128 % 2) + 4 * (b / 64 % 2) + 2 * (b / 32 % 2) + b / 16 % 2).toNat = a.toNat % 4 * 16 + b.toNat / 16 := by
  have e1 := six2a a h
  have e2 := six2b b h2
  have e : 32 * (a / 2 % 2) + 16 * (a % 2) + 8 * (b / 128 % 2) + 4 * (b / 64 % 2) + 2 * (b / 32 % 2) + b / 16 % 2 = (32 * (a / 2 % 2) + 16 * (a % 2)) + (8 * (b / 128 % 2) + 4 * (b / 64 % 2) + 2 * (b / 32 % 2) + b / 16 % 2) := by simp only [Int.add_assoc]
  rw [e, e1, e2]
  omega
theorem six3a (a : Int) (h : 0 ≤ a ∧ a < 256) : 32 * (a / 8 % 2) + 16 * (a / 4 % 2) + 8 * (a / 2 % 2) + 4 * (a % 2) = a % 16 * 4 := by omega
theorem six3b (b : Int) (h : 0 ≤ b ∧ b < 256) : 2 * (b / 128 % 2) + b / 64 % 2 = b / 64 := by omega
theorem six3 (b c : Int) (h : 0 ≤ b ∧ b < 256) (h2 : 0 ≤ c ∧ c < 256) : (32 * (b / 8 % 2) + 16 * (b / 4 % 2) + 8 * (b / 2 % 2) + 4 * (b % 2) + 2 * (c / 128 % 2) + c / 64 % 2).toNat = b.toNat % 16 * 4 + c.toNat / 64 := by
  have e1 := six3a b h
  have e2 := six3b c h2
  have e : 32 * (b / 8 % 2) + 16 * (b / 4 % 2) + 8 * (b / 2 % 2) + 4 * (b % 2) + 2 * (c / 128 % 2) + c / 64 % 2 = (32 * (b / 8 % 2) + 16 * (b / 4 % 2) + 8 * (b / 2 % 2) + 4 * (b % 2)) + (2 * (c / 128 % 2) + c / 64 % 2) := by simp only [Int.add_assoc]
  rw [e, e1, e2]
  omega
theorem six4 (c : Int) (h : 0 ≤ c ∧ c < 256) : (32 * (c / 32 % 2) + 16 * (c / 16 % 2) + 8 * (c / 8 % 2) + 4 * (c / 4 % 2) + 2 * (c / 2 % 2) + c % 2).toNat = c.toNat % 64 := by omega
theorem refEnc_eq (xs : List Int) (hb : isBytes xs) : refEnc xs = encode xs := by
  match xs with
  | [] => rfl
  | [a] =>
    have ha := hb a (by simp)
    unfold refEnc encode
    simp only [bitsAll, List.map_cons, List.map_nil, List.flatten_cons, List.flatten_nil, List.append_nil, chunks3]
    rw [show pad6 (bits8 a) = [a / 128 % 2, a / 64 % 2, a / 32 % 2, a / 16 % 2, a / 8 % 2, a / 4 % 2, a / 2 % 2, a % 2, 0, 0, 0, 0] from by simp [pad6, bits8, List.replicate]]
    simp only [sixes, List.map_cons, List.map_nil, enc3, encAt, four6, List.length_cons, List.length_nil, List.getD_cons_zero, List.getD_cons_succ, List.getD_nil]
    rw [six1 a ha, show (32 * (a / 2 % 2) + 16 * (a % 2) + 8 * 0 + 4 * 0 + 2 * 0 + 0 : Int) = 32 * (a / 2 % 2) + 16 * (a % 2) + 8 * ((0 : Int) / 128 % 2) + 4 * ((0 : Int) / 64 % 2) + 2 * ((0 : Int) / 32 % 2) + (0 : Int) / 16 % 2 from rfl, six2 a 0 ha (by decide)]
    rfl
  | [a, b] =>
    have ha := hb a (by simp)
    have hb' := hb b (by simp)
    unfold refEnc encode
    simp only [bitsAll, List.map_cons, List.map_nil, List.flatten_cons, List.flatten_nil, List.append_nil, chunks3]
    rw [show pad6 (bits8 a ++ bits8 b) = [a / 128 % 2, a / 64 % 2, a / 32 % 2, a / 16 % 2, a / 8 % 2, a / 4 % 2, a / 2 % 2, a % 2, b / 128 % 2, b / 64 % 2, b / 32 % 2, b / 16 % 2, b / 8 % 2, b / 4 % 2, b / 2 % 2, b % 2, 0, 0] from by simp [pad6, bits8, List.replicate]]
    simp only [sixes, List.map_cons, List.map_nil, enc3, encAt, four6, List.length_cons, List.length_nil, List.getD_cons_zero, List.getD_cons_succ, List.getD_nil]
    rw [six1 a ha, six2 a b ha hb', show (32 * (b / 8 % 2) + 16 * (b / 4 % 2) + 8 * (b / 2 % 2) + 4 * (b % 2) + 2 * 0 + 0 : Int) = 32 * (b / 8 % 2) + 16 * (b / 4 % 2) + 8 * (b / 2 % 2) + 4 * (b % 2) + 2 * ((0 : Int) / 128 % 2) + (0 : Int) / 64 % 2 from rfl, six3 b 0 hb' (by decide)]
    rfl
  | a :: b :: c :: r =>
    have ha := hb a (by simp)
    have hb' := hb b (by simp)
    have hc := hb c (by simp)
    have ih := refEnc_eq r (fun x hx => hb x (by simp [hx]))
    have hcut : bitsAll (a :: b :: c :: r) = [a / 128 % 2, a / 64 % 2, a / 32 % 2, a / 16 % 2, a / 8 % 2, a / 4 % 2, a / 2 % 2, a % 2, b / 128 % 2, b / 64 % 2, b / 32 % 2, b / 16 % 2, b / 8 % 2, b / 4 % 2, b / 2 % 2, b % 2, c / 128 % 2, c / 64 % 2, c / 32 % 2, c / 16 % 2, c / 8 % 2, c / 4 % 2, c / 2 % 2, c % 2] ++ bitsAll r := rfl
    unfold refEnc
    rw [hcut, pad6_app _ _ (by simp)]
    simp only [List.cons_append, List.nil_append, sixes, List.map_cons]
    rw [six1 a ha, six2 a b ha hb', six3 b c hb' hc, six4 c hc]
    have hp := pad4_app [sgn (a.toNat / 4), sgn (a.toNat % 4 * 16 + b.toNat / 16), sgn (b.toNat % 16 * 4 + c.toNat / 64), sgn (c.toNat % 64)] ((sixes (pad6 (bitsAll r))).map fun z => sgn z.toNat) (by simp)
    simp only [List.cons_append, List.nil_append] at hp
    rw [hp]
    unfold refEnc at ih
    rw [ih]
    rfl
theorem enc_ev (xs : List Int) (hb : isBytes xs) (hl : xs.length ≤ 1000000) : Ev (fun k => P.racewayref22_Encode.f k xs) (strOfNums (encode xs)) := by
  rw [← refEnc_eq xs hb]
  exact refEnc_ev xs hb hl
end Go.Proofs.YteajidciahoboaaDoor.H

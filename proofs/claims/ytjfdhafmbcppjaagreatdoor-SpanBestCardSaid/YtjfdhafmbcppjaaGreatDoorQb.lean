/-
  Of each type of this translation: its form, zero value, size; of each function: that a call of it enters it. Written by a program. More rules: an operation whose guard was itself passed over. Elements of several cells: one field read, the whole read. append to a slice that is full, whosever it is; a slice cut off at its length. Elements read under a guard that holds. An element read whole in whatever world of a kind; a truth against itself. Rules: the greater and the lesser of two numbers, functions that the model itself gives, slices made, an element of a row of the call's own written. Functions of the package strings over texts: HasPrefix, LastIndexByte, Index and Count at one byte. A range over a function: what an iterator does; the statement; a call of yield; the entry of a function that holds such a statement. Rules: numbers that are not below 0 divided, numbers of any kind that stay in it, slice literals of any length, texts against themselves. Results of any form: temporaries and variables, one behind the other. strings.Cut at one byte. Spans: plain. strings.FieldsFunc at a byte below 128: the pieces are the words. Plain. Rules: cells of an array in a variable; a variable of several cells read and written whole. A piece of code cut off, by the slots that are read behind it. Contracts of the shelf of the kit at this translation, in plain words. Written by a program of the kit. strings.Trim at one byte; strings.FieldsFunc at a space; strings.Index, SplitSeq at two bars. strings.LastIndexByte and strings.Split at one byte.
-/
import Derived.Test.YtjfdhafmbcppjaaGreatDoorRows
import Derived.Test.YtjfdhafmbcppjaaGreatDoorQa
import Derived.Laws.Small
import Derived.Laws.Cover1
import Derived.Laws.OwnMore
import Derived.Laws.Externs
import Derived.Lib.Bytealg
import Derived.RangeFuncRecord
import Derived.RangeFuncSeq
import Derived.Lib.Index
import Derived.Lib.IndexMore
import Derived.Lib.FieldsP
import Derived.Lib.TrimU
import Derived.Shelf.Strings.OnBuilder
import Derived.Shelf.Strconv.Atoi
import Derived.Shelf.Strconv.Itoa3
import Derived.Shelf.Strings.Search3
import Derived.Shelf.Strings.Shaped
import Derived.Shelf.Strings.FieldsFuncAny
import Derived.Test.YtjfdhafmbcppjaaGreatDoorProg
set_option linter.unusedVariables false
set_option maxRecDepth 100000
namespace Go.Proofs.YtjfdhafmbcppjaaGreatDoor.H
instance : Inf Tryz.prog 1 (.nilFunc) 1 8 := ⟨by kernel_rfl⟩
instance : One Tryz.prog 1 := One.of Tryz.underlying1 rfl
instance : NoIface Tryz.prog 1 := ⟨_, Tryz.underlying1, by intro ms h; cases h⟩
instance : Conc Tryz.prog 1 := ⟨by kernel_rfl⟩
instance : Und Tryz.prog 2 (.int .i64) := ⟨Tryz.underlying2⟩
instance : Inf Tryz.prog 2 (.int .i64 0) 1 8 := ⟨by kernel_rfl⟩
instance : One Tryz.prog 2 := One.of Tryz.underlying2 rfl
instance : NoIface Tryz.prog 2 := ⟨_, Tryz.underlying2, by intro ms h; cases h⟩
instance : Conc Tryz.prog 2 := ⟨by kernel_rfl⟩
instance : Und Tryz.prog 3 (.int .i64) := ⟨Tryz.underlying3⟩
instance : Inf Tryz.prog 3 (.int .i64 0) 1 8 := ⟨by kernel_rfl⟩
instance : One Tryz.prog 3 := One.of Tryz.underlying3 rfl
instance : NoIface Tryz.prog 3 := ⟨_, Tryz.underlying3, by intro ms h; cases h⟩
instance : Conc Tryz.prog 3 := ⟨by kernel_rfl⟩
instance : Und Tryz.prog 4 (.bool) := ⟨Tryz.underlying4⟩
instance : Inf Tryz.prog 4 (.bool false) 1 1 := ⟨by kernel_rfl⟩
instance : One Tryz.prog 4 := One.of Tryz.underlying4 rfl
instance : NoIface Tryz.prog 4 := ⟨_, Tryz.underlying4, by intro ms h; cases h⟩
instance : Conc Tryz.prog 4 := ⟨by kernel_rfl⟩
instance : Und Tryz.prog 5 (.int .u8) := ⟨Tryz.underlying5⟩
instance : Inf Tryz.prog 5 (.int .u8 0) 1 1 := ⟨by kernel_rfl⟩
instance : One Tryz.prog 5 := One.of Tryz.underlying5 rfl
instance : NoIface Tryz.prog 5 := ⟨_, Tryz.underlying5, by intro ms h; cases h⟩
instance : Conc Tryz.prog 5 := ⟨by kernel_rfl⟩
instance : Und Tryz.prog 6 (.int .u8) := ⟨Tryz.underlying6⟩
instance : Inf Tryz.prog 6 (.int .u8 0) 1 1 := ⟨by kernel_rfl⟩
instance : One Tryz.prog 6 := One.of Tryz.underlying6 rfl
instance : NoIface Tryz.prog 6 := ⟨_, Tryz.underlying6, by intro ms h; cases h⟩
instance : Conc Tryz.prog 6 := ⟨by kernel_rfl⟩
instance : Inf Tryz.prog 7 (Value.agg #[.int .i64 0, .int .i64 0, .bool false, .int .u8 0]) 4 24 := ⟨by kernel_rfl⟩
instance : Many Tryz.prog 7 4 := Many.of Tryz.underlying7 rfl
instance : NoIface Tryz.prog 7 := ⟨_, Tryz.underlying7, by intro ms h; cases h⟩
instance : StructT Tryz.prog 7 #[(0, 1), (1, 1), (2, 1), (3, 1)] (Value.agg #[.int .i64 0, .int .i64 0, .bool false, .int .u8 0]).cells := StructT.of Tryz.underlying7 rfl (by intro w; simp [run_sizeOf])
instance : Conc Tryz.prog 7 := ⟨by kernel_rfl⟩
instance : Fld Tryz.prog 7 0 0 2 := ⟨⟨_, _, Tryz.underlying7, rfl, rfl, rfl⟩⟩
instance : Fld Tryz.prog 7 1 1 3 := ⟨⟨_, _, Tryz.underlying7, rfl, rfl, rfl⟩⟩
instance : Fld Tryz.prog 7 2 2 4 := ⟨⟨_, _, Tryz.underlying7, rfl, rfl, rfl⟩⟩
instance : Fld Tryz.prog 7 3 3 6 := ⟨⟨_, _, Tryz.underlying7, rfl, rfl, rfl⟩⟩
instance : Inf Tryz.prog 8 (Value.agg #[.int .i64 0, .int .i64 0, .bool false, .int .u8 0]) 4 24 := ⟨by kernel_rfl⟩
instance : Many Tryz.prog 8 4 := Many.of Tryz.underlying8 rfl
instance : NoIface Tryz.prog 8 := ⟨_, Tryz.underlying8, by intro ms h; cases h⟩
instance : StructT Tryz.prog 8 #[(0, 1), (1, 1), (2, 1), (3, 1)] (Value.agg #[.int .i64 0, .int .i64 0, .bool false, .int .u8 0]).cells := StructT.of Tryz.underlying8 rfl (by intro w; simp [run_sizeOf])
instance : Conc Tryz.prog 8 := ⟨by kernel_rfl⟩
instance : Fld Tryz.prog 8 0 0 2 := ⟨⟨_, _, Tryz.underlying8, rfl, rfl, rfl⟩⟩
instance : Fld Tryz.prog 8 1 1 3 := ⟨⟨_, _, Tryz.underlying8, rfl, rfl, rfl⟩⟩
instance : Fld Tryz.prog 8 2 2 4 := ⟨⟨_, _, Tryz.underlying8, rfl, rfl, rfl⟩⟩
instance : Fld Tryz.prog 8 3 3 6 := ⟨⟨_, _, Tryz.underlying8, rfl, rfl, rfl⟩⟩
instance : Und Tryz.prog 9 (.string) := ⟨Tryz.underlying9⟩
instance : Inf Tryz.prog 9 (.string (B [])) 1 16 := ⟨by kernel_rfl⟩
instance : One Tryz.prog 9 := One.of Tryz.underlying9 rfl
instance : NoIface Tryz.prog 9 := ⟨_, Tryz.underlying9, by intro ms h; cases h⟩
instance : Conc Tryz.prog 9 := ⟨by kernel_rfl⟩
instance : Und Tryz.prog 10 (.string) := ⟨Tryz.underlying10⟩
instance : Inf Tryz.prog 10 (.string (B [])) 1 16 := ⟨by kernel_rfl⟩
instance : One Tryz.prog 10 := One.of Tryz.underlying10 rfl
instance : NoIface Tryz.prog 10 := ⟨_, Tryz.underlying10, by intro ms h; cases h⟩
instance : Conc Tryz.prog 10 := ⟨by kernel_rfl⟩
instance : Und Tryz.prog 11 (.string) := ⟨Tryz.underlying11⟩
instance : Inf Tryz.prog 11 (.string (B [])) 1 16 := ⟨by kernel_rfl⟩
instance : One Tryz.prog 11 := One.of Tryz.underlying11 rfl
instance : NoIface Tryz.prog 11 := ⟨_, Tryz.underlying11, by intro ms h; cases h⟩
instance : Conc Tryz.prog 11 := ⟨by kernel_rfl⟩
instance : Und Tryz.prog 12 (.int .u64) := ⟨Tryz.underlying12⟩
instance : Inf Tryz.prog 12 (.int .u64 0) 1 8 := ⟨by kernel_rfl⟩
instance : One Tryz.prog 12 := One.of Tryz.underlying12 rfl
instance : NoIface Tryz.prog 12 := ⟨_, Tryz.underlying12, by intro ms h; cases h⟩
instance : Conc Tryz.prog 12 := ⟨by kernel_rfl⟩
instance : Inf Tryz.prog 13 (Value.agg #[.string (B []), .int .u64 0]) 2 24 := ⟨by kernel_rfl⟩
instance : Many Tryz.prog 13 2 := Many.of Tryz.underlying13 rfl
instance : NoIface Tryz.prog 13 := ⟨_, Tryz.underlying13, by intro ms h; cases h⟩
instance : StructT Tryz.prog 13 #[(0, 1), (1, 1)] (Value.agg #[.string (B []), .int .u64 0]).cells := StructT.of Tryz.underlying13 rfl (by intro w; simp [run_sizeOf])
instance : Conc Tryz.prog 13 := ⟨by kernel_rfl⟩
instance : Fld Tryz.prog 13 0 0 9 := ⟨⟨_, _, Tryz.underlying13, rfl, rfl, rfl⟩⟩
instance : Fld Tryz.prog 13 1 1 12 := ⟨⟨_, _, Tryz.underlying13, rfl, rfl, rfl⟩⟩
instance : Inf Tryz.prog 14 (Value.agg #[.string (B []), .int .u64 0]) 2 24 := ⟨by kernel_rfl⟩
instance : Many Tryz.prog 14 2 := Many.of Tryz.underlying14 rfl
instance : NoIface Tryz.prog 14 := ⟨_, Tryz.underlying14, by intro ms h; cases h⟩
instance : StructT Tryz.prog 14 #[(0, 1), (1, 1)] (Value.agg #[.string (B []), .int .u64 0]).cells := StructT.of Tryz.underlying14 rfl (by intro w; simp [run_sizeOf])
instance : Conc Tryz.prog 14 := ⟨by kernel_rfl⟩
instance : Fld Tryz.prog 14 0 0 9 := ⟨⟨_, _, Tryz.underlying14, rfl, rfl, rfl⟩⟩
instance : Fld Tryz.prog 14 1 1 12 := ⟨⟨_, _, Tryz.underlying14, rfl, rfl, rfl⟩⟩
instance : Und Tryz.prog 15 (.pointer 178) := ⟨Tryz.underlying15⟩
instance : Inf Tryz.prog 15 (.pointer none) 1 8 := ⟨by kernel_rfl⟩
instance : One Tryz.prog 15 := One.of Tryz.underlying15 rfl
instance : NoIface Tryz.prog 15 := ⟨_, Tryz.underlying15, by intro ms h; cases h⟩
instance : Conc Tryz.prog 15 := ⟨by kernel_rfl⟩
instance : Und Tryz.prog 16 (.pointer 181) := ⟨Tryz.underlying16⟩
instance : Inf Tryz.prog 16 (.pointer none) 1 8 := ⟨by kernel_rfl⟩
instance : One Tryz.prog 16 := One.of Tryz.underlying16 rfl
instance : NoIface Tryz.prog 16 := ⟨_, Tryz.underlying16, by intro ms h; cases h⟩
instance : Conc Tryz.prog 16 := ⟨by kernel_rfl⟩
instance : Und Tryz.prog 17 (.pointer 189) := ⟨Tryz.underlying17⟩
instance : Inf Tryz.prog 17 (.pointer none) 1 8 := ⟨by kernel_rfl⟩
instance : One Tryz.prog 17 := One.of Tryz.underlying17 rfl
instance : NoIface Tryz.prog 17 := ⟨_, Tryz.underlying17, by intro ms h; cases h⟩
instance : Conc Tryz.prog 17 := ⟨by kernel_rfl⟩
instance : Inf Tryz.prog 18 (Value.agg #[.pointer none]) 1 8 := ⟨by kernel_rfl⟩
instance : Many Tryz.prog 18 1 := Many.of Tryz.underlying18 rfl
instance : NoIface Tryz.prog 18 := ⟨_, Tryz.underlying18, by intro ms h; cases h⟩
instance : StructT Tryz.prog 18 #[(0, 1)] (Value.agg #[.pointer none]).cells := StructT.of Tryz.underlying18 rfl (by intro w; simp [run_sizeOf])
instance : Conc Tryz.prog 18 := ⟨by kernel_rfl⟩
instance : Fld Tryz.prog 18 0 0 17 := ⟨⟨_, _, Tryz.underlying18, rfl, rfl, rfl⟩⟩
instance : Inf Tryz.prog 19 (Value.agg #[.pointer none]) 1 8 := ⟨by kernel_rfl⟩
instance : Many Tryz.prog 19 1 := Many.of Tryz.underlying19 rfl
instance : NoIface Tryz.prog 19 := ⟨_, Tryz.underlying19, by intro ms h; cases h⟩
instance : StructT Tryz.prog 19 #[(0, 1)] (Value.agg #[.pointer none]).cells := StructT.of Tryz.underlying19 rfl (by intro w; simp [run_sizeOf])
instance : Conc Tryz.prog 19 := ⟨by kernel_rfl⟩
instance : Fld Tryz.prog 19 0 0 17 := ⟨⟨_, _, Tryz.underlying19, rfl, rfl, rfl⟩⟩
instance : Inf Tryz.prog 20 (.nilIface) 1 16 := ⟨by kernel_rfl⟩
instance : One Tryz.prog 20 := One.of Tryz.underlying20 rfl
instance : IfaceT Tryz.prog 20 := ⟨by kernel_rfl⟩
instance : Und Tryz.prog 21 (.int .i32) := ⟨Tryz.underlying21⟩
instance : Inf Tryz.prog 21 (.int .i32 0) 1 4 := ⟨by kernel_rfl⟩
instance : One Tryz.prog 21 := One.of Tryz.underlying21 rfl
instance : NoIface Tryz.prog 21 := ⟨_, Tryz.underlying21, by intro ms h; cases h⟩
instance : Conc Tryz.prog 21 := ⟨by kernel_rfl⟩
instance : Inf Tryz.prog 22 (.nilFunc) 1 8 := ⟨by kernel_rfl⟩
instance : One Tryz.prog 22 := One.of Tryz.underlying22 rfl
instance : NoIface Tryz.prog 22 := ⟨_, Tryz.underlying22, by intro ms h; cases h⟩
instance : Conc Tryz.prog 22 := ⟨by kernel_rfl⟩
instance : Und Tryz.prog 23 (.slice 65) := ⟨Tryz.underlying23⟩
instance : Inf Tryz.prog 23 (.slice none 0 0) 1 24 := ⟨by kernel_rfl⟩
instance : One Tryz.prog 23 := One.of Tryz.underlying23 rfl
instance : NoIface Tryz.prog 23 := ⟨_, Tryz.underlying23, by intro ms h; cases h⟩
instance : Conc Tryz.prog 23 := ⟨by kernel_rfl⟩
instance : Inf Tryz.prog 24 (Value.agg #[.bool false, .slice none 0 0]) 2 32 := ⟨by kernel_rfl⟩
instance : Many Tryz.prog 24 2 := Many.of Tryz.underlying24 rfl
instance : NoIface Tryz.prog 24 := ⟨_, Tryz.underlying24, by intro ms h; cases h⟩
instance : StructT Tryz.prog 24 #[(0, 1), (1, 1)] (Value.agg #[.bool false, .slice none 0 0]).cells := StructT.of Tryz.underlying24 rfl (by intro w; simp [run_sizeOf])
instance : Conc Tryz.prog 24 := ⟨by kernel_rfl⟩
instance : Fld Tryz.prog 24 0 0 4 := ⟨⟨_, _, Tryz.underlying24, rfl, rfl, rfl⟩⟩
instance : Fld Tryz.prog 24 1 1 23 := ⟨⟨_, _, Tryz.underlying24, rfl, rfl, rfl⟩⟩
instance : Inf Tryz.prog 25 (Value.agg #[.bool false, .slice none 0 0]) 2 32 := ⟨by kernel_rfl⟩
instance : Many Tryz.prog 25 2 := Many.of Tryz.underlying25 rfl
instance : NoIface Tryz.prog 25 := ⟨_, Tryz.underlying25, by intro ms h; cases h⟩
instance : StructT Tryz.prog 25 #[(0, 1), (1, 1)] (Value.agg #[.bool false, .slice none 0 0]).cells := StructT.of Tryz.underlying25 rfl (by intro w; simp [run_sizeOf])
instance : Conc Tryz.prog 25 := ⟨by kernel_rfl⟩
instance : Fld Tryz.prog 25 0 0 4 := ⟨⟨_, _, Tryz.underlying25, rfl, rfl, rfl⟩⟩
instance : Fld Tryz.prog 25 1 1 23 := ⟨⟨_, _, Tryz.underlying25, rfl, rfl, rfl⟩⟩
instance : Und Tryz.prog 26 (.int .i64) := ⟨Tryz.underlying26⟩
instance : Inf Tryz.prog 26 (.int .i64 0) 1 8 := ⟨by kernel_rfl⟩
instance : One Tryz.prog 26 := One.of Tryz.underlying26 rfl
instance : NoIface Tryz.prog 26 := ⟨_, Tryz.underlying26, by intro ms h; cases h⟩
instance : Conc Tryz.prog 26 := ⟨by kernel_rfl⟩
instance : Inf Tryz.prog 28 (.nilFunc) 1 8 := ⟨by kernel_rfl⟩
instance : One Tryz.prog 28 := One.of Tryz.underlying28 rfl
instance : NoIface Tryz.prog 28 := ⟨_, Tryz.underlying28, by intro ms h; cases h⟩
instance : Conc Tryz.prog 28 := ⟨by kernel_rfl⟩
instance : Inf Tryz.prog 30 (.nilFunc) 1 8 := ⟨by kernel_rfl⟩
instance : One Tryz.prog 30 := One.of Tryz.underlying30 rfl
instance : NoIface Tryz.prog 30 := ⟨_, Tryz.underlying30, by intro ms h; cases h⟩
instance : Conc Tryz.prog 30 := ⟨by kernel_rfl⟩
instance : Inf Tryz.prog 31 (.nilFunc) 1 8 := ⟨by kernel_rfl⟩
instance : One Tryz.prog 31 := One.of Tryz.underlying31 rfl
instance : NoIface Tryz.prog 31 := ⟨_, Tryz.underlying31, by intro ms h; cases h⟩
instance : Conc Tryz.prog 31 := ⟨by kernel_rfl⟩
instance : Inf Tryz.prog 32 (.nilFunc) 1 8 := ⟨by kernel_rfl⟩
instance : One Tryz.prog 32 := One.of Tryz.underlying32 rfl
instance : NoIface Tryz.prog 32 := ⟨_, Tryz.underlying32, by intro ms h; cases h⟩
instance : Conc Tryz.prog 32 := ⟨by kernel_rfl⟩
instance : Und Tryz.prog 33 (.slice 9) := ⟨Tryz.underlying33⟩
instance : Inf Tryz.prog 33 (.slice none 0 0) 1 24 := ⟨by kernel_rfl⟩
instance : One Tryz.prog 33 := One.of Tryz.underlying33 rfl
instance : NoIface Tryz.prog 33 := ⟨_, Tryz.underlying33, by intro ms h; cases h⟩
instance : Conc Tryz.prog 33 := ⟨by kernel_rfl⟩
instance : Inf Tryz.prog 34 (Value.agg #[.int .i64 0, .int .i64 0, .int .i64 0, .slice none 0 0]) 4 48 := ⟨by kernel_rfl⟩
instance : Many Tryz.prog 34 4 := Many.of Tryz.underlying34 rfl
instance : NoIface Tryz.prog 34 := ⟨_, Tryz.underlying34, by intro ms h; cases h⟩
instance : StructT Tryz.prog 34 #[(0, 1), (1, 1), (2, 1), (3, 1)] (Value.agg #[.int .i64 0, .int .i64 0, .int .i64 0, .slice none 0 0]).cells := StructT.of Tryz.underlying34 rfl (by intro w; simp [run_sizeOf])
instance : Conc Tryz.prog 34 := ⟨by kernel_rfl⟩
instance : Fld Tryz.prog 34 0 0 3 := ⟨⟨_, _, Tryz.underlying34, rfl, rfl, rfl⟩⟩
instance : Fld Tryz.prog 34 1 1 3 := ⟨⟨_, _, Tryz.underlying34, rfl, rfl, rfl⟩⟩
instance : Fld Tryz.prog 34 2 2 3 := ⟨⟨_, _, Tryz.underlying34, rfl, rfl, rfl⟩⟩
instance : Fld Tryz.prog 34 3 3 33 := ⟨⟨_, _, Tryz.underlying34, rfl, rfl, rfl⟩⟩
instance : Inf Tryz.prog 35 (Value.agg #[.int .i64 0, .int .i64 0, .int .i64 0, .slice none 0 0]) 4 48 := ⟨by kernel_rfl⟩
instance : Many Tryz.prog 35 4 := Many.of Tryz.underlying35 rfl
instance : NoIface Tryz.prog 35 := ⟨_, Tryz.underlying35, by intro ms h; cases h⟩
instance : StructT Tryz.prog 35 #[(0, 1), (1, 1), (2, 1), (3, 1)] (Value.agg #[.int .i64 0, .int .i64 0, .int .i64 0, .slice none 0 0]).cells := StructT.of Tryz.underlying35 rfl (by intro w; simp [run_sizeOf])
instance : Conc Tryz.prog 35 := ⟨by kernel_rfl⟩
instance : Fld Tryz.prog 35 0 0 3 := ⟨⟨_, _, Tryz.underlying35, rfl, rfl, rfl⟩⟩
instance : Fld Tryz.prog 35 1 1 3 := ⟨⟨_, _, Tryz.underlying35, rfl, rfl, rfl⟩⟩
instance : Fld Tryz.prog 35 2 2 3 := ⟨⟨_, _, Tryz.underlying35, rfl, rfl, rfl⟩⟩
instance : Fld Tryz.prog 35 3 3 33 := ⟨⟨_, _, Tryz.underlying35, rfl, rfl, rfl⟩⟩
instance : Inf Tryz.prog 37 (.nilFunc) 1 8 := ⟨by kernel_rfl⟩
instance : One Tryz.prog 37 := One.of Tryz.underlying37 rfl
instance : NoIface Tryz.prog 37 := ⟨_, Tryz.underlying37, by intro ms h; cases h⟩
instance : Conc Tryz.prog 37 := ⟨by kernel_rfl⟩
instance : Inf Tryz.prog 38 (.nilFunc) 1 8 := ⟨by kernel_rfl⟩
instance : One Tryz.prog 38 := One.of Tryz.underlying38 rfl
instance : NoIface Tryz.prog 38 := ⟨_, Tryz.underlying38, by intro ms h; cases h⟩
instance : Conc Tryz.prog 38 := ⟨by kernel_rfl⟩
instance : Inf Tryz.prog 39 (.nilFunc) 1 8 := ⟨by kernel_rfl⟩
instance : One Tryz.prog 39 := One.of Tryz.underlying39 rfl
instance : NoIface Tryz.prog 39 := ⟨_, Tryz.underlying39, by intro ms h; cases h⟩
instance : Conc Tryz.prog 39 := ⟨by kernel_rfl⟩
instance : Und Tryz.prog 40 (.slice 35) := ⟨Tryz.underlying40⟩
instance : Inf Tryz.prog 40 (.slice none 0 0) 1 24 := ⟨by kernel_rfl⟩
instance : One Tryz.prog 40 := One.of Tryz.underlying40 rfl
instance : NoIface Tryz.prog 40 := ⟨_, Tryz.underlying40, by intro ms h; cases h⟩
instance : Conc Tryz.prog 40 := ⟨by kernel_rfl⟩
instance : Inf Tryz.prog 41 (.nilFunc) 1 8 := ⟨by kernel_rfl⟩
instance : One Tryz.prog 41 := One.of Tryz.underlying41 rfl
instance : NoIface Tryz.prog 41 := ⟨_, Tryz.underlying41, by intro ms h; cases h⟩
instance : Conc Tryz.prog 41 := ⟨by kernel_rfl⟩
instance : Inf Tryz.prog 42 (.nilFunc) 1 8 := ⟨by kernel_rfl⟩
instance : One Tryz.prog 42 := One.of Tryz.underlying42 rfl
instance : NoIface Tryz.prog 42 := ⟨_, Tryz.underlying42, by intro ms h; cases h⟩
instance : Conc Tryz.prog 42 := ⟨by kernel_rfl⟩
instance : Inf Tryz.prog 44 (.nilFunc) 1 8 := ⟨by kernel_rfl⟩
instance : One Tryz.prog 44 := One.of Tryz.underlying44 rfl
instance : NoIface Tryz.prog 44 := ⟨_, Tryz.underlying44, by intro ms h; cases h⟩
instance : Conc Tryz.prog 44 := ⟨by kernel_rfl⟩
instance : Inf Tryz.prog 45 (.nilFunc) 1 8 := ⟨by kernel_rfl⟩
instance : One Tryz.prog 45 := One.of Tryz.underlying45 rfl
instance : NoIface Tryz.prog 45 := ⟨_, Tryz.underlying45, by intro ms h; cases h⟩
instance : Conc Tryz.prog 45 := ⟨by kernel_rfl⟩
instance : Und Tryz.prog 46 (.array 3 5) := ⟨Tryz.underlying46⟩
instance : Inf Tryz.prog 46 (Value.agg #[.int .u8 0, .int .u8 0, .int .u8 0]) 3 3 := ⟨by kernel_rfl⟩
instance : Many Tryz.prog 46 3 := Many.of Tryz.underlying46 rfl
instance : NoIface Tryz.prog 46 := ⟨_, Tryz.underlying46, by intro ms h; cases h⟩
instance : Conc Tryz.prog 46 := ⟨by kernel_rfl⟩
instance : Inf Tryz.prog 47 (.nilFunc) 1 8 := ⟨by kernel_rfl⟩
instance : One Tryz.prog 47 := One.of Tryz.underlying47 rfl
instance : NoIface Tryz.prog 47 := ⟨_, Tryz.underlying47, by intro ms h; cases h⟩
instance : Conc Tryz.prog 47 := ⟨by kernel_rfl⟩
instance : Inf Tryz.prog 48 (.nilFunc) 1 8 := ⟨by kernel_rfl⟩
instance : One Tryz.prog 48 := One.of Tryz.underlying48 rfl
instance : NoIface Tryz.prog 48 := ⟨_, Tryz.underlying48, by intro ms h; cases h⟩
instance : Conc Tryz.prog 48 := ⟨by kernel_rfl⟩
instance : Inf Tryz.prog 49 (.nilFunc) 1 8 := ⟨by kernel_rfl⟩
instance : One Tryz.prog 49 := One.of Tryz.underlying49 rfl
instance : NoIface Tryz.prog 49 := ⟨_, Tryz.underlying49, by intro ms h; cases h⟩
instance : Conc Tryz.prog 49 := ⟨by kernel_rfl⟩
instance : Und Tryz.prog 50 (.slice 5) := ⟨Tryz.underlying50⟩
instance : Inf Tryz.prog 50 (.slice none 0 0) 1 24 := ⟨by kernel_rfl⟩
instance : One Tryz.prog 50 := One.of Tryz.underlying50 rfl
instance : NoIface Tryz.prog 50 := ⟨_, Tryz.underlying50, by intro ms h; cases h⟩
instance : Conc Tryz.prog 50 := ⟨by kernel_rfl⟩
instance : Inf Tryz.prog 51 (.nilFunc) 1 8 := ⟨by kernel_rfl⟩
instance : One Tryz.prog 51 := One.of Tryz.underlying51 rfl
instance : NoIface Tryz.prog 51 := ⟨_, Tryz.underlying51, by intro ms h; cases h⟩
instance : Conc Tryz.prog 51 := ⟨by kernel_rfl⟩
instance : Inf Tryz.prog 52 (.nilFunc) 1 8 := ⟨by kernel_rfl⟩
instance : One Tryz.prog 52 := One.of Tryz.underlying52 rfl
instance : NoIface Tryz.prog 52 := ⟨_, Tryz.underlying52, by intro ms h; cases h⟩
instance : Conc Tryz.prog 52 := ⟨by kernel_rfl⟩
instance : Inf Tryz.prog 53 (.nilFunc) 1 8 := ⟨by kernel_rfl⟩
instance : One Tryz.prog 53 := One.of Tryz.underlying53 rfl
instance : NoIface Tryz.prog 53 := ⟨_, Tryz.underlying53, by intro ms h; cases h⟩
instance : Conc Tryz.prog 53 := ⟨by kernel_rfl⟩
instance : Und Tryz.prog 54 (.array 2 5) := ⟨Tryz.underlying54⟩
instance : Inf Tryz.prog 54 (Value.agg #[.int .u8 0, .int .u8 0]) 2 2 := ⟨by kernel_rfl⟩
instance : Many Tryz.prog 54 2 := Many.of Tryz.underlying54 rfl
instance : NoIface Tryz.prog 54 := ⟨_, Tryz.underlying54, by intro ms h; cases h⟩
instance : Conc Tryz.prog 54 := ⟨by kernel_rfl⟩
instance : Inf Tryz.prog 55 (.nilFunc) 1 8 := ⟨by kernel_rfl⟩
instance : One Tryz.prog 55 := One.of Tryz.underlying55 rfl
instance : NoIface Tryz.prog 55 := ⟨_, Tryz.underlying55, by intro ms h; cases h⟩
instance : Conc Tryz.prog 55 := ⟨by kernel_rfl⟩
instance : Und Tryz.prog 56 (.slice 46) := ⟨Tryz.underlying56⟩
instance : Inf Tryz.prog 56 (.slice none 0 0) 1 24 := ⟨by kernel_rfl⟩
instance : One Tryz.prog 56 := One.of Tryz.underlying56 rfl
instance : NoIface Tryz.prog 56 := ⟨_, Tryz.underlying56, by intro ms h; cases h⟩
instance : Conc Tryz.prog 56 := ⟨by kernel_rfl⟩
instance : Inf Tryz.prog 57 (.nilFunc) 1 8 := ⟨by kernel_rfl⟩
instance : One Tryz.prog 57 := One.of Tryz.underlying57 rfl
instance : NoIface Tryz.prog 57 := ⟨_, Tryz.underlying57, by intro ms h; cases h⟩
instance : Conc Tryz.prog 57 := ⟨by kernel_rfl⟩
instance : Inf Tryz.prog 58 (.nilFunc) 1 8 := ⟨by kernel_rfl⟩
instance : One Tryz.prog 58 := One.of Tryz.underlying58 rfl
instance : NoIface Tryz.prog 58 := ⟨_, Tryz.underlying58, by intro ms h; cases h⟩
instance : Conc Tryz.prog 58 := ⟨by kernel_rfl⟩
instance : Inf Tryz.prog 59 (.nilFunc) 1 8 := ⟨by kernel_rfl⟩
instance : One Tryz.prog 59 := One.of Tryz.underlying59 rfl
instance : NoIface Tryz.prog 59 := ⟨_, Tryz.underlying59, by intro ms h; cases h⟩
instance : Conc Tryz.prog 59 := ⟨by kernel_rfl⟩
instance : Inf Tryz.prog 60 (.nilFunc) 1 8 := ⟨by kernel_rfl⟩
instance : One Tryz.prog 60 := One.of Tryz.underlying60 rfl
instance : NoIface Tryz.prog 60 := ⟨_, Tryz.underlying60, by intro ms h; cases h⟩
instance : Conc Tryz.prog 60 := ⟨by kernel_rfl⟩
instance : Inf Tryz.prog 61 (.nilFunc) 1 8 := ⟨by kernel_rfl⟩
instance : One Tryz.prog 61 := One.of Tryz.underlying61 rfl
instance : NoIface Tryz.prog 61 := ⟨_, Tryz.underlying61, by intro ms h; cases h⟩
instance : Conc Tryz.prog 61 := ⟨by kernel_rfl⟩
instance : Inf Tryz.prog 62 (.nilFunc) 1 8 := ⟨by kernel_rfl⟩
instance : One Tryz.prog 62 := One.of Tryz.underlying62 rfl
instance : NoIface Tryz.prog 62 := ⟨_, Tryz.underlying62, by intro ms h; cases h⟩
instance : Conc Tryz.prog 62 := ⟨by kernel_rfl⟩
instance : Inf Tryz.prog 63 (.nilFunc) 1 8 := ⟨by kernel_rfl⟩
instance : One Tryz.prog 63 := One.of Tryz.underlying63 rfl
instance : NoIface Tryz.prog 63 := ⟨_, Tryz.underlying63, by intro ms h; cases h⟩
instance : Conc Tryz.prog 63 := ⟨by kernel_rfl⟩
instance : Inf Tryz.prog 64 (.nilFunc) 1 8 := ⟨by kernel_rfl⟩
instance : One Tryz.prog 64 := One.of Tryz.underlying64 rfl
instance : NoIface Tryz.prog 64 := ⟨_, Tryz.underlying64, by intro ms h; cases h⟩
instance : Conc Tryz.prog 64 := ⟨by kernel_rfl⟩
instance : Und Tryz.prog 65 (.slice 70) := ⟨Tryz.underlying65⟩
instance : Inf Tryz.prog 65 (.slice none 0 0) 1 24 := ⟨by kernel_rfl⟩
instance : One Tryz.prog 65 := One.of Tryz.underlying65 rfl
instance : NoIface Tryz.prog 65 := ⟨_, Tryz.underlying65, by intro ms h; cases h⟩
instance : Conc Tryz.prog 65 := ⟨by kernel_rfl⟩
instance : Inf Tryz.prog 67 (.nilFunc) 1 8 := ⟨by kernel_rfl⟩
instance : One Tryz.prog 67 := One.of Tryz.underlying67 rfl
instance : NoIface Tryz.prog 67 := ⟨_, Tryz.underlying67, by intro ms h; cases h⟩
instance : Conc Tryz.prog 67 := ⟨by kernel_rfl⟩
instance : Inf Tryz.prog 68 (.nilFunc) 1 8 := ⟨by kernel_rfl⟩
instance : One Tryz.prog 68 := One.of Tryz.underlying68 rfl
instance : NoIface Tryz.prog 68 := ⟨_, Tryz.underlying68, by intro ms h; cases h⟩
instance : Conc Tryz.prog 68 := ⟨by kernel_rfl⟩
instance : Inf Tryz.prog 69 (Value.agg #[.string (B []), .int .i64 0, .int .i64 0, .int .i64 0, .slice none 0 0]) 5 64 := ⟨by kernel_rfl⟩
instance : Many Tryz.prog 69 5 := Many.of Tryz.underlying69 rfl
instance : NoIface Tryz.prog 69 := ⟨_, Tryz.underlying69, by intro ms h; cases h⟩
instance : StructT Tryz.prog 69 #[(0, 1), (1, 4)] (Value.agg #[.string (B []), .int .i64 0, .int .i64 0, .int .i64 0, .slice none 0 0]).cells := StructT.of Tryz.underlying69 rfl (by intro w; simp [run_sizeOf])
instance : Conc Tryz.prog 69 := ⟨by kernel_rfl⟩
instance : Fld Tryz.prog 69 0 0 9 := ⟨⟨_, _, Tryz.underlying69, rfl, rfl, rfl⟩⟩
instance : Fld Tryz.prog 69 1 1 35 := ⟨⟨_, _, Tryz.underlying69, rfl, rfl, rfl⟩⟩
instance : Inf Tryz.prog 70 (Value.agg #[.string (B []), .int .i64 0, .int .i64 0, .int .i64 0, .slice none 0 0]) 5 64 := ⟨by kernel_rfl⟩
instance : Many Tryz.prog 70 5 := Many.of Tryz.underlying70 rfl
instance : NoIface Tryz.prog 70 := ⟨_, Tryz.underlying70, by intro ms h; cases h⟩
instance : StructT Tryz.prog 70 #[(0, 1), (1, 4)] (Value.agg #[.string (B []), .int .i64 0, .int .i64 0, .int .i64 0, .slice none 0 0]).cells := StructT.of Tryz.underlying70 rfl (by intro w; simp [run_sizeOf])
instance : Conc Tryz.prog 70 := ⟨by kernel_rfl⟩
instance : Fld Tryz.prog 70 0 0 9 := ⟨⟨_, _, Tryz.underlying70, rfl, rfl, rfl⟩⟩
instance : Fld Tryz.prog 70 1 1 35 := ⟨⟨_, _, Tryz.underlying70, rfl, rfl, rfl⟩⟩
instance : Inf Tryz.prog 71 (.nilFunc) 1 8 := ⟨by kernel_rfl⟩
instance : One Tryz.prog 71 := One.of Tryz.underlying71 rfl
instance : NoIface Tryz.prog 71 := ⟨_, Tryz.underlying71, by intro ms h; cases h⟩
instance : Conc Tryz.prog 71 := ⟨by kernel_rfl⟩
instance : Inf Tryz.prog 72 (.nilFunc) 1 8 := ⟨by kernel_rfl⟩
instance : One Tryz.prog 72 := One.of Tryz.underlying72 rfl
instance : NoIface Tryz.prog 72 := ⟨_, Tryz.underlying72, by intro ms h; cases h⟩
instance : Conc Tryz.prog 72 := ⟨by kernel_rfl⟩
instance : Inf Tryz.prog 73 (.nilFunc) 1 8 := ⟨by kernel_rfl⟩
instance : One Tryz.prog 73 := One.of Tryz.underlying73 rfl
instance : NoIface Tryz.prog 73 := ⟨_, Tryz.underlying73, by intro ms h; cases h⟩
instance : Conc Tryz.prog 73 := ⟨by kernel_rfl⟩
instance : Inf Tryz.prog 74 (.nilFunc) 1 8 := ⟨by kernel_rfl⟩
instance : One Tryz.prog 74 := One.of Tryz.underlying74 rfl
instance : NoIface Tryz.prog 74 := ⟨_, Tryz.underlying74, by intro ms h; cases h⟩
instance : Conc Tryz.prog 74 := ⟨by kernel_rfl⟩
instance : Inf Tryz.prog 75 (.nilFunc) 1 8 := ⟨by kernel_rfl⟩
instance : One Tryz.prog 75 := One.of Tryz.underlying75 rfl
instance : NoIface Tryz.prog 75 := ⟨_, Tryz.underlying75, by intro ms h; cases h⟩
instance : Conc Tryz.prog 75 := ⟨by kernel_rfl⟩
instance : Inf Tryz.prog 76 (.nilFunc) 1 8 := ⟨by kernel_rfl⟩
instance : One Tryz.prog 76 := One.of Tryz.underlying76 rfl
instance : NoIface Tryz.prog 76 := ⟨_, Tryz.underlying76, by intro ms h; cases h⟩
instance : Conc Tryz.prog 76 := ⟨by kernel_rfl⟩
instance : Inf Tryz.prog 77 (.nilFunc) 1 8 := ⟨by kernel_rfl⟩
instance : One Tryz.prog 77 := One.of Tryz.underlying77 rfl
instance : NoIface Tryz.prog 77 := ⟨_, Tryz.underlying77, by intro ms h; cases h⟩
instance : Conc Tryz.prog 77 := ⟨by kernel_rfl⟩
instance : Inf Tryz.prog 78 (.nilFunc) 1 8 := ⟨by kernel_rfl⟩
instance : One Tryz.prog 78 := One.of Tryz.underlying78 rfl
instance : NoIface Tryz.prog 78 := ⟨_, Tryz.underlying78, by intro ms h; cases h⟩
instance : Conc Tryz.prog 78 := ⟨by kernel_rfl⟩
instance : Inf Tryz.prog 79 (.nilFunc) 1 8 := ⟨by kernel_rfl⟩
instance : One Tryz.prog 79 := One.of Tryz.underlying79 rfl
instance : NoIface Tryz.prog 79 := ⟨_, Tryz.underlying79, by intro ms h; cases h⟩
instance : Conc Tryz.prog 79 := ⟨by kernel_rfl⟩
instance : Inf Tryz.prog 80 (.nilFunc) 1 8 := ⟨by kernel_rfl⟩
instance : One Tryz.prog 80 := One.of Tryz.underlying80 rfl
instance : NoIface Tryz.prog 80 := ⟨_, Tryz.underlying80, by intro ms h; cases h⟩
instance : Conc Tryz.prog 80 := ⟨by kernel_rfl⟩
instance : Inf Tryz.prog 81 (.nilFunc) 1 8 := ⟨by kernel_rfl⟩
instance : One Tryz.prog 81 := One.of Tryz.underlying81 rfl
instance : NoIface Tryz.prog 81 := ⟨_, Tryz.underlying81, by intro ms h; cases h⟩
instance : Conc Tryz.prog 81 := ⟨by kernel_rfl⟩
instance : Inf Tryz.prog 82 (.nilFunc) 1 8 := ⟨by kernel_rfl⟩
instance : One Tryz.prog 82 := One.of Tryz.underlying82 rfl
instance : NoIface Tryz.prog 82 := ⟨_, Tryz.underlying82, by intro ms h; cases h⟩
instance : Conc Tryz.prog 82 := ⟨by kernel_rfl⟩
instance : Inf Tryz.prog 83 (.nilFunc) 1 8 := ⟨by kernel_rfl⟩
instance : One Tryz.prog 83 := One.of Tryz.underlying83 rfl
instance : NoIface Tryz.prog 83 := ⟨_, Tryz.underlying83, by intro ms h; cases h⟩
instance : Conc Tryz.prog 83 := ⟨by kernel_rfl⟩
instance : Inf Tryz.prog 84 (.nilFunc) 1 8 := ⟨by kernel_rfl⟩
instance : One Tryz.prog 84 := One.of Tryz.underlying84 rfl
instance : NoIface Tryz.prog 84 := ⟨_, Tryz.underlying84, by intro ms h; cases h⟩
instance : Conc Tryz.prog 84 := ⟨by kernel_rfl⟩
instance : Und Tryz.prog 85 (.array 256 4) := ⟨Tryz.underlying85⟩
instance : NoIface Tryz.prog 85 := ⟨_, Tryz.underlying85, by intro ms h; cases h⟩
instance : Conc Tryz.prog 85 := ⟨by kernel_rfl⟩
instance : Und Tryz.prog 86 (.array 256 4) := ⟨Tryz.underlying86⟩
instance : NoIface Tryz.prog 86 := ⟨_, Tryz.underlying86, by intro ms h; cases h⟩
instance : Conc Tryz.prog 86 := ⟨by kernel_rfl⟩
instance : Inf Tryz.prog 88 (.nilFunc) 1 8 := ⟨by kernel_rfl⟩
instance : One Tryz.prog 88 := One.of Tryz.underlying88 rfl
instance : NoIface Tryz.prog 88 := ⟨_, Tryz.underlying88, by intro ms h; cases h⟩
instance : Conc Tryz.prog 88 := ⟨by kernel_rfl⟩
instance : Inf Tryz.prog 89 (.nilFunc) 1 8 := ⟨by kernel_rfl⟩
instance : One Tryz.prog 89 := One.of Tryz.underlying89 rfl
instance : NoIface Tryz.prog 89 := ⟨_, Tryz.underlying89, by intro ms h; cases h⟩
instance : Conc Tryz.prog 89 := ⟨by kernel_rfl⟩
instance : Und Tryz.prog 90 (.pointer 86) := ⟨Tryz.underlying90⟩
instance : Inf Tryz.prog 90 (.pointer none) 1 8 := ⟨by kernel_rfl⟩
instance : One Tryz.prog 90 := One.of Tryz.underlying90 rfl
instance : NoIface Tryz.prog 90 := ⟨_, Tryz.underlying90, by intro ms h; cases h⟩
instance : Conc Tryz.prog 90 := ⟨by kernel_rfl⟩
instance : Inf Tryz.prog 91 (.nilFunc) 1 8 := ⟨by kernel_rfl⟩
instance : One Tryz.prog 91 := One.of Tryz.underlying91 rfl
instance : NoIface Tryz.prog 91 := ⟨_, Tryz.underlying91, by intro ms h; cases h⟩
instance : Conc Tryz.prog 91 := ⟨by kernel_rfl⟩
instance : Und Tryz.prog 92 (.slice 94) := ⟨Tryz.underlying92⟩
instance : Inf Tryz.prog 92 (.slice none 0 0) 1 24 := ⟨by kernel_rfl⟩
instance : One Tryz.prog 92 := One.of Tryz.underlying92 rfl
instance : NoIface Tryz.prog 92 := ⟨_, Tryz.underlying92, by intro ms h; cases h⟩
instance : Conc Tryz.prog 92 := ⟨by kernel_rfl⟩
instance : Inf Tryz.prog 93 (Value.agg #[.int .i64 0, .int .i64 0]) 2 16 := ⟨by kernel_rfl⟩
instance : Many Tryz.prog 93 2 := Many.of Tryz.underlying93 rfl
instance : NoIface Tryz.prog 93 := ⟨_, Tryz.underlying93, by intro ms h; cases h⟩
instance : StructT Tryz.prog 93 #[(0, 1), (1, 1)] (Value.agg #[.int .i64 0, .int .i64 0]).cells := StructT.of Tryz.underlying93 rfl (by intro w; simp [run_sizeOf])
instance : Conc Tryz.prog 93 := ⟨by kernel_rfl⟩
instance : Fld Tryz.prog 93 0 0 3 := ⟨⟨_, _, Tryz.underlying93, rfl, rfl, rfl⟩⟩
instance : Fld Tryz.prog 93 1 1 3 := ⟨⟨_, _, Tryz.underlying93, rfl, rfl, rfl⟩⟩
instance : Inf Tryz.prog 94 (Value.agg #[.int .i64 0, .int .i64 0]) 2 16 := ⟨by kernel_rfl⟩
instance : Many Tryz.prog 94 2 := Many.of Tryz.underlying94 rfl
instance : NoIface Tryz.prog 94 := ⟨_, Tryz.underlying94, by intro ms h; cases h⟩
instance : StructT Tryz.prog 94 #[(0, 1), (1, 1)] (Value.agg #[.int .i64 0, .int .i64 0]).cells := StructT.of Tryz.underlying94 rfl (by intro w; simp [run_sizeOf])
instance : Conc Tryz.prog 94 := ⟨by kernel_rfl⟩
instance : Fld Tryz.prog 94 0 0 3 := ⟨⟨_, _, Tryz.underlying94, rfl, rfl, rfl⟩⟩
instance : Fld Tryz.prog 94 1 1 3 := ⟨⟨_, _, Tryz.underlying94, rfl, rfl, rfl⟩⟩
instance : Inf Tryz.prog 96 (.nilFunc) 1 8 := ⟨by kernel_rfl⟩
instance : One Tryz.prog 96 := One.of Tryz.underlying96 rfl
instance : NoIface Tryz.prog 96 := ⟨_, Tryz.underlying96, by intro ms h; cases h⟩
instance : Conc Tryz.prog 96 := ⟨by kernel_rfl⟩
instance : Inf Tryz.prog 98 (.nilFunc) 1 8 := ⟨by kernel_rfl⟩
instance : One Tryz.prog 98 := One.of Tryz.underlying98 rfl
instance : NoIface Tryz.prog 98 := ⟨_, Tryz.underlying98, by intro ms h; cases h⟩
instance : Conc Tryz.prog 98 := ⟨by kernel_rfl⟩
instance : Inf Tryz.prog 99 (.nilFunc) 1 8 := ⟨by kernel_rfl⟩
instance : One Tryz.prog 99 := One.of Tryz.underlying99 rfl
instance : NoIface Tryz.prog 99 := ⟨_, Tryz.underlying99, by intro ms h; cases h⟩
instance : Conc Tryz.prog 99 := ⟨by kernel_rfl⟩
instance : Inf Tryz.prog 100 (.nilFunc) 1 8 := ⟨by kernel_rfl⟩
instance : One Tryz.prog 100 := One.of Tryz.underlying100 rfl
instance : NoIface Tryz.prog 100 := ⟨_, Tryz.underlying100, by intro ms h; cases h⟩
instance : Conc Tryz.prog 100 := ⟨by kernel_rfl⟩
instance : Und Tryz.prog 101 (.pointer 103) := ⟨Tryz.underlying101⟩
instance : Inf Tryz.prog 101 (.pointer none) 1 8 := ⟨by kernel_rfl⟩
instance : One Tryz.prog 101 := One.of Tryz.underlying101 rfl
instance : NoIface Tryz.prog 101 := ⟨_, Tryz.underlying101, by intro ms h; cases h⟩
instance : Conc Tryz.prog 101 := ⟨by kernel_rfl⟩
instance : Inf Tryz.prog 102 (Value.agg #[.pointer none, .slice none 0 0]) 2 32 := ⟨by kernel_rfl⟩
instance : Many Tryz.prog 102 2 := Many.of Tryz.underlying102 rfl
instance : NoIface Tryz.prog 102 := ⟨_, Tryz.underlying102, by intro ms h; cases h⟩
instance : StructT Tryz.prog 102 #[(0, 1), (1, 1)] (Value.agg #[.pointer none, .slice none 0 0]).cells := StructT.of Tryz.underlying102 rfl (by intro w; simp [run_sizeOf])
instance : Conc Tryz.prog 102 := ⟨by kernel_rfl⟩
instance : Fld Tryz.prog 102 0 0 101 := ⟨⟨_, _, Tryz.underlying102, rfl, rfl, rfl⟩⟩
instance : Fld Tryz.prog 102 1 1 50 := ⟨⟨_, _, Tryz.underlying102, rfl, rfl, rfl⟩⟩
instance : Inf Tryz.prog 103 (Value.agg #[.pointer none, .slice none 0 0]) 2 32 := ⟨by kernel_rfl⟩
instance : Many Tryz.prog 103 2 := Many.of Tryz.underlying103 rfl
instance : NoIface Tryz.prog 103 := ⟨_, Tryz.underlying103, by intro ms h; cases h⟩
instance : StructT Tryz.prog 103 #[(0, 1), (1, 1)] (Value.agg #[.pointer none, .slice none 0 0]).cells := StructT.of Tryz.underlying103 rfl (by intro w; simp [run_sizeOf])
instance : Conc Tryz.prog 103 := ⟨by kernel_rfl⟩
instance : Fld Tryz.prog 103 0 0 101 := ⟨⟨_, _, Tryz.underlying103, rfl, rfl, rfl⟩⟩
instance : Fld Tryz.prog 103 1 1 50 := ⟨⟨_, _, Tryz.underlying103, rfl, rfl, rfl⟩⟩
instance : Inf Tryz.prog 104 (.nilFunc) 1 8 := ⟨by kernel_rfl⟩
instance : One Tryz.prog 104 := One.of Tryz.underlying104 rfl
instance : NoIface Tryz.prog 104 := ⟨_, Tryz.underlying104, by intro ms h; cases h⟩
instance : Conc Tryz.prog 104 := ⟨by kernel_rfl⟩
instance : Inf Tryz.prog 105 (.nilIface) 1 16 := ⟨by kernel_rfl⟩
instance : One Tryz.prog 105 := One.of Tryz.underlying105 rfl
instance : IfaceT Tryz.prog 105 := ⟨by kernel_rfl⟩
instance : Inf Tryz.prog 106 (.nilIface) 1 16 := ⟨by kernel_rfl⟩
instance : One Tryz.prog 106 := One.of Tryz.underlying106 rfl
instance : IfaceT Tryz.prog 106 := ⟨by kernel_rfl⟩
instance : Inf Tryz.prog 108 (.nilFunc) 1 8 := ⟨by kernel_rfl⟩
instance : One Tryz.prog 108 := One.of Tryz.underlying108 rfl
instance : NoIface Tryz.prog 108 := ⟨_, Tryz.underlying108, by intro ms h; cases h⟩
instance : Conc Tryz.prog 108 := ⟨by kernel_rfl⟩
instance : Inf Tryz.prog 109 (.nilFunc) 1 8 := ⟨by kernel_rfl⟩
instance : One Tryz.prog 109 := One.of Tryz.underlying109 rfl
instance : NoIface Tryz.prog 109 := ⟨_, Tryz.underlying109, by intro ms h; cases h⟩
instance : Conc Tryz.prog 109 := ⟨by kernel_rfl⟩
instance : Inf Tryz.prog 110 (.nilFunc) 1 8 := ⟨by kernel_rfl⟩
instance : One Tryz.prog 110 := One.of Tryz.underlying110 rfl
instance : NoIface Tryz.prog 110 := ⟨_, Tryz.underlying110, by intro ms h; cases h⟩
instance : Conc Tryz.prog 110 := ⟨by kernel_rfl⟩
instance : Inf Tryz.prog 111 (.nilFunc) 1 8 := ⟨by kernel_rfl⟩
instance : One Tryz.prog 111 := One.of Tryz.underlying111 rfl
instance : NoIface Tryz.prog 111 := ⟨_, Tryz.underlying111, by intro ms h; cases h⟩
instance : Conc Tryz.prog 111 := ⟨by kernel_rfl⟩
instance : Inf Tryz.prog 112 (.nilFunc) 1 8 := ⟨by kernel_rfl⟩
instance : One Tryz.prog 112 := One.of Tryz.underlying112 rfl
instance : NoIface Tryz.prog 112 := ⟨_, Tryz.underlying112, by intro ms h; cases h⟩
instance : Conc Tryz.prog 112 := ⟨by kernel_rfl⟩
instance : Inf Tryz.prog 113 (.nilFunc) 1 8 := ⟨by kernel_rfl⟩
instance : One Tryz.prog 113 := One.of Tryz.underlying113 rfl
instance : NoIface Tryz.prog 113 := ⟨_, Tryz.underlying113, by intro ms h; cases h⟩
instance : Conc Tryz.prog 113 := ⟨by kernel_rfl⟩
instance : Inf Tryz.prog 114 (.nilFunc) 1 8 := ⟨by kernel_rfl⟩
instance : One Tryz.prog 114 := One.of Tryz.underlying114 rfl
instance : NoIface Tryz.prog 114 := ⟨_, Tryz.underlying114, by intro ms h; cases h⟩
instance : Conc Tryz.prog 114 := ⟨by kernel_rfl⟩
instance : Inf Tryz.prog 116 (.nilFunc) 1 8 := ⟨by kernel_rfl⟩
instance : One Tryz.prog 116 := One.of Tryz.underlying116 rfl
instance : NoIface Tryz.prog 116 := ⟨_, Tryz.underlying116, by intro ms h; cases h⟩
instance : Conc Tryz.prog 116 := ⟨by kernel_rfl⟩
instance : Inf Tryz.prog 117 (.nilFunc) 1 8 := ⟨by kernel_rfl⟩
instance : One Tryz.prog 117 := One.of Tryz.underlying117 rfl
instance : NoIface Tryz.prog 117 := ⟨_, Tryz.underlying117, by intro ms h; cases h⟩
instance : Conc Tryz.prog 117 := ⟨by kernel_rfl⟩
instance : Inf Tryz.prog 119 (.nilFunc) 1 8 := ⟨by kernel_rfl⟩
instance : One Tryz.prog 119 := One.of Tryz.underlying119 rfl
instance : NoIface Tryz.prog 119 := ⟨_, Tryz.underlying119, by intro ms h; cases h⟩
instance : Conc Tryz.prog 119 := ⟨by kernel_rfl⟩
instance : Inf Tryz.prog 120 (.nilFunc) 1 8 := ⟨by kernel_rfl⟩
instance : One Tryz.prog 120 := One.of Tryz.underlying120 rfl
instance : NoIface Tryz.prog 120 := ⟨_, Tryz.underlying120, by intro ms h; cases h⟩
instance : Conc Tryz.prog 120 := ⟨by kernel_rfl⟩
instance : Und Tryz.prog 121 (.array 3 3) := ⟨Tryz.underlying121⟩
instance : Inf Tryz.prog 121 (Value.agg #[.int .i64 0, .int .i64 0, .int .i64 0]) 3 24 := ⟨by kernel_rfl⟩
instance : Many Tryz.prog 121 3 := Many.of Tryz.underlying121 rfl
instance : NoIface Tryz.prog 121 := ⟨_, Tryz.underlying121, by intro ms h; cases h⟩
instance : Conc Tryz.prog 121 := ⟨by kernel_rfl⟩
instance : Inf Tryz.prog 122 (.nilFunc) 1 8 := ⟨by kernel_rfl⟩
instance : One Tryz.prog 122 := One.of Tryz.underlying122 rfl
instance : NoIface Tryz.prog 122 := ⟨_, Tryz.underlying122, by intro ms h; cases h⟩
instance : Conc Tryz.prog 122 := ⟨by kernel_rfl⟩
instance : Inf Tryz.prog 123 (.nilFunc) 1 8 := ⟨by kernel_rfl⟩
instance : One Tryz.prog 123 := One.of Tryz.underlying123 rfl
instance : NoIface Tryz.prog 123 := ⟨_, Tryz.underlying123, by intro ms h; cases h⟩
instance : Conc Tryz.prog 123 := ⟨by kernel_rfl⟩
instance : Und Tryz.prog 124 (.pointer 3) := ⟨Tryz.underlying124⟩
instance : Inf Tryz.prog 124 (.pointer none) 1 8 := ⟨by kernel_rfl⟩
instance : One Tryz.prog 124 := One.of Tryz.underlying124 rfl
instance : NoIface Tryz.prog 124 := ⟨_, Tryz.underlying124, by intro ms h; cases h⟩
instance : Conc Tryz.prog 124 := ⟨by kernel_rfl⟩
instance : Und Tryz.prog 125 (.slice 124) := ⟨Tryz.underlying125⟩
instance : Inf Tryz.prog 125 (.slice none 0 0) 1 24 := ⟨by kernel_rfl⟩
instance : One Tryz.prog 125 := One.of Tryz.underlying125 rfl
instance : NoIface Tryz.prog 125 := ⟨_, Tryz.underlying125, by intro ms h; cases h⟩
instance : Conc Tryz.prog 125 := ⟨by kernel_rfl⟩
instance : Inf Tryz.prog 126 (.nilFunc) 1 8 := ⟨by kernel_rfl⟩
instance : One Tryz.prog 126 := One.of Tryz.underlying126 rfl
instance : NoIface Tryz.prog 126 := ⟨_, Tryz.underlying126, by intro ms h; cases h⟩
instance : Conc Tryz.prog 126 := ⟨by kernel_rfl⟩
instance : Und Tryz.prog 127 (.pointer 5) := ⟨Tryz.underlying127⟩
instance : Inf Tryz.prog 127 (.pointer none) 1 8 := ⟨by kernel_rfl⟩
instance : One Tryz.prog 127 := One.of Tryz.underlying127 rfl
instance : NoIface Tryz.prog 127 := ⟨_, Tryz.underlying127, by intro ms h; cases h⟩
instance : Conc Tryz.prog 127 := ⟨by kernel_rfl⟩
instance : Und Tryz.prog 128 (.slice 3) := ⟨Tryz.underlying128⟩
instance : Inf Tryz.prog 128 (.slice none 0 0) 1 24 := ⟨by kernel_rfl⟩
instance : One Tryz.prog 128 := One.of Tryz.underlying128 rfl
instance : NoIface Tryz.prog 128 := ⟨_, Tryz.underlying128, by intro ms h; cases h⟩
instance : Conc Tryz.prog 128 := ⟨by kernel_rfl⟩
instance : Inf Tryz.prog 129 (.nilFunc) 1 8 := ⟨by kernel_rfl⟩
instance : One Tryz.prog 129 := One.of Tryz.underlying129 rfl
instance : NoIface Tryz.prog 129 := ⟨_, Tryz.underlying129, by intro ms h; cases h⟩
instance : Conc Tryz.prog 129 := ⟨by kernel_rfl⟩
instance : Inf Tryz.prog 130 (.nilFunc) 1 8 := ⟨by kernel_rfl⟩
instance : One Tryz.prog 130 := One.of Tryz.underlying130 rfl
instance : NoIface Tryz.prog 130 := ⟨_, Tryz.underlying130, by intro ms h; cases h⟩
instance : Conc Tryz.prog 130 := ⟨by kernel_rfl⟩
instance : Inf Tryz.prog 131 (.nilFunc) 1 8 := ⟨by kernel_rfl⟩
instance : One Tryz.prog 131 := One.of Tryz.underlying131 rfl
instance : NoIface Tryz.prog 131 := ⟨_, Tryz.underlying131, by intro ms h; cases h⟩
instance : Conc Tryz.prog 131 := ⟨by kernel_rfl⟩
instance : Inf Tryz.prog 132 (.nilFunc) 1 8 := ⟨by kernel_rfl⟩
instance : One Tryz.prog 132 := One.of Tryz.underlying132 rfl
instance : NoIface Tryz.prog 132 := ⟨_, Tryz.underlying132, by intro ms h; cases h⟩
instance : Conc Tryz.prog 132 := ⟨by kernel_rfl⟩
instance : Inf Tryz.prog 133 (.nilFunc) 1 8 := ⟨by kernel_rfl⟩
instance : One Tryz.prog 133 := One.of Tryz.underlying133 rfl
instance : NoIface Tryz.prog 133 := ⟨_, Tryz.underlying133, by intro ms h; cases h⟩
instance : Conc Tryz.prog 133 := ⟨by kernel_rfl⟩
instance : Inf Tryz.prog 134 (.pointer none) 1 8 := ⟨by kernel_rfl⟩
instance : Conc Tryz.prog 134 := ⟨by kernel_rfl⟩
instance : Inf Tryz.prog 135 (.nilFunc) 1 8 := ⟨by kernel_rfl⟩
instance : One Tryz.prog 135 := One.of Tryz.underlying135 rfl
instance : NoIface Tryz.prog 135 := ⟨_, Tryz.underlying135, by intro ms h; cases h⟩
instance : Conc Tryz.prog 135 := ⟨by kernel_rfl⟩
instance : Inf Tryz.prog 136 (.nilFunc) 1 8 := ⟨by kernel_rfl⟩
instance : One Tryz.prog 136 := One.of Tryz.underlying136 rfl
instance : NoIface Tryz.prog 136 := ⟨_, Tryz.underlying136, by intro ms h; cases h⟩
instance : Conc Tryz.prog 136 := ⟨by kernel_rfl⟩
instance : Und Tryz.prog 137 (.array 256 5) := ⟨Tryz.underlying137⟩
instance : NoIface Tryz.prog 137 := ⟨_, Tryz.underlying137, by intro ms h; cases h⟩
instance : Conc Tryz.prog 137 := ⟨by kernel_rfl⟩
instance : Und Tryz.prog 138 (.int .u64) := ⟨Tryz.underlying138⟩
instance : Inf Tryz.prog 138 (.int .u64 0) 1 8 := ⟨by kernel_rfl⟩
instance : One Tryz.prog 138 := One.of Tryz.underlying138 rfl
instance : NoIface Tryz.prog 138 := ⟨_, Tryz.underlying138, by intro ms h; cases h⟩
instance : Conc Tryz.prog 138 := ⟨by kernel_rfl⟩
instance : Inf Tryz.prog 139 (Value.agg #[.int .u8 0, .int .u8 0]) 2 2 := ⟨by kernel_rfl⟩
instance : Many Tryz.prog 139 2 := Many.of Tryz.underlying139 rfl
instance : NoIface Tryz.prog 139 := ⟨_, Tryz.underlying139, by intro ms h; cases h⟩
instance : StructT Tryz.prog 139 #[(0, 1), (1, 1)] (Value.agg #[.int .u8 0, .int .u8 0]).cells := StructT.of Tryz.underlying139 rfl (by intro w; simp [run_sizeOf])
instance : Conc Tryz.prog 139 := ⟨by kernel_rfl⟩
instance : Fld Tryz.prog 139 0 0 5 := ⟨⟨_, _, Tryz.underlying139, rfl, rfl, rfl⟩⟩
instance : Fld Tryz.prog 139 1 1 5 := ⟨⟨_, _, Tryz.underlying139, rfl, rfl, rfl⟩⟩
instance : Inf Tryz.prog 140 (Value.agg #[.int .u8 0, .int .u8 0]) 2 2 := ⟨by kernel_rfl⟩
instance : Many Tryz.prog 140 2 := Many.of Tryz.underlying140 rfl
instance : NoIface Tryz.prog 140 := ⟨_, Tryz.underlying140, by intro ms h; cases h⟩
instance : StructT Tryz.prog 140 #[(0, 1), (1, 1)] (Value.agg #[.int .u8 0, .int .u8 0]).cells := StructT.of Tryz.underlying140 rfl (by intro w; simp [run_sizeOf])
instance : Conc Tryz.prog 140 := ⟨by kernel_rfl⟩
instance : Fld Tryz.prog 140 0 0 5 := ⟨⟨_, _, Tryz.underlying140, rfl, rfl, rfl⟩⟩
instance : Fld Tryz.prog 140 1 1 5 := ⟨⟨_, _, Tryz.underlying140, rfl, rfl, rfl⟩⟩
instance : Und Tryz.prog 141 (.array 16 140) := ⟨Tryz.underlying141⟩
instance : Inf Tryz.prog 141 (Value.agg #[.int .u8 0, .int .u8 0, .int .u8 0, .int .u8 0, .int .u8 0, .int .u8 0, .int .u8 0, .int .u8 0, .int .u8 0, .int .u8 0, .int .u8 0, .int .u8 0, .int .u8 0, .int .u8 0, .int .u8 0, .int .u8 0, .int .u8 0, .int .u8 0, .int .u8 0, .int .u8 0, .int .u8 0, .int .u8 0, .int .u8 0, .int .u8 0, .int .u8 0, .int .u8 0, .int .u8 0, .int .u8 0, .int .u8 0, .int .u8 0, .int .u8 0, .int .u8 0]) 32 32 := ⟨by kernel_rfl⟩
instance : Many Tryz.prog 141 32 := Many.of Tryz.underlying141 rfl
instance : NoIface Tryz.prog 141 := ⟨_, Tryz.underlying141, by intro ms h; cases h⟩
instance : Conc Tryz.prog 141 := ⟨by kernel_rfl⟩
instance : Inf Tryz.prog 142 (.nilFunc) 1 8 := ⟨by kernel_rfl⟩
instance : One Tryz.prog 142 := One.of Tryz.underlying142 rfl
instance : NoIface Tryz.prog 142 := ⟨_, Tryz.underlying142, by intro ms h; cases h⟩
instance : Conc Tryz.prog 142 := ⟨by kernel_rfl⟩
instance : Inf Tryz.prog 143 (.nilFunc) 1 8 := ⟨by kernel_rfl⟩
instance : One Tryz.prog 143 := One.of Tryz.underlying143 rfl
instance : NoIface Tryz.prog 143 := ⟨_, Tryz.underlying143, by intro ms h; cases h⟩
instance : Conc Tryz.prog 143 := ⟨by kernel_rfl⟩
instance : Inf Tryz.prog 144 (.nilFunc) 1 8 := ⟨by kernel_rfl⟩
instance : One Tryz.prog 144 := One.of Tryz.underlying144 rfl
instance : NoIface Tryz.prog 144 := ⟨_, Tryz.underlying144, by intro ms h; cases h⟩
instance : Conc Tryz.prog 144 := ⟨by kernel_rfl⟩
instance : Und Tryz.prog 145 (.array 24 5) := ⟨Tryz.underlying145⟩
instance : Inf Tryz.prog 145 (Value.agg #[.int .u8 0, .int .u8 0, .int .u8 0, .int .u8 0, .int .u8 0, .int .u8 0, .int .u8 0, .int .u8 0, .int .u8 0, .int .u8 0, .int .u8 0, .int .u8 0, .int .u8 0, .int .u8 0, .int .u8 0, .int .u8 0, .int .u8 0, .int .u8 0, .int .u8 0, .int .u8 0, .int .u8 0, .int .u8 0, .int .u8 0, .int .u8 0]) 24 24 := ⟨by kernel_rfl⟩
instance : Many Tryz.prog 145 24 := Many.of Tryz.underlying145 rfl
instance : NoIface Tryz.prog 145 := ⟨_, Tryz.underlying145, by intro ms h; cases h⟩
instance : Conc Tryz.prog 145 := ⟨by kernel_rfl⟩
instance : Und Tryz.prog 146 (.int .u64) := ⟨Tryz.underlying146⟩
instance : Inf Tryz.prog 146 (.int .u64 0) 1 8 := ⟨by kernel_rfl⟩
instance : One Tryz.prog 146 := One.of Tryz.underlying146 rfl
instance : NoIface Tryz.prog 146 := ⟨_, Tryz.underlying146, by intro ms h; cases h⟩
instance : Conc Tryz.prog 146 := ⟨by kernel_rfl⟩
instance : Inf Tryz.prog 147 (.nilFunc) 1 8 := ⟨by kernel_rfl⟩
instance : One Tryz.prog 147 := One.of Tryz.underlying147 rfl
instance : NoIface Tryz.prog 147 := ⟨_, Tryz.underlying147, by intro ms h; cases h⟩
instance : Conc Tryz.prog 147 := ⟨by kernel_rfl⟩
instance : Inf Tryz.prog 148 (.nilFunc) 1 8 := ⟨by kernel_rfl⟩
instance : One Tryz.prog 148 := One.of Tryz.underlying148 rfl
instance : NoIface Tryz.prog 148 := ⟨_, Tryz.underlying148, by intro ms h; cases h⟩
instance : Conc Tryz.prog 148 := ⟨by kernel_rfl⟩
instance : Inf Tryz.prog 150 (.nilFunc) 1 8 := ⟨by kernel_rfl⟩
instance : One Tryz.prog 150 := One.of Tryz.underlying150 rfl
instance : NoIface Tryz.prog 150 := ⟨_, Tryz.underlying150, by intro ms h; cases h⟩
instance : Conc Tryz.prog 150 := ⟨by kernel_rfl⟩
instance : Und Tryz.prog 151 (.int .u32) := ⟨Tryz.underlying151⟩
instance : Inf Tryz.prog 151 (.int .u32 0) 1 4 := ⟨by kernel_rfl⟩
instance : One Tryz.prog 151 := One.of Tryz.underlying151 rfl
instance : NoIface Tryz.prog 151 := ⟨_, Tryz.underlying151, by intro ms h; cases h⟩
instance : Conc Tryz.prog 151 := ⟨by kernel_rfl⟩
instance : Inf Tryz.prog 153 (.nilFunc) 1 8 := ⟨by kernel_rfl⟩
instance : One Tryz.prog 153 := One.of Tryz.underlying153 rfl
instance : NoIface Tryz.prog 153 := ⟨_, Tryz.underlying153, by intro ms h; cases h⟩
instance : Conc Tryz.prog 153 := ⟨by kernel_rfl⟩
instance : Inf Tryz.prog 154 (.nilFunc) 1 8 := ⟨by kernel_rfl⟩
instance : One Tryz.prog 154 := One.of Tryz.underlying154 rfl
instance : NoIface Tryz.prog 154 := ⟨_, Tryz.underlying154, by intro ms h; cases h⟩
instance : Conc Tryz.prog 154 := ⟨by kernel_rfl⟩
instance : Und Tryz.prog 155 (.int .i64) := ⟨Tryz.underlying155⟩
instance : Inf Tryz.prog 155 (.int .i64 0) 1 8 := ⟨by kernel_rfl⟩
instance : One Tryz.prog 155 := One.of Tryz.underlying155 rfl
instance : NoIface Tryz.prog 155 := ⟨_, Tryz.underlying155, by intro ms h; cases h⟩
instance : Conc Tryz.prog 155 := ⟨by kernel_rfl⟩
instance : Inf Tryz.prog 157 (.nilFunc) 1 8 := ⟨by kernel_rfl⟩
instance : One Tryz.prog 157 := One.of Tryz.underlying157 rfl
instance : NoIface Tryz.prog 157 := ⟨_, Tryz.underlying157, by intro ms h; cases h⟩
instance : Conc Tryz.prog 157 := ⟨by kernel_rfl⟩
instance : Und Tryz.prog 158 (.pointer 168) := ⟨Tryz.underlying158⟩
instance : Inf Tryz.prog 158 (.pointer none) 1 8 := ⟨by kernel_rfl⟩
instance : One Tryz.prog 158 := One.of Tryz.underlying158 rfl
instance : NoIface Tryz.prog 158 := ⟨_, Tryz.underlying158, by intro ms h; cases h⟩
instance : Conc Tryz.prog 158 := ⟨by kernel_rfl⟩
instance : Inf Tryz.prog 159 (.nilFunc) 1 8 := ⟨by kernel_rfl⟩
instance : One Tryz.prog 159 := One.of Tryz.underlying159 rfl
instance : NoIface Tryz.prog 159 := ⟨_, Tryz.underlying159, by intro ms h; cases h⟩
instance : Conc Tryz.prog 159 := ⟨by kernel_rfl⟩
instance : Inf Tryz.prog 160 (.nilFunc) 1 8 := ⟨by kernel_rfl⟩
instance : One Tryz.prog 160 := One.of Tryz.underlying160 rfl
instance : NoIface Tryz.prog 160 := ⟨_, Tryz.underlying160, by intro ms h; cases h⟩
instance : Conc Tryz.prog 160 := ⟨by kernel_rfl⟩
instance : Und Tryz.prog 161 (.array 20 146) := ⟨Tryz.underlying161⟩
instance : Inf Tryz.prog 161 (Value.agg #[.int .u64 0, .int .u64 0, .int .u64 0, .int .u64 0, .int .u64 0, .int .u64 0, .int .u64 0, .int .u64 0, .int .u64 0, .int .u64 0, .int .u64 0, .int .u64 0, .int .u64 0, .int .u64 0, .int .u64 0, .int .u64 0, .int .u64 0, .int .u64 0, .int .u64 0, .int .u64 0]) 20 160 := ⟨by kernel_rfl⟩
instance : Many Tryz.prog 161 20 := Many.of Tryz.underlying161 rfl
instance : NoIface Tryz.prog 161 := ⟨_, Tryz.underlying161, by intro ms h; cases h⟩
instance : Conc Tryz.prog 161 := ⟨by kernel_rfl⟩
instance : Und Tryz.prog 162 (.array 65 5) := ⟨Tryz.underlying162⟩
instance : NoIface Tryz.prog 162 := ⟨_, Tryz.underlying162, by intro ms h; cases h⟩
instance : Conc Tryz.prog 162 := ⟨by kernel_rfl⟩
instance : Inf Tryz.prog 163 (.nilFunc) 1 8 := ⟨by kernel_rfl⟩
instance : One Tryz.prog 163 := One.of Tryz.underlying163 rfl
instance : NoIface Tryz.prog 163 := ⟨_, Tryz.underlying163, by intro ms h; cases h⟩
instance : Conc Tryz.prog 163 := ⟨by kernel_rfl⟩
instance : Inf Tryz.prog 165 (.nilFunc) 1 8 := ⟨by kernel_rfl⟩
instance : One Tryz.prog 165 := One.of Tryz.underlying165 rfl
instance : NoIface Tryz.prog 165 := ⟨_, Tryz.underlying165, by intro ms h; cases h⟩
instance : Conc Tryz.prog 165 := ⟨by kernel_rfl⟩
instance : Inf Tryz.prog 166 (.nilFunc) 1 8 := ⟨by kernel_rfl⟩
instance : One Tryz.prog 166 := One.of Tryz.underlying166 rfl
instance : NoIface Tryz.prog 166 := ⟨_, Tryz.underlying166, by intro ms h; cases h⟩
instance : Conc Tryz.prog 166 := ⟨by kernel_rfl⟩
instance : Inf Tryz.prog 167 (Value.agg #[.string (B []), .string (B []), .nilIface]) 3 48 := ⟨by kernel_rfl⟩
instance : Many Tryz.prog 167 3 := Many.of Tryz.underlying167 rfl
instance : NoIface Tryz.prog 167 := ⟨_, Tryz.underlying167, by intro ms h; cases h⟩
instance : StructT Tryz.prog 167 #[(0, 1), (1, 1), (2, 1)] (Value.agg #[.string (B []), .string (B []), .nilIface]).cells := StructT.of Tryz.underlying167 rfl (by intro w; simp [run_sizeOf])
instance : Conc Tryz.prog 167 := ⟨by kernel_rfl⟩
instance : Fld Tryz.prog 167 0 0 9 := ⟨⟨_, _, Tryz.underlying167, rfl, rfl, rfl⟩⟩
instance : Fld Tryz.prog 167 1 1 9 := ⟨⟨_, _, Tryz.underlying167, rfl, rfl, rfl⟩⟩
instance : Fld Tryz.prog 167 2 2 106 := ⟨⟨_, _, Tryz.underlying167, rfl, rfl, rfl⟩⟩
instance : Inf Tryz.prog 168 (Value.agg #[.string (B []), .string (B []), .nilIface]) 3 48 := ⟨by kernel_rfl⟩
instance : Many Tryz.prog 168 3 := Many.of Tryz.underlying168 rfl
instance : NoIface Tryz.prog 168 := ⟨_, Tryz.underlying168, by intro ms h; cases h⟩
instance : StructT Tryz.prog 168 #[(0, 1), (1, 1), (2, 1)] (Value.agg #[.string (B []), .string (B []), .nilIface]).cells := StructT.of Tryz.underlying168 rfl (by intro w; simp [run_sizeOf])
instance : Conc Tryz.prog 168 := ⟨by kernel_rfl⟩
instance : Fld Tryz.prog 168 0 0 9 := ⟨⟨_, _, Tryz.underlying168, rfl, rfl, rfl⟩⟩
instance : Fld Tryz.prog 168 1 1 9 := ⟨⟨_, _, Tryz.underlying168, rfl, rfl, rfl⟩⟩
instance : Fld Tryz.prog 168 2 2 106 := ⟨⟨_, _, Tryz.underlying168, rfl, rfl, rfl⟩⟩
instance : Inf Tryz.prog 169 (.nilFunc) 1 8 := ⟨by kernel_rfl⟩
instance : One Tryz.prog 169 := One.of Tryz.underlying169 rfl
instance : NoIface Tryz.prog 169 := ⟨_, Tryz.underlying169, by intro ms h; cases h⟩
instance : Conc Tryz.prog 169 := ⟨by kernel_rfl⟩
instance : Inf Tryz.prog 170 (.nilFunc) 1 8 := ⟨by kernel_rfl⟩
instance : One Tryz.prog 170 := One.of Tryz.underlying170 rfl
instance : NoIface Tryz.prog 170 := ⟨_, Tryz.underlying170, by intro ms h; cases h⟩
instance : Conc Tryz.prog 170 := ⟨by kernel_rfl⟩
instance : Inf Tryz.prog 171 (.nilFunc) 1 8 := ⟨by kernel_rfl⟩
instance : One Tryz.prog 171 := One.of Tryz.underlying171 rfl
instance : NoIface Tryz.prog 171 := ⟨_, Tryz.underlying171, by intro ms h; cases h⟩
instance : Conc Tryz.prog 171 := ⟨by kernel_rfl⟩
instance : Und Tryz.prog 172 (.pointer 174) := ⟨Tryz.underlying172⟩
instance : Inf Tryz.prog 172 (.pointer none) 1 8 := ⟨by kernel_rfl⟩
instance : One Tryz.prog 172 := One.of Tryz.underlying172 rfl
instance : NoIface Tryz.prog 172 := ⟨_, Tryz.underlying172, by intro ms h; cases h⟩
instance : Conc Tryz.prog 172 := ⟨by kernel_rfl⟩
instance : Inf Tryz.prog 173 (Value.agg #[.string (B [])]) 1 16 := ⟨by kernel_rfl⟩
instance : Many Tryz.prog 173 1 := Many.of Tryz.underlying173 rfl
instance : NoIface Tryz.prog 173 := ⟨_, Tryz.underlying173, by intro ms h; cases h⟩
instance : StructT Tryz.prog 173 #[(0, 1)] (Value.agg #[.string (B [])]).cells := StructT.of Tryz.underlying173 rfl (by intro w; simp [run_sizeOf])
instance : Conc Tryz.prog 173 := ⟨by kernel_rfl⟩
instance : Fld Tryz.prog 173 0 0 9 := ⟨⟨_, _, Tryz.underlying173, rfl, rfl, rfl⟩⟩
instance : Inf Tryz.prog 174 (Value.agg #[.string (B [])]) 1 16 := ⟨by kernel_rfl⟩
instance : Many Tryz.prog 174 1 := Many.of Tryz.underlying174 rfl
instance : NoIface Tryz.prog 174 := ⟨_, Tryz.underlying174, by intro ms h; cases h⟩
instance : StructT Tryz.prog 174 #[(0, 1)] (Value.agg #[.string (B [])]).cells := StructT.of Tryz.underlying174 rfl (by intro w; simp [run_sizeOf])
instance : Conc Tryz.prog 174 := ⟨by kernel_rfl⟩
instance : Fld Tryz.prog 174 0 0 9 := ⟨⟨_, _, Tryz.underlying174, rfl, rfl, rfl⟩⟩
instance : Und Tryz.prog 175 (.array 32 5) := ⟨Tryz.underlying175⟩
instance : Inf Tryz.prog 175 (Value.agg #[.int .u8 0, .int .u8 0, .int .u8 0, .int .u8 0, .int .u8 0, .int .u8 0, .int .u8 0, .int .u8 0, .int .u8 0, .int .u8 0, .int .u8 0, .int .u8 0, .int .u8 0, .int .u8 0, .int .u8 0, .int .u8 0, .int .u8 0, .int .u8 0, .int .u8 0, .int .u8 0, .int .u8 0, .int .u8 0, .int .u8 0, .int .u8 0, .int .u8 0, .int .u8 0, .int .u8 0, .int .u8 0, .int .u8 0, .int .u8 0, .int .u8 0, .int .u8 0]) 32 32 := ⟨by kernel_rfl⟩
instance : Many Tryz.prog 175 32 := Many.of Tryz.underlying175 rfl
instance : NoIface Tryz.prog 175 := ⟨_, Tryz.underlying175, by intro ms h; cases h⟩
instance : Conc Tryz.prog 175 := ⟨by kernel_rfl⟩
instance : Und Tryz.prog 176 (.array 64 5) := ⟨Tryz.underlying176⟩
instance : Inf Tryz.prog 176 (Value.agg #[.int .u8 0, .int .u8 0, .int .u8 0, .int .u8 0, .int .u8 0, .int .u8 0, .int .u8 0, .int .u8 0, .int .u8 0, .int .u8 0, .int .u8 0, .int .u8 0, .int .u8 0, .int .u8 0, .int .u8 0, .int .u8 0, .int .u8 0, .int .u8 0, .int .u8 0, .int .u8 0, .int .u8 0, .int .u8 0, .int .u8 0, .int .u8 0, .int .u8 0, .int .u8 0, .int .u8 0, .int .u8 0, .int .u8 0, .int .u8 0, .int .u8 0, .int .u8 0, .int .u8 0, .int .u8 0, .int .u8 0, .int .u8 0, .int .u8 0, .int .u8 0, .int .u8 0, .int .u8 0, .int .u8 0, .int .u8 0, .int .u8 0, .int .u8 0, .int .u8 0, .int .u8 0, .int .u8 0, .int .u8 0, .int .u8 0, .int .u8 0, .int .u8 0, .int .u8 0, .int .u8 0, .int .u8 0, .int .u8 0, .int .u8 0, .int .u8 0, .int .u8 0, .int .u8 0, .int .u8 0, .int .u8 0, .int .u8 0, .int .u8 0, .int .u8 0]) 64 64 := ⟨by kernel_rfl⟩
instance : Many Tryz.prog 176 64 := Many.of Tryz.underlying176 rfl
instance : NoIface Tryz.prog 176 := ⟨_, Tryz.underlying176, by intro ms h; cases h⟩
instance : Conc Tryz.prog 176 := ⟨by kernel_rfl⟩
instance : Inf Tryz.prog 177 (Value.agg #[.pointer none, .pointer none, .pointer none, .string (B [])]) 4 40 := ⟨by kernel_rfl⟩
instance : Many Tryz.prog 177 4 := Many.of Tryz.underlying177 rfl
instance : NoIface Tryz.prog 177 := ⟨_, Tryz.underlying177, by intro ms h; cases h⟩
instance : StructT Tryz.prog 177 #[(0, 1), (1, 1), (2, 1), (3, 1)] (Value.agg #[.pointer none, .pointer none, .pointer none, .string (B [])]).cells := StructT.of Tryz.underlying177 rfl (by intro w; simp [run_sizeOf])
instance : Conc Tryz.prog 177 := ⟨by kernel_rfl⟩
instance : Fld Tryz.prog 177 0 0 17 := ⟨⟨_, _, Tryz.underlying177, rfl, rfl, rfl⟩⟩
instance : Fld Tryz.prog 177 1 1 17 := ⟨⟨_, _, Tryz.underlying177, rfl, rfl, rfl⟩⟩
instance : Fld Tryz.prog 177 2 2 17 := ⟨⟨_, _, Tryz.underlying177, rfl, rfl, rfl⟩⟩
instance : Fld Tryz.prog 177 3 3 9 := ⟨⟨_, _, Tryz.underlying177, rfl, rfl, rfl⟩⟩
instance : Inf Tryz.prog 178 (Value.agg #[.pointer none, .pointer none, .pointer none, .string (B [])]) 4 40 := ⟨by kernel_rfl⟩
instance : Many Tryz.prog 178 4 := Many.of Tryz.underlying178 rfl
instance : NoIface Tryz.prog 178 := ⟨_, Tryz.underlying178, by intro ms h; cases h⟩
instance : StructT Tryz.prog 178 #[(0, 1), (1, 1), (2, 1), (3, 1)] (Value.agg #[.pointer none, .pointer none, .pointer none, .string (B [])]).cells := StructT.of Tryz.underlying178 rfl (by intro w; simp [run_sizeOf])
instance : Conc Tryz.prog 178 := ⟨by kernel_rfl⟩
instance : Fld Tryz.prog 178 0 0 17 := ⟨⟨_, _, Tryz.underlying178, rfl, rfl, rfl⟩⟩
instance : Fld Tryz.prog 178 1 1 17 := ⟨⟨_, _, Tryz.underlying178, rfl, rfl, rfl⟩⟩
instance : Fld Tryz.prog 178 2 2 17 := ⟨⟨_, _, Tryz.underlying178, rfl, rfl, rfl⟩⟩
instance : Fld Tryz.prog 178 3 3 9 := ⟨⟨_, _, Tryz.underlying178, rfl, rfl, rfl⟩⟩
instance : Und Tryz.prog 179 (.array 0 16) := ⟨Tryz.underlying179⟩
instance : Inf Tryz.prog 179 (Value.agg #[]) 0 0 := ⟨by kernel_rfl⟩
instance : Many Tryz.prog 179 0 := Many.of Tryz.underlying179 rfl
instance : NoIface Tryz.prog 179 := ⟨_, Tryz.underlying179, by intro ms h; cases h⟩
instance : Conc Tryz.prog 179 := ⟨by kernel_rfl⟩
instance : Inf Tryz.prog 180 (Value.agg #[]) 0 0 := ⟨by kernel_rfl⟩
instance : Many Tryz.prog 180 0 := Many.of Tryz.underlying180 rfl
instance : NoIface Tryz.prog 180 := ⟨_, Tryz.underlying180, by intro ms h; cases h⟩
instance : StructT Tryz.prog 180 #[(0, 0)] (Value.agg #[]).cells := StructT.of Tryz.underlying180 rfl (by intro w; simp [run_sizeOf])
instance : Conc Tryz.prog 180 := ⟨by kernel_rfl⟩
instance : Fld Tryz.prog 180 0 0 179 := ⟨⟨_, _, Tryz.underlying180, rfl, rfl, rfl⟩⟩
instance : Inf Tryz.prog 181 (Value.agg #[]) 0 0 := ⟨by kernel_rfl⟩
instance : Many Tryz.prog 181 0 := Many.of Tryz.underlying181 rfl
instance : NoIface Tryz.prog 181 := ⟨_, Tryz.underlying181, by intro ms h; cases h⟩
instance : StructT Tryz.prog 181 #[(0, 0)] (Value.agg #[]).cells := StructT.of Tryz.underlying181 rfl (by intro w; simp [run_sizeOf])
instance : Conc Tryz.prog 181 := ⟨by kernel_rfl⟩
instance : Fld Tryz.prog 181 0 0 179 := ⟨⟨_, _, Tryz.underlying181, rfl, rfl, rfl⟩⟩
instance : Inf Tryz.prog 182 (.nilFunc) 1 8 := ⟨by kernel_rfl⟩
instance : One Tryz.prog 182 := One.of Tryz.underlying182 rfl
instance : NoIface Tryz.prog 182 := ⟨_, Tryz.underlying182, by intro ms h; cases h⟩
instance : Conc Tryz.prog 182 := ⟨by kernel_rfl⟩
instance : Und Tryz.prog 183 (.int .u8) := ⟨Tryz.underlying183⟩
instance : Inf Tryz.prog 183 (.int .u8 0) 1 1 := ⟨by kernel_rfl⟩
instance : One Tryz.prog 183 := One.of Tryz.underlying183 rfl
instance : NoIface Tryz.prog 183 := ⟨_, Tryz.underlying183, by intro ms h; cases h⟩
instance : Conc Tryz.prog 183 := ⟨by kernel_rfl⟩
instance : Und Tryz.prog 184 (.int .u8) := ⟨Tryz.underlying184⟩
instance : Inf Tryz.prog 184 (.int .u8 0) 1 1 := ⟨by kernel_rfl⟩
instance : One Tryz.prog 184 := One.of Tryz.underlying184 rfl
instance : NoIface Tryz.prog 184 := ⟨_, Tryz.underlying184, by intro ms h; cases h⟩
instance : Conc Tryz.prog 184 := ⟨by kernel_rfl⟩
instance : Inf Tryz.prog 185 (.nilFunc) 1 8 := ⟨by kernel_rfl⟩
instance : One Tryz.prog 185 := One.of Tryz.underlying185 rfl
instance : NoIface Tryz.prog 185 := ⟨_, Tryz.underlying185, by intro ms h; cases h⟩
instance : Conc Tryz.prog 185 := ⟨by kernel_rfl⟩
instance : Und Tryz.prog 186 (.int .i32) := ⟨Tryz.underlying186⟩
instance : Inf Tryz.prog 186 (.int .i32 0) 1 4 := ⟨by kernel_rfl⟩
instance : One Tryz.prog 186 := One.of Tryz.underlying186 rfl
instance : NoIface Tryz.prog 186 := ⟨_, Tryz.underlying186, by intro ms h; cases h⟩
instance : Conc Tryz.prog 186 := ⟨by kernel_rfl⟩
instance : Und Tryz.prog 187 (.int .i32) := ⟨Tryz.underlying187⟩
instance : Inf Tryz.prog 187 (.int .i32 0) 1 4 := ⟨by kernel_rfl⟩
instance : One Tryz.prog 187 := One.of Tryz.underlying187 rfl
instance : NoIface Tryz.prog 187 := ⟨_, Tryz.underlying187, by intro ms h; cases h⟩
instance : Conc Tryz.prog 187 := ⟨by kernel_rfl⟩
instance : Inf Tryz.prog 188 (Value.agg #[.int .u64 0, .int .u64 0, .int .u32 0, .int .u8 0, .int .u8 0, .int .u8 0, .int .u8 0, .nilFunc, .pointer none, .int .i32 0, .int .i32 0]) 11 48 := ⟨by kernel_rfl⟩
instance : Many Tryz.prog 188 11 := Many.of Tryz.underlying188 rfl
instance : NoIface Tryz.prog 188 := ⟨_, Tryz.underlying188, by intro ms h; cases h⟩
instance : StructT Tryz.prog 188 #[(0, 1), (1, 1), (2, 1), (3, 1), (4, 1), (5, 1), (6, 1), (7, 1), (8, 1), (9, 1), (10, 1)] (Value.agg #[.int .u64 0, .int .u64 0, .int .u32 0, .int .u8 0, .int .u8 0, .int .u8 0, .int .u8 0, .nilFunc, .pointer none, .int .i32 0, .int .i32 0]).cells := StructT.of Tryz.underlying188 rfl (by intro w; simp [run_sizeOf])
instance : Conc Tryz.prog 188 := ⟨by kernel_rfl⟩
instance : Fld Tryz.prog 188 0 0 12 := ⟨⟨_, _, Tryz.underlying188, rfl, rfl, rfl⟩⟩
instance : Fld Tryz.prog 188 1 1 12 := ⟨⟨_, _, Tryz.underlying188, rfl, rfl, rfl⟩⟩
instance : Fld Tryz.prog 188 2 2 151 := ⟨⟨_, _, Tryz.underlying188, rfl, rfl, rfl⟩⟩
instance : Fld Tryz.prog 188 3 3 183 := ⟨⟨_, _, Tryz.underlying188, rfl, rfl, rfl⟩⟩
instance : Fld Tryz.prog 188 4 4 5 := ⟨⟨_, _, Tryz.underlying188, rfl, rfl, rfl⟩⟩
instance : Fld Tryz.prog 188 5 5 5 := ⟨⟨_, _, Tryz.underlying188, rfl, rfl, rfl⟩⟩
instance : Fld Tryz.prog 188 6 6 184 := ⟨⟨_, _, Tryz.underlying188, rfl, rfl, rfl⟩⟩
instance : Fld Tryz.prog 188 7 7 185 := ⟨⟨_, _, Tryz.underlying188, rfl, rfl, rfl⟩⟩
instance : Fld Tryz.prog 188 8 8 127 := ⟨⟨_, _, Tryz.underlying188, rfl, rfl, rfl⟩⟩
instance : Fld Tryz.prog 188 9 9 186 := ⟨⟨_, _, Tryz.underlying188, rfl, rfl, rfl⟩⟩
instance : Fld Tryz.prog 188 10 10 187 := ⟨⟨_, _, Tryz.underlying188, rfl, rfl, rfl⟩⟩
instance : Inf Tryz.prog 189 (Value.agg #[.int .u64 0, .int .u64 0, .int .u32 0, .int .u8 0, .int .u8 0, .int .u8 0, .int .u8 0, .nilFunc, .pointer none, .int .i32 0, .int .i32 0]) 11 48 := ⟨by kernel_rfl⟩
instance : Many Tryz.prog 189 11 := Many.of Tryz.underlying189 rfl
instance : NoIface Tryz.prog 189 := ⟨_, Tryz.underlying189, by intro ms h; cases h⟩
instance : StructT Tryz.prog 189 #[(0, 1), (1, 1), (2, 1), (3, 1), (4, 1), (5, 1), (6, 1), (7, 1), (8, 1), (9, 1), (10, 1)] (Value.agg #[.int .u64 0, .int .u64 0, .int .u32 0, .int .u8 0, .int .u8 0, .int .u8 0, .int .u8 0, .nilFunc, .pointer none, .int .i32 0, .int .i32 0]).cells := StructT.of Tryz.underlying189 rfl (by intro w; simp [run_sizeOf])
instance : Conc Tryz.prog 189 := ⟨by kernel_rfl⟩
instance : Fld Tryz.prog 189 0 0 12 := ⟨⟨_, _, Tryz.underlying189, rfl, rfl, rfl⟩⟩
instance : Fld Tryz.prog 189 1 1 12 := ⟨⟨_, _, Tryz.underlying189, rfl, rfl, rfl⟩⟩
instance : Fld Tryz.prog 189 2 2 151 := ⟨⟨_, _, Tryz.underlying189, rfl, rfl, rfl⟩⟩
instance : Fld Tryz.prog 189 3 3 183 := ⟨⟨_, _, Tryz.underlying189, rfl, rfl, rfl⟩⟩
instance : Fld Tryz.prog 189 4 4 5 := ⟨⟨_, _, Tryz.underlying189, rfl, rfl, rfl⟩⟩
instance : Fld Tryz.prog 189 5 5 5 := ⟨⟨_, _, Tryz.underlying189, rfl, rfl, rfl⟩⟩
instance : Fld Tryz.prog 189 6 6 184 := ⟨⟨_, _, Tryz.underlying189, rfl, rfl, rfl⟩⟩
instance : Fld Tryz.prog 189 7 7 185 := ⟨⟨_, _, Tryz.underlying189, rfl, rfl, rfl⟩⟩
instance : Fld Tryz.prog 189 8 8 127 := ⟨⟨_, _, Tryz.underlying189, rfl, rfl, rfl⟩⟩
instance : Fld Tryz.prog 189 9 9 186 := ⟨⟨_, _, Tryz.underlying189, rfl, rfl, rfl⟩⟩
instance : Fld Tryz.prog 189 10 10 187 := ⟨⟨_, _, Tryz.underlying189, rfl, rfl, rfl⟩⟩
instance : Ent Tryz.prog 3 := Ent.of Tryz.func3 (by kernel_rfl) (by kernel_rfl)
instance : Ent Tryz.prog 4 := Ent.of Tryz.func4 (by kernel_rfl) (by kernel_rfl)
instance : Ent Tryz.prog 5 := Ent.of Tryz.func5 (by kernel_rfl) (by kernel_rfl)
instance : Ent Tryz.prog 6 := Ent.of Tryz.func6 (by kernel_rfl) (by kernel_rfl)
instance : Ent Tryz.prog 7 := Ent.of Tryz.func7 (by kernel_rfl) (by kernel_rfl)
instance : Ent Tryz.prog 8 := Ent.of Tryz.func8 (by kernel_rfl) (by kernel_rfl)
instance : Ent Tryz.prog 9 := Ent.of Tryz.func9 (by kernel_rfl) (by kernel_rfl)
instance : Ent Tryz.prog 10 := Ent.of Tryz.func10 (by kernel_rfl) (by kernel_rfl)
instance : Ent Tryz.prog 11 := Ent.of Tryz.func11 (by kernel_rfl) (by kernel_rfl)
instance : Ent Tryz.prog 12 := Ent.of Tryz.func12 (by kernel_rfl) (by kernel_rfl)
instance : Ent Tryz.prog 13 := Ent.of Tryz.func13 (by kernel_rfl) (by kernel_rfl)
instance : Ent Tryz.prog 14 := Ent.of Tryz.func14 (by kernel_rfl) (by kernel_rfl)
instance : Ent Tryz.prog 15 := Ent.of Tryz.func15 (by kernel_rfl) (by kernel_rfl)
instance : Ent Tryz.prog 16 := Ent.of Tryz.func16 (by kernel_rfl) (by kernel_rfl)
instance : Ent Tryz.prog 17 := Ent.of Tryz.func17 (by kernel_rfl) (by kernel_rfl)
instance : Ent Tryz.prog 18 := Ent.of Tryz.func18 (by kernel_rfl) (by kernel_rfl)
instance : Ent Tryz.prog 19 := Ent.of Tryz.func19 (by kernel_rfl) (by kernel_rfl)
instance : Ent Tryz.prog 20 := Ent.of Tryz.func20 (by kernel_rfl) (by kernel_rfl)
instance : Ent Tryz.prog 21 := Ent.of Tryz.func21 (by kernel_rfl) (by kernel_rfl)
instance : Ent Tryz.prog 22 := Ent.of Tryz.func22 (by kernel_rfl) (by kernel_rfl)
instance : Ent Tryz.prog 23 := Ent.of Tryz.func23 (by kernel_rfl) (by kernel_rfl)
instance : Ent Tryz.prog 24 := Ent.of Tryz.func24 (by kernel_rfl) (by kernel_rfl)
instance : Ent Tryz.prog 25 := Ent.of Tryz.func25 (by kernel_rfl) (by kernel_rfl)
instance : Ent Tryz.prog 26 := Ent.of Tryz.func26 (by kernel_rfl) (by kernel_rfl)
instance : Ent Tryz.prog 27 := Ent.of Tryz.func27 (by kernel_rfl) (by kernel_rfl)
instance : Ent Tryz.prog 28 := Ent.of Tryz.func28 (by kernel_rfl) (by kernel_rfl)
instance : Ent Tryz.prog 29 := Ent.of Tryz.func29 (by kernel_rfl) (by kernel_rfl)
instance : Ent Tryz.prog 30 := Ent.of Tryz.func30 (by kernel_rfl) (by kernel_rfl)
instance : Ent Tryz.prog 31 := Ent.of Tryz.func31 (by kernel_rfl) (by kernel_rfl)
instance : Ent Tryz.prog 32 := Ent.of Tryz.func32 (by kernel_rfl) (by kernel_rfl)
instance : Ent Tryz.prog 33 := Ent.of Tryz.func33 (by kernel_rfl) (by kernel_rfl)
instance : Ent Tryz.prog 34 := Ent.of Tryz.func34 (by kernel_rfl) (by kernel_rfl)
instance : Ent Tryz.prog 35 := Ent.of Tryz.func35 (by kernel_rfl) (by kernel_rfl)
instance : Ent Tryz.prog 36 := Ent.of Tryz.func36 (by kernel_rfl) (by kernel_rfl)
instance : Ent Tryz.prog 37 := Ent.of Tryz.func37 (by kernel_rfl) (by kernel_rfl)
instance : Ent Tryz.prog 38 := Ent.of Tryz.func38 (by kernel_rfl) (by kernel_rfl)
instance : Ent Tryz.prog 39 := Ent.of Tryz.func39 (by kernel_rfl) (by kernel_rfl)
instance : Ent Tryz.prog 40 := Ent.of Tryz.func40 (by kernel_rfl) (by kernel_rfl)
instance : Ent Tryz.prog 41 := Ent.of Tryz.func41 (by kernel_rfl) (by kernel_rfl)
instance : Ent Tryz.prog 42 := Ent.of Tryz.func42 (by kernel_rfl) (by kernel_rfl)
instance : Ent Tryz.prog 43 := Ent.of Tryz.func43 (by kernel_rfl) (by kernel_rfl)
instance : Ent Tryz.prog 44 := Ent.of Tryz.func44 (by kernel_rfl) (by kernel_rfl)
instance : Ent Tryz.prog 45 := Ent.of Tryz.func45 (by kernel_rfl) (by kernel_rfl)
instance : Ent Tryz.prog 46 := Ent.of Tryz.func46 (by kernel_rfl) (by kernel_rfl)
instance : Ent Tryz.prog 47 := Ent.of Tryz.func47 (by kernel_rfl) (by kernel_rfl)
instance : Ent Tryz.prog 48 := Ent.of Tryz.func48 (by kernel_rfl) (by kernel_rfl)
instance : Ent Tryz.prog 49 := Ent.of Tryz.func49 (by kernel_rfl) (by kernel_rfl)
instance : Ent Tryz.prog 50 := Ent.of Tryz.func50 (by kernel_rfl) (by kernel_rfl)
instance : Ent Tryz.prog 51 := Ent.of Tryz.func51 (by kernel_rfl) (by kernel_rfl)
instance : Ent Tryz.prog 52 := Ent.of Tryz.func52 (by kernel_rfl) (by kernel_rfl)
instance : Ent Tryz.prog 53 := Ent.of Tryz.func53 (by kernel_rfl) (by kernel_rfl)
instance : Ent Tryz.prog 54 := Ent.of Tryz.func54 (by kernel_rfl) (by kernel_rfl)
instance : Ent Tryz.prog 55 := Ent.of Tryz.func55 (by kernel_rfl) (by kernel_rfl)
instance : Ent Tryz.prog 56 := Ent.of Tryz.func56 (by kernel_rfl) (by kernel_rfl)
instance : Ent Tryz.prog 57 := Ent.of Tryz.func57 (by kernel_rfl) (by kernel_rfl)
instance : Ent Tryz.prog 58 := Ent.of Tryz.func58 (by kernel_rfl) (by kernel_rfl)
instance : Ent Tryz.prog 59 := Ent.of Tryz.func59 (by kernel_rfl) (by kernel_rfl)
instance : Ent Tryz.prog 60 := Ent.of Tryz.func60 (by kernel_rfl) (by kernel_rfl)
instance : Ent Tryz.prog 61 := Ent.of Tryz.func61 (by kernel_rfl) (by kernel_rfl)
instance : Ent Tryz.prog 62 := Ent.of Tryz.func62 (by kernel_rfl) (by kernel_rfl)
instance : Ent Tryz.prog 63 := Ent.of Tryz.func63 (by kernel_rfl) (by kernel_rfl)
instance : Ent Tryz.prog 64 := Ent.of Tryz.func64 (by kernel_rfl) (by kernel_rfl)
instance : Ent Tryz.prog 65 := Ent.of Tryz.func65 (by kernel_rfl) (by kernel_rfl)
instance : Ent Tryz.prog 66 := Ent.of Tryz.func66 (by kernel_rfl) (by kernel_rfl)
instance : Ent Tryz.prog 67 := Ent.of Tryz.func67 (by kernel_rfl) (by kernel_rfl)
instance : Ent Tryz.prog 68 := Ent.of Tryz.func68 (by kernel_rfl) (by kernel_rfl)
instance : Ent Tryz.prog 69 := Ent.of Tryz.func69 (by kernel_rfl) (by kernel_rfl)
instance : Ent Tryz.prog 70 := Ent.of Tryz.func70 (by kernel_rfl) (by kernel_rfl)
instance : Ent Tryz.prog 71 := Ent.of Tryz.func71 (by kernel_rfl) (by kernel_rfl)
instance : Ent Tryz.prog 72 := Ent.of Tryz.func72 (by kernel_rfl) (by kernel_rfl)
instance : Ent Tryz.prog 73 := Ent.of Tryz.func73 (by kernel_rfl) (by kernel_rfl)
instance : Ent Tryz.prog 74 := Ent.of Tryz.func74 (by kernel_rfl) (by kernel_rfl)
instance : Ent Tryz.prog 75 := Ent.of Tryz.func75 (by kernel_rfl) (by kernel_rfl)
instance : Ent Tryz.prog 76 := Ent.of Tryz.func76 (by kernel_rfl) (by kernel_rfl)
instance : Ent Tryz.prog 77 := Ent.of Tryz.func77 (by kernel_rfl) (by kernel_rfl)
instance : Ent Tryz.prog 78 := Ent.of Tryz.func78 (by kernel_rfl) (by kernel_rfl)
instance : Ent Tryz.prog 79 := Ent.of Tryz.func79 (by kernel_rfl) (by kernel_rfl)
instance : Ent Tryz.prog 80 := Ent.of Tryz.func80 (by kernel_rfl) (by kernel_rfl)
instance : Ent Tryz.prog 81 := Ent.of Tryz.func81 (by kernel_rfl) (by kernel_rfl)
instance : Ent Tryz.prog 82 := Ent.of Tryz.func82 (by kernel_rfl) (by kernel_rfl)
instance : Ent Tryz.prog 83 := Ent.of Tryz.func83 (by kernel_rfl) (by kernel_rfl)
instance : Ent Tryz.prog 84 := Ent.of Tryz.func84 (by kernel_rfl) (by kernel_rfl)
instance : Ent Tryz.prog 85 := Ent.of Tryz.func85 (by kernel_rfl) (by kernel_rfl)
instance : Ent Tryz.prog 86 := Ent.of Tryz.func86 (by kernel_rfl) (by kernel_rfl)
instance : Ent Tryz.prog 87 := Ent.of Tryz.func87 (by kernel_rfl) (by kernel_rfl)
instance : Ent Tryz.prog 88 := Ent.of Tryz.func88 (by kernel_rfl) (by kernel_rfl)
instance : Ent Tryz.prog 89 := Ent.of Tryz.func89 (by kernel_rfl) (by kernel_rfl)
instance : Ent Tryz.prog 90 := Ent.of Tryz.func90 (by kernel_rfl) (by kernel_rfl)
instance : Ent Tryz.prog 91 := Ent.of Tryz.func91 (by kernel_rfl) (by kernel_rfl)
instance : Ent Tryz.prog 92 := Ent.of Tryz.func92 (by kernel_rfl) (by kernel_rfl)
instance : Ent Tryz.prog 93 := Ent.of Tryz.func93 (by kernel_rfl) (by kernel_rfl)
instance : Ent Tryz.prog 94 := Ent.of Tryz.func94 (by kernel_rfl) (by kernel_rfl)
instance : Ent Tryz.prog 95 := Ent.of Tryz.func95 (by kernel_rfl) (by kernel_rfl)
instance : Ent Tryz.prog 96 := Ent.of Tryz.func96 (by kernel_rfl) (by kernel_rfl)
instance : Ent Tryz.prog 97 := Ent.of Tryz.func97 (by kernel_rfl) (by kernel_rfl)
instance : Ent Tryz.prog 98 := Ent.of Tryz.func98 (by kernel_rfl) (by kernel_rfl)
instance : Ent Tryz.prog 99 := Ent.of Tryz.func99 (by kernel_rfl) (by kernel_rfl)
instance : Ent Tryz.prog 100 := Ent.of Tryz.func100 (by kernel_rfl) (by kernel_rfl)
instance : Ent Tryz.prog 101 := Ent.of Tryz.func101 (by kernel_rfl) (by kernel_rfl)
instance : Ent Tryz.prog 102 := Ent.of Tryz.func102 (by kernel_rfl) (by kernel_rfl)
instance : Ent Tryz.prog 103 := Ent.of Tryz.func103 (by kernel_rfl) (by kernel_rfl)
instance : Ent Tryz.prog 104 := Ent.of Tryz.func104 (by kernel_rfl) (by kernel_rfl)
instance : Ent Tryz.prog 105 := Ent.of Tryz.func105 (by kernel_rfl) (by kernel_rfl)
instance : Ent Tryz.prog 106 := Ent.of Tryz.func106 (by kernel_rfl) (by kernel_rfl)
instance : Ent Tryz.prog 107 := Ent.of Tryz.func107 (by kernel_rfl) (by kernel_rfl)
instance : Ent Tryz.prog 108 := Ent.of Tryz.func108 (by kernel_rfl) (by kernel_rfl)
instance : Ent Tryz.prog 111 := Ent.of Tryz.func111 (by kernel_rfl) (by kernel_rfl)
instance : Ent Tryz.prog 112 := Ent.of Tryz.func112 (by kernel_rfl) (by kernel_rfl)
instance : Ent Tryz.prog 113 := Ent.of Tryz.func113 (by kernel_rfl) (by kernel_rfl)
instance : Ent Tryz.prog 114 := Ent.of Tryz.func114 (by kernel_rfl) (by kernel_rfl)
instance : Ent Tryz.prog 116 := Ent.of Tryz.func116 (by kernel_rfl) (by kernel_rfl)
instance : Ent Tryz.prog 117 := Ent.of Tryz.func117 (by kernel_rfl) (by kernel_rfl)
instance : Ent Tryz.prog 118 := Ent.of Tryz.func118 (by kernel_rfl) (by kernel_rfl)
instance : Ent Tryz.prog 119 := Ent.of Tryz.func119 (by kernel_rfl) (by kernel_rfl)
instance : Ent Tryz.prog 120 := Ent.of Tryz.func120 (by kernel_rfl) (by kernel_rfl)
instance : Ent Tryz.prog 121 := Ent.of Tryz.func121 (by kernel_rfl) (by kernel_rfl)
instance : Ent Tryz.prog 122 := Ent.of Tryz.func122 (by kernel_rfl) (by kernel_rfl)
instance : Ent Tryz.prog 123 := Ent.of Tryz.func123 (by kernel_rfl) (by kernel_rfl)
instance : Ent Tryz.prog 124 := Ent.of Tryz.func124 (by kernel_rfl) (by kernel_rfl)
instance : Ent Tryz.prog 125 := Ent.of Tryz.func125 (by kernel_rfl) (by kernel_rfl)
instance : Ent Tryz.prog 127 := Ent.of Tryz.func127 (by kernel_rfl) (by kernel_rfl)
instance : Ent Tryz.prog 128 := Ent.of Tryz.func128 (by kernel_rfl) (by kernel_rfl)
instance : Ent Tryz.prog 130 := Ent.of Tryz.func130 (by kernel_rfl) (by kernel_rfl)
instance : Ent Tryz.prog 131 := Ent.of Tryz.func131 (by kernel_rfl) (by kernel_rfl)
instance : Ent Tryz.prog 132 := Ent.of Tryz.func132 (by kernel_rfl) (by kernel_rfl)
instance : Ent Tryz.prog 133 := Ent.of Tryz.func133 (by kernel_rfl) (by kernel_rfl)
instance : Ent Tryz.prog 134 := Ent.of Tryz.func134 (by kernel_rfl) (by kernel_rfl)
instance : Ent Tryz.prog 135 := Ent.of Tryz.func135 (by kernel_rfl) (by kernel_rfl)
instance : Ent Tryz.prog 136 := Ent.of Tryz.func136 (by kernel_rfl) (by kernel_rfl)
instance : Ent Tryz.prog 137 := Ent.of Tryz.func137 (by kernel_rfl) (by kernel_rfl)
instance : Ent Tryz.prog 138 := Ent.of Tryz.func138 (by kernel_rfl) (by kernel_rfl)
instance : Ent Tryz.prog 139 := Ent.of Tryz.func139 (by kernel_rfl) (by kernel_rfl)
instance : Ent Tryz.prog 140 := Ent.of Tryz.func140 (by kernel_rfl) (by kernel_rfl)
instance : Ent Tryz.prog 141 := Ent.of Tryz.func141 (by kernel_rfl) (by kernel_rfl)
instance : Ent Tryz.prog 142 := Ent.of Tryz.func142 (by kernel_rfl) (by kernel_rfl)
instance : Ent Tryz.prog 143 := Ent.of Tryz.func143 (by kernel_rfl) (by kernel_rfl)
instance : Ent Tryz.prog 144 := Ent.of Tryz.func144 (by kernel_rfl) (by kernel_rfl)
instance : Ent Tryz.prog 145 := Ent.of Tryz.func145 (by kernel_rfl) (by kernel_rfl)
instance : Ent Tryz.prog 146 := Ent.of Tryz.func146 (by kernel_rfl) (by kernel_rfl)
instance : Ent Tryz.prog 177 := Ent.of Tryz.func177 (by kernel_rfl) (by kernel_rfl)
end Go.Proofs.YtjfdhafmbcppjaaGreatDoor.H

namespace Go.Proofs.YtjfdhafmbcppjaaGreatDoor.H
open Go.RowKit
variable {M : Option (Option Nat)} {P : Program} {ops : Array Oper} {Q : Post} {rest : List Oper} {f : Fr} {w : World}

theorem yieldsU {f : Fr} {a : Act} (ha : Ag f a) {ops : Array Oper} {j t : Nat} (hj : (ops[j]?).bind (·.dst) = some t) (hn : Nat.blt t f.n = true) (hv : look f.e t = some undef) : yielded ops a.tmps j = none := by
  have h := ha.slot t _ hv
  have hlt : t < a.tmps.size := by rw [ha.size]; exact blt_lt hn
  have h2 : a.tmps[t]? = some undef := by
    rw [Array.getD_eq_getD_getElem?] at h
    rw [Array.getElem?_eq_getElem hlt] at h ⊢
    simpa using h
  simp [yielded, hj, h2, undef]

theorem RW.offu {d : Nat} {op : Op} {ty : TypeId} {pos : String} {af : Array Edge} {j t : Nat} {b : Bool} (hj : (ops[j]?).bind (·.dst) = some t) (hn : Nat.blt t f.n = true)
    (hv : look f.e t = some undef) (hd : Nat.blt d f.n = true) (k : RW M P ops Q rest (f.put d undef) w) :
    RW M P ops Q ({ dst := some d, op := op, type := ty, pos := pos, after := af, guard := some (j, b) } :: rest) f w := by
  intro a ha
  have hw : Region.wanted ({ dst := some d, op := op, type := ty, pos := pos, after := af, guard := some (j, b) } : Oper) (yielded ops a.tmps) = false := by
    cases b <;> simp [Region.wanted, yieldsU ha hj hn hv]
  cases M with
  | none =>
    unfold lwp wpList
    rw [hw]
    simp only [Bool.false_eq_true, if_false]
    exact k _ (ha.put undef hd)
  | some r =>
    change wpListIn (Rd1 r) 0 P ops (lift Q) _ a w
    unfold wpListIn
    rw [hw]
    simp only [Bool.false_eq_true, if_false]
    exact ⟨fun _ _ => trivial, k _ (ha.put undef hd)⟩
end Go.Proofs.YtjfdhafmbcppjaaGreatDoor.H

namespace Go.Proofs.YtjfdhafmbcppjaaGreatDoor.H
open Go.RowKit
section
variable {M : Option (Option Nat)} {P : Program} {ops : Array Oper} {Q : Post} {rest : List Oper} {f : Fr} {w : World} {d : Nat} {ty : TypeId} {pos : String} {af : Array Edge}

theorem cells_at {α : Type} {enc : α → List Value} {sz : Nat} (he : ∀ x, (enc x).length = sz) : ∀ (l : List α) (i j : Nat) (x : α), l[i]? = some x → j < sz → (l.flatMap enc)[i * sz + j]? = (enc x)[j]? := by
  intro l
  induction l with
  | nil => intro i j x h; simp at h
  | cons a l ih =>
    intro i j x h hj
    rw [List.flatMap_cons]
    cases i with
    | zero =>
      simp only [List.getElem?_cons_zero, Option.some.injEq] at h
      subst h
      rw [Nat.zero_mul, Nat.zero_add, List.getElem?_append_left (by rw [he]; exact hj)]
    | succ i =>
      rw [List.getElem?_append_right (by rw [he, Nat.succ_mul]; omega), he]
      have : (i + 1) * sz + j - sz = i * sz + j := by rw [Nat.succ_mul]; omega
      rw [this]
      exact ih i j x (by simpa using h) hj
theorem cells_len {α : Type} {enc : α → List Value} {sz : Nat} (he : ∀ x, (enc x).length = sz) : ∀ (l : List α), (l.flatMap enc).length = l.length * sz := by
  intro l
  induction l with
  | nil => simp
  | cons a l ih => rw [List.flatMap_cons, List.length_append, he, ih, List.length_cons, Nat.succ_mul]; omega

theorem spot_ptr {w : World} {sz : Nat} {v : Value} {n : Nat} {xs : List Value} (hs : Sl w sz v n xs) (hn : 0 < n) (k : Nat) : ∃ g o, Value.spot v k = ⟨g, o, none⟩ ∧ ∀ j, Value.spot v (k + j) = ⟨g, o + j, none⟩ := by
  rcases hs.2.2 with ⟨_, rfl, h⟩ | ⟨g, off, cap, cur, e', fz, rfl, _⟩
  · omega
  · refine ⟨g, off + k, ?_, fun j => ?_⟩
    · simp [Value.spot, addr_add]
    · simp only [Value.spot, addr_add]; congr 1; omega

/-- A field of an element. -/
theorem RW.elemF {α : Type} [Inhabited α] {t e t2 ty2 ty3 s : TypeId} {fi off ft : Nat} {pos2 pos3 : String} {af2 af3 : Array Edge} {d1 d2 : Nat} {z zf : Value} {b sz szf bf : Nat} [ht : Und P t (.slice e)] [Inf P e z sz b] [hf : Fld P s fi off ft] [hfi : Inf P ft zf szf bf] [One P t2]
    {x y : Operand} {k : IntKind} {v u : Value} {i : Int} {n : Nat} {l : List α} {enc : α → List Value} (hx : f.ev x = some v) (hy : f.ev y = some (.int k i)) (hd : Nat.blt d f.n = true) (hd1 : Nat.blt d1 f.n = true) (hd2 : Nat.blt d2 f.n = true) (hzf : Nat.beq szf 0 = false)
    (hs : Sl w sz v n (l.flatMap enc)) (he : ∀ x, (enc x).length = sz) (hsz : Nat.blt off sz = true) (h0 : 0 ≤ i) (h1 : i < l.length) (hu : (enc (l.getD i.toNat default))[off]? = some u)
    (kk : ∀ p q, RW M P ops Q rest (((f.put d p).put d1 q).put d2 u) w) : RW M P ops Q (op1 d (.indexAddr t x y) ty pos af :: op1 d1 (.fieldAddr s (.tmp d) fi) ty2 pos2 af2 :: op1 d2 (.load t2 (.tmp d1)) ty3 pos3 af3 :: rest) f w := by
  have hlt : i.toNat < l.length := by omega
  have hsz' := blt_lt hsz
  have hn : n = l.length := by
    have := hs.1
    rw [cells_len he] at this
    exact Nat.eq_of_mul_eq_mul_right (by omega) this.symm
  subst hn
  obtain ⟨g, o, h2, h3⟩ := spot_ptr hs (by omega) (i.toNat * sz)
  refine RW.y (Y.idx hx hy hs h0 h1) hd ?_
  rw [h2]
  refine RW.y (Y.fieldAddr (by simp [Fr.ev, Fr.put, look]; exact ⟨rfl, rfl⟩) hzf) hd1 ?_
  refine RW.y (Y.load1 (a := ⟨g, o + off, none⟩) (by simp [Fr.ev, Fr.put, look]) ?_) hd2 (kk _ _)
  rw [← h3 off]
  refine hs.cell ?_
  rw [cells_at he l i.toNat off (l.getD i.toNat default) (by simp [List.getD_eq_getElem?_getD, hlt]) hsz', hu]

/-- An element read whole. -/
theorem RW.elemA {α : Type} [Inhabited α] {t e t2 ty2 : TypeId} {pos2 : String} {af2 : Array Edge} {d1 : Nat} {z : Value} {b sz : Nat} [ht : Und P t (.slice e)] [Inf P e z sz b] [Many P t2 sz]
    {x y : Operand} {k : IntKind} {v : Value} {i : Int} {n : Nat} {l : List α} {enc : α → List Value} (hx : f.ev x = some v) (hy : f.ev y = some (.int k i)) (hd : Nat.blt d f.n = true) (hd1 : Nat.blt d1 f.n = true)
    (hs : Sl w sz v n (l.flatMap enc)) (he : ∀ x, (enc x).length = sz) (hsz : Nat.blt 0 sz = true) (h0 : 0 ≤ i) (h1 : i < l.length)
    (kk : ∀ p, RW M P ops Q rest ((f.put d p).put d1 (.agg (enc (l.getD i.toNat default)).toArray)) w) : RW M P ops Q (op1 d (.indexAddr t x y) ty pos af :: op1 d1 (.load t2 (.tmp d)) ty2 pos2 af2 :: rest) f w := by
  have hlt : i.toNat < l.length := by omega
  have hsz' := blt_lt hsz
  have hn : n = l.length := by
    have := hs.1
    rw [cells_len he] at this
    exact Nat.eq_of_mul_eq_mul_right (by omega) this.symm
  subst hn
  obtain ⟨g, o, h2, h3⟩ := spot_ptr hs (by omega) (i.toNat * sz)
  refine RW.y (Y.idx hx hy hs h0 h1) hd ?_
  rw [h2]
  refine RW.loadN (a := ⟨g, o, none⟩) (by simp [Fr.ev, Fr.put, look]) (he _) (fun j u hj => ?_) hd1 (kk _)
  have : (Addr.mk g o none).add j = Value.spot v (i.toNat * sz + j) := by rw [h3]; simp [addr_add]
  rw [this]
  refine hs.cell ?_
  have hjs : j < sz := by
    have := (List.getElem?_eq_some_iff.1 hj).1
    rw [he] at this
    exact this
  rw [cells_at he l i.toNat j (l.getD i.toNat default) (by simp [List.getD_eq_getElem?_getD, hlt]) hjs, hj]
end
end Go.Proofs.YtjfdhafmbcppjaaGreatDoor.H

namespace Go.Proofs.YtjfdhafmbcppjaaGreatDoor.H
open Go.RowKit
section
variable {M : Option (Option Nat)} {P : Program} {ops : Array Oper} {Q : Post} {rest : List Oper} {f : Fr} {w : World} {d : Nat} {ty : TypeId} {pos : String} {af : Array Edge}

theorem run_appc {t u e : TypeId} {z : Value} {sz b : Nat} [ht : Und P t (.slice e)] [hi : Inf P e z sz b] (hz : z.cells.size = sz) (hsz : 0 < sz) {p : Option Addr} {n : Nat} {xs : List Value} (hs : Sl w sz (.slice p n n) n xs)
    {vx : Value} {m : Nat} {news : List Value} (hm : 0 < m) (hsrc : Sl w sz vx m news) (h1 : ∀ u ∈ news, u.oneCell' = true) (h63 : n + m ≤ maxLen) (hbytes : (n + m) * b ≤ 140737488355328) :
    ∃ v' w', (Builtin.append_ #[t, t] u #[.slice p n n, vx]).run P w = .ok v' w' ∧ w'.ownsRow w.heap.size e sz v' (n + m) (xs ++ news) ∧ K0 w w' := by
  cases p with
  | none =>
    have hn : n = 0 := by
      rcases hs.2.2 with ⟨p, h, _⟩ | ⟨g, off, cap, cur, e', fz, h, _⟩
      · cases h; rfl
      · cases h
    subst hn
    have hx : xs = [] := List.eq_nil_of_length_eq_zero (by simpa using hs.1)
    subst hx
    obtain ⟨v', w', h, h2, h3, _⟩ := run_app (P := P) (t := t) (u := u) w.heap.size hz hsz (World.ownsRow_nil w w.heap.size e sz) hsrc h1 h63 hbytes (Nat.le_refl _)
    exact ⟨v', w', h, h2, (Kept.of_grown h3).mono fun k hk => by cases hk⟩
  | some a0 =>
    have hi' := hi.out
    have h63' : n + m ≤ 9223372036854775807 := by simpa [maxLen] using h63
    cases hinf : P.info? e with
    | none => simp [hinf] at hi'
    | some i =>
      simp only [hinf, Option.map_some, Option.some.injEq, Prod.mk.injEq] at hi'
      obtain ⟨hz', hs', hb'⟩ := hi'
      have ho : ∀ j y, xs[j]? = some y → w.cell? (a0.add j) = some y := fun j y hy => by have := hs.cell hy; simpa [Value.spot] using this
      have key : ∃ a cap, vx = .slice (some a) m cap ∧ ∀ j y, news[j]? = some y → w.cell? (a.add j) = some y := by
        rcases hsrc.2.2 with ⟨p, rfl, rfl⟩ | ⟨g, off, cap, cur, e', fz, rfl, hg, hn, hm, ho, htk⟩
        · omega
        · exact ⟨_, cap, rfl, fun j y hy => by have := hsrc.cell hy; simpa [Value.spot] using this⟩
      obtain ⟨a, cap, rfl, hcells⟩ := key
      have hr := run_append_grow (P := P) w t u e i z ht.out hinf hz' a0 n n xs (by rw [hs']; exact hs.1) ho a m cap news (by rw [hs']; exact hsrc.1) hcells (by omega) (by omega) (growslice_fits (by omega) (by rw [hb']; exact hbytes))
      have hge := grownCap_ge w (n + m) n e
      have hcm : grownCap w (n + m) n e ≤ maxLen := grownCap_le_maxLen w (n + m) n e h63
      have hlen : (xs ++ news).length = (n + m) * sz := by rw [List.length_append, hs.1, hsrc.1, Nat.add_mul]
      refine ⟨_, _, hr, ⟨hlen, .inr ⟨w.heap.size, _, _, rfl, Nat.le_refl _, heap_alloc_new w.drew _, hge, hcm, ?_, ?_⟩⟩, ⟨rfl, rfl, rfl, by simp, fun k hk _ => heap_alloc_old w.drew _ hk⟩⟩
      · simp only [Array.size_append, List.size_toArray, size_zeroCells, hz, hs.1, hsrc.1, ← Nat.add_mul]
        congr 1
        omega
      · simp only [Array.toList_append, List.append_assoc]
        rw [← List.append_assoc, ← hlen]
        exact List.take_left

/-- What append may go on from: a row of the call's own, or a slice that is full. row: the block that may be written. -/
def Ap (w : World) (base : Nat) (e : TypeId) (sz : Nat) (v : Value) (n : Nat) (xs : List Value) (row : Option Nat) : Prop :=
  (w.ownsRow base e sz v n xs ∧ row = v.ownBlock) ∨ (Sl w sz v n xs ∧ (∃ p, v = .slice p n n) ∧ row = none)
def LiesR (w : World) (row : Option Nat) (v' : Value) : Prop := ∀ g, v'.ownBlock = some g → row = some g ∨ w.heap.size ≤ g
theorem Ap.own {base : Nat} {e : TypeId} {sz : Nat} {v : Value} {n : Nat} {xs : List Value} (h : w.ownsRow base e sz v n xs) : Ap w base e sz v n xs v.ownBlock := .inl ⟨h, rfl⟩
theorem Ap.sl {base : Nat} {e : TypeId} {sz : Nat} {v : Value} {n : Nat} {xs : List Value} {row : Option Nat} (h : Ap w base e sz v n xs row) : Sl w sz v n xs := by
  rcases h with ⟨h, _⟩ | ⟨h, _⟩
  · exact Sl.of_own h
  · exact h
theorem Ap.keep0 {w' : World} {base : Nat} {e : TypeId} {sz : Nat} {v : Value} {n : Nat} {xs : List Value} {row : Option Nat} (h : Ap w base e sz v n xs row) (k : K0 w w') : Ap w' base e sz v n xs row := by
  rcases h with ⟨h, r⟩ | ⟨h, r⟩
  · exact .inl ⟨own_kept0 h k, r⟩
  · exact .inr ⟨h.keep0 k, r⟩
theorem LiesR.own {v v' : Value} (h : Lies w v v') : LiesR w v.ownBlock v' := h

theorem run_apA {t u e : TypeId} {z : Value} {sz b : Nat} [ht : Und P t (.slice e)] [hi : Inf P e z sz b] (base : Nat) (hz : z.cells.size = sz) (hsz : 0 < sz) {v : Value} {n : Nat} {xs : List Value} {row : Option Nat} (hown : Ap w base e sz v n xs row)
    {vx : Value} {m : Nat} {news : List Value} (hm : 0 < m) (hsrc : Sl w sz vx m news) (h1 : ∀ u ∈ news, u.oneCell' = true) (h63 : n + m ≤ maxLen) (hbytes : (n + m) * b ≤ 140737488355328) (hbase : base ≤ w.heap.size) :
    ∃ v' w', (Builtin.append_ #[t, t] u #[v, vx]).run P w = .ok v' w' ∧ w'.ownsRow base e sz v' (n + m) (xs ++ news) ∧ Kept (fun k => row = some k) w w' ∧ LiesR w row v' := by
  rcases hown with ⟨h, rfl⟩ | ⟨h, ⟨p, rfl⟩, rfl⟩
  · obtain ⟨v', w', h1, h2, h3, h4⟩ := run_app (P := P) (t := t) (u := u) base hz hsz h hsrc h1 h63 hbytes hbase
    exact ⟨v', w', h1, h2, Kept.of_grown h3, h4⟩
  · obtain ⟨v', w', h1, h2, h3⟩ := run_appc (P := P) (t := t) (u := u) hz hsz h hm hsrc h1 h63 hbytes
    exact ⟨v', w', h1, own_base h2 fun g hg => Nat.le_trans hbase (h2.lt g hg).1, Kept.of0 h3, fun g hg => .inr (h2.lt g hg).1⟩

/-- append of one element, written out: the literal and the append together. -/
theorem RW.appA1 {t e ty1 : TypeId} {d1 : Nat} {pos1 : String} {af1 : Array Edge} {z : Value} {sz b : Nat} [ht : Und P t (.slice e)] [hi : Inf P e z sz b] {s x : Operand} {v u : Value} (hx : f.ev x = some u) (hs : (f.put d1 (.slice (some ⟨w.heap.size, 0, none⟩) 1 1)).ev s = some v) (hd1 : Nat.blt d1 f.n = true) (hd : Nat.blt d f.n = true)
    {base : Nat} {n : Nat} {xs : List Value} {row : Option Nat} (hown : Ap w base e sz v n xs row) (hz : z.cells.size = sz) (hu : u.cells.size = sz) (hsz : Nat.blt 0 sz = true) (hsz2 : Nat.ble sz 65536 = true) (h1 : ∀ y ∈ u.cells.toList, y.oneCell' = true) (hbase : base ≤ w.heap.size) (hbytes : (n + 1) * b ≤ 140737488355328) (h63 : n + 1 ≤ 9223372036854775807)
    (k : ∀ v' w', w'.ownsRow base e sz v' (n + 1) (xs ++ u.cells.toList) → Kept (fun k => row = some k) w w' → LiesR w row v' → RW M P ops Q rest ((f.put d1 (.slice (some ⟨w.heap.size, 0, none⟩) 1 1)).put d v') w') :
    RW M P ops Q (op1 d1 (.buildSlice t 1 #[(0, x)]) ty1 pos1 af1 :: op1 d (.call { callee := .builtin .append, args := #[s, .tmp d1], argTypes := #[t, t] }) ty pos af :: rest) f w := by
  refine RW.build1 hx hu (by have := ble_le hsz2; simp [Nat.ble_eq]; omega) hd1 fun w1 hb hk hlt => ?_
  have hsl := Sl.of_own (own_new (sz := sz) (base := 0) hb (Nat.zero_le _) (n := 1) (by simpa using hu) (by simp [maxLen]))
  have hevx : (f.put d1 (.slice (some ⟨w.heap.size, 0, none⟩) 1 1)).ev (.tmp d1) = some (.slice (some ⟨w.heap.size, 0, none⟩) 1 1) := by simp [Fr.ev, Fr.put, look]
  obtain ⟨v', w', hr, h2, h3, h4⟩ := run_apA (P := P) (t := t) (u := ty) base hz (blt_lt hsz) (hown.keep0 hk) (by omega) hsl h1 (by simpa [maxLen] using h63) hbytes (by omega)
  refine RW.val rfl rfl hd (fun a ha => ?_) (k v' w' h2 ((Kept.of0 hk).trans h3 fun _ c => .inl c) fun g hg => (h4 g hg).imp id fun h => by have := hk.size; omega)
  simp [execOp, resolve, invoke, builtin, ha.eval hs, ha.eval hevx, hr]

/-- x[:i:i], i the length -/
theorem Y.full {t e : TypeId} {z : Value} {sz b : Nat} [ht : Und P t (.slice e)] [Inf P e z sz b] {x y y2 : Operand} {k k2 : IntKind} {p : Option Addr} {n cap : Nat} (hx : f.ev x = some (.slice p n cap)) (hy : f.ev y = some (.int k (n : Int))) (hy2 : f.ev y2 = some (.int k2 (n : Int))) (hc : n ≤ cap) :
    Yd P f (op1 d (.slice t x none (some y) (some y2)) ty pos af) (.slice p n n) w := by
  intro a ha
  have hsz := run_sizeOf (P := P) (t := e) w
  have e1 : ∀ k, (Instr.sliceBound (.int k (n : Int)) cap .slice3Acap).run P w = .ok n w := fun k => by have := run_sliceBound (P := P) (w := w) k n cap .slice3Acap (by omega) (by omega); simpa using this
  have e2 : ∀ k, (Instr.sliceBound (.int k (n : Int)) n .slice3B).run P w = .ok n w := fun k => by have := run_sliceBound (P := P) (w := w) k n n .slice3B (by omega) (by omega); simpa using this
  cases p <;> simp [execOp, ha.eval hx, ha.eval hy, ha.eval hy2, Instr.sliceAt, Instr.slice, run_underlying ht.out, Instr.sliceBounds, hsz, e1, e2, Addr.add]
theorem Sl.full {p : Option Addr} {n cap sz : Nat} {xs : List Value} (h : Sl w sz (.slice p n cap) n xs) : Sl w sz (.slice p n n) n xs := by
  refine ⟨h.1, h.2.1, ?_⟩
  rcases h.2.2 with ⟨q, hv, rfl⟩ | ⟨g, off, cap, cur, e, fz, hv, hg, hn, hm, ho, ht⟩
  · cases hv; exact .inl ⟨_, rfl, rfl⟩
  · cases hv
    have : n * sz ≤ cap * sz := Nat.mul_le_mul_right _ hn
    exact .inr ⟨g, off, n, cur, e, fz, rfl, hg, Nat.le_refl _, h.2.1, by omega, ht⟩
end
end Go.Proofs.YtjfdhafmbcppjaaGreatDoor.H

namespace Go.Proofs.YtjfdhafmbcppjaaGreatDoor.H
open Go.RowKit
section
variable {M : Option (Option Nat)} {P : Program} {ops : Array Oper} {Q : Post} {rest : List Oper} {f : Fr} {w : World} {d : Nat} {ty : TypeId} {pos : String} {af : Array Edge}

theorem RW.elemMOn {α : Type} [Inhabited α] {t e t2 ty2 : TypeId} {pos2 : String} {af2 : Array Edge} {d1 j s : Nat} {c : Bool} {z : Value} {b : Nat} [ht : Und P t (.slice e)] [Inf P e z 1 b] [One P t2] {x y : Operand} {k : IntKind} {v : Value} {i : Int} {n : Nat} {l : List α} {enc : α → Value} (hx : f.ev x = some v) (hy : f.ev y = some (.int k i)) (hd : Nat.blt d f.n = true) (hd1 : Nat.blt d1 f.n = true)
    (hs : Sl w 1 v n (l.map enc)) (h0 : 0 ≤ i) (h1 : i < l.length) (hj : (ops[j]?).bind (·.dst) = some s) (hn : Nat.blt s f.n = true) (hv : look (f.put d (.pointer (some (Value.spot v (i.toNat * 1))))).e s = some (.bool c))
    (kk : RW M P ops Q rest ((f.put d (.pointer (some (Value.spot v (i.toNat * 1))))).put d1 (enc (l.getD i.toNat default))) w) : RW M P ops Q (op1 d (.indexAddr t x y) ty pos af :: { dst := some d1, op := .load t2 (.tmp d), type := ty2, pos := pos2, after := af2, guard := some (j, c) } :: rest) f w := by
  have hn' : n = l.length := by have := hs.1; simpa using this.symm
  have hlt : i.toNat < l.length := by omega
  refine RW.elemOn hx hy hd hd1 hs h0 (by omega) ?_ hj hn hv kk
  simp [hlt]
theorem RW.elemSOn {t e t2 ty2 : TypeId} {pos2 : String} {af2 : Array Edge} {d1 j s : Nat} {c : Bool} {z : Value} {b : Nat} [ht : Und P t (.slice e)] [Inf P e z 1 b] [One P t2] {x y : Operand} {k : IntKind} {v : Value} {i : Int} {n : Nat} {l : List (List UInt8)} (hx : f.ev x = some v) (hy : f.ev y = some (.int k i)) (hd : Nat.blt d f.n = true) (hd1 : Nat.blt d1 f.n = true)
    (hs : Sl w 1 v n (sv l)) (h0 : 0 ≤ i) (h1 : i < l.length) (hj : (ops[j]?).bind (·.dst) = some s) (hn : Nat.blt s f.n = true) (hv : look (f.put d (.pointer (some (Value.spot v (i.toNat * 1))))).e s = some (.bool c))
    (kk : RW M P ops Q rest ((f.put d (.pointer (some (Value.spot v (i.toNat * 1))))).put d1 (vs (l.getD i.toNat []))) w) : RW M P ops Q (op1 d (.indexAddr t x y) ty pos af :: { dst := some d1, op := .load t2 (.tmp d), type := ty2, pos := pos2, after := af2, guard := some (j, c) } :: rest) f w :=
  RW.elemMOn (enc := vs) (l := l) hx hy hd hd1 hs h0 h1 hj hn hv kk

/-- A text against itself. -/
theorem Y.nesR {t yt : TypeId} {x y : Operand} {a : List UInt8} (hx : f.ev x = some (.string (B a))) (hy : f.ev y = some (.string (B a))) : Yd P f (op1 d (.binOp .neq t x y yt) ty pos af) (.bool false) w := by
  have := Y.nes (P := P) (w := w) (d := d) (t := t) (yt := yt) (ty := ty) (pos := pos) (af := af) hx hy
  simpa using this
end
end Go.Proofs.YtjfdhafmbcppjaaGreatDoor.H

namespace Go.Proofs.YtjfdhafmbcppjaaGreatDoor.H
open Go.RowKit
section
variable {M : Option (Option Nat)} {P : Program} {ops : Array Oper} {Q : Post} {rest : List Oper} {f : Fr} {w : World} {d : Nat} {ty : TypeId} {pos : String} {af : Array Edge}
theorem Y.loadN {t : TypeId} {n : Nat} [h : Many P t n] {x : Operand} {a : Addr} {cs : List Value} (hx : f.ev x = some (.pointer (some a))) (hl : cs.length = n) (hc : ∀ j v, cs[j]? = some v → w.cell? (a.add j) = some v) : Yd P f (op1 d (.load t x) ty pos af) (.agg cs.toArray) w := fun a' ha => by
  have hr := run_loadCells_list (P := P) w a cs hc
  rw [hl] at hr
  simp [execOp, ha.eval hx, Instr.loadAt, Instr.sureAddr, loadVar, h.agg, h.size, hr]
theorem Y.eqbR {t yt : TypeId} [ht : Und P t .bool] {x y : Operand} {a : Bool} (hx : f.ev x = some (.bool a)) (hy : f.ev y = some (.bool a)) : Yd P f (op1 d (.binOp .eql t x y yt) ty pos af) (.bool true) w := by
  have := Y.eqb (P := P) (w := w) (d := d) (t := t) (yt := yt) (ty := ty) (pos := pos) (af := af) hx hy
  simpa using this
end
end Go.Proofs.YtjfdhafmbcppjaaGreatDoor.H

namespace Go.Proofs.YtjfdhafmbcppjaaGreatDoor.H
open Go.RowKit
section
variable {M : Option (Option Nat)} {P : Program} {ops : Array Oper} {Q : Post} {rest : List Oper} {f : Fr} {w : World} {d : Nat} {ty : TypeId} {pos : String} {af : Array Edge}

theorem Gt.slice {t : TypeId} {x : Operand} {a b c : Option Operand} (h : RW M P ops Q ({ dst := some d, op := .slice t x a b c, type := ty, pos := pos, after := af, guard := none } :: rest) f w) : RW M P ops Q ({ dst := some d, op := .slice t x a b c, type := ty, pos := pos, after := af, guard := none } :: rest) f w := h
theorem Gt.call {c : Call} (h : RW M P ops Q ({ dst := some d, op := .call c, type := ty, pos := pos, after := af, guard := none } :: rest) f w) : RW M P ops Q ({ dst := some d, op := .call c, type := ty, pos := pos, after := af, guard := none } :: rest) f w := h

theorem Y.max2 {x y : Operand} {k k2 : IntKind} {a b : Int} {ts : Array TypeId} (hx : f.ev x = some (.int k a)) (hy : f.ev y = some (.int k2 b)) : Yd P f (op1 d (.call { callee := .builtin .max, args := #[x, y], argTypes := ts }) ty pos af) (.int k (max a b)) w := by
  intro s hs
  have h := run_max_int2 (P := P) (w := w) ts ty k k2 a b
  have e : (if b > a then b else a) = max a b := by split <;> omega
  rw [e] at h
  simp [execOp, resolve, invoke, builtin, hs.eval hx, hs.eval hy, h]
theorem Y.min2 {x y : Operand} {k k2 : IntKind} {a b : Int} {ts : Array TypeId} (hx : f.ev x = some (.int k a)) (hy : f.ev y = some (.int k2 b)) : Yd P f (op1 d (.call { callee := .builtin .min, args := #[x, y], argTypes := ts }) ty pos af) (.int k (min a b)) w := by
  intro s hs
  have h := run_min_int2 (P := P) (w := w) ts ty k k2 a b
  have e : (if b < a then b else a) = min a b := by split <;> omega
  rw [e] at h
  simp [execOp, resolve, invoke, builtin, hs.eval hx, hs.eval hy, h]
theorem Y.min3 {x y z : Operand} {k k2 k3 : IntKind} {a b c : Int} {ts : Array TypeId} (hx : f.ev x = some (.int k a)) (hy : f.ev y = some (.int k2 b)) (hz : f.ev z = some (.int k3 c)) : Yd P f (op1 d (.call { callee := .builtin .min, args := #[x, y, z], argTypes := ts }) ty pos af) (.int k (min (min a b) c)) w := by
  intro s hs
  have h := run_min_int3 (P := P) (w := w) ts ty k k2 k3 a b c
  have e : (if c < (if b < a then b else a) then c else (if b < a then b else a)) = min (min a b) c := by split <;> split <;> omega
  rw [e] at h
  simp [execOp, resolve, invoke, builtin, hs.eval hx, hs.eval hy, hs.eval hz, h]

/-- A function that the model itself gives. -/
theorem Y.ext {k : FuncId} {xs : List Operand} {l : List Value} {at' : Array TypeId} {v : Value} (hv : f.evs xs = some l) (hc : (callFunc k l.toArray).run P w = .ok (.value v) w) : Yd P f (op1 d (.call { callee := .value (.func k), args := xs.toArray, argTypes := at' }) ty pos af) v w := fun a ha => by
  simp [execOp, resolve, Act.eval, Deferred.ofValue, invoke, ha.evs xs l hv, hc]

theorem madeCells_one {z : Value} (n : Nat) : (madeCells #[z] n).toList = List.replicate n z := by
  apply List.ext_getElem?
  intro i
  simp only [madeCells, Array.toList_map, Array.toList_range, List.getElem?_map, List.getElem?_replicate]
  by_cases h : i < n <;> simp [h, Nat.mod_one]

/-- make([]T, n), T of one cell -/
theorem RW.make1 {t e : TypeId} {z : Value} {b : Nat} [ht : Und P t (.slice e)] [hi : Inf P e z 1 b] {x y : Operand} {k k2 : IntKind} {n : Nat} (hx : f.ev x = some (.int k (n : Int))) (hy : f.ev y = some (.int k2 (n : Int))) (hd : Nat.blt d f.n = true) (hz : z.cells = #[z]) (hn : n ≤ 16777216) (hb : b * n ≤ 281474976710656)
    (kk : ∀ v' w', w'.ownsRow w.heap.size e 1 v' n (List.replicate n z) → K0 w w' → RW M P ops Q rest (f.put d v') w') : RW M P ops Q (op1 d (.makeSlice t x y) ty pos af :: rest) f w := by
  have hi' := hi.out
  cases hinf : P.info? e with
  | none => simp [hinf] at hi'
  | some i =>
    simp only [hinf, Option.map_some, Option.some.injEq, Prod.mk.injEq] at hi'
    obtain ⟨hz', hs', hb'⟩ := hi'
    obtain ⟨w', hr, ho, hg⟩ := run_makeSlice_full (P := P) w w.heap.size t e i z 1 ht.out hinf hz' hs' k k2 n (by omega) (by rw [hb']; exact hb) (by simp only [maxLen]; omega) (Nat.le_refl _)
    rw [hz, Nat.mul_one, madeCells_one] at ho
    refine RW.val rfl rfl hd (fun a ha => ?_) (kk _ w' ho ((Kept.of_grown hg).mono fun k hk => by cases hk))
    simp [execOp, ha.eval hx, ha.eval hy, hr]

theorem cons_snd {α : Type} {l : List α} {i : Nat} {u : α} : (l.set i u).length = l.length := List.length_set ..

/-- An element of a row of the call's own is written. -/
theorem RW.setEl {t e t2 : TypeId} {ty2 : TypeId} {pos2 : String} {af2 : Array Edge} {z : Value} {b : Nat} [ht : Und P t (.slice e)] [Inf P e z 1 b] [One P t2] {x y q : Operand} {k : IntKind} {v u : Value} {i : Int} {base n : Nat} {xs : List Value} (hx : f.ev x = some v) (hy : f.ev y = some (.int k i)) (hd : Nat.blt d f.n = true)
    (hs : w.ownsRow base e 1 v n xs) (h0 : 0 ≤ i) (h1 : i < n) (hu : ∀ p, (f.put d p).ev q = some u) (hu1 : u.oneCell' = true)
    (kk : ∀ p w', w'.ownsRow base e 1 v n (xs.set i.toNat u) → Kept (fun k => v.ownBlock = some k) w w' → RW M P ops Q rest (f.put d p) w') : RW M P ops Q (op1 d (.indexAddr t x y) ty pos af :: op0 (.store t2 (.tmp d) q) ty2 pos2 af2 :: rest) f w := by
  have hlen := hs.1
  rcases hs.2 with ⟨rfl, h⟩ | ⟨g, cap, cur, rfl, hb, hg, hn, hm, hc, htk⟩
  · omega
  have hsp : Value.spot (.slice (some ⟨g, 0, none⟩) n cap) (i.toNat * 1) = ⟨g, i.toNat, none⟩ := by simp only [Value.spot, addr_add]; congr 1; omega
  refine RW.y (Y.idx hx hy (Sl.of_own hs) h0 h1) hd ?_
  rw [hsp]
  refine RW.storeB (g := g) (j := i.toNat) (by simp [Fr.ev, Fr.put, look]) (hu _) hu1 hg (by omega) (fun w' hw' hk => kk _ w' ?_ (hk.mono fun k h => by simp [Value.ownBlock, h]))
  refine ⟨by rw [List.length_set]; exact hlen, .inr ⟨g, cap, _, rfl, hb, hw', hn, hm, by simpa using hc, ?_⟩⟩
  rw [Array.toList_setIfInBounds, List.take_set, htk]
end
end Go.Proofs.YtjfdhafmbcppjaaGreatDoor.H

namespace Go.Proofs.YtjfdhafmbcppjaaGreatDoor.S
open Go.RowKit H
attribute [local irreducible] H.CL H.RW H.CW H.Yd H.thenK H.blockQ Go.Calls

theorem B_data (l : List UInt8) : (B l).data.toList = l := rfl

/-- The place of the first c; -1 where there is none. -/
def idx (c : UInt8) (l : List UInt8) : Int := Go.Lib.indexByte l c
theorem byte_back (c : UInt8) : (((c.toNat : Int)).toNat).toUInt8 = c := by
  rw [Int.toNat_natCast]; simp

theorem ext_indexByte (l : List UInt8) (c : UInt8) (w : World) : (callFunc 126 #[vs l, vb c]).run Tryz.prog w = .ok (.value (.int .i64 (idx c l))) w := by
  rw [run_callFunc_extern Tryz.func126 (by kernel_rfl) (by kernel_rfl) (by kernel_rfl) (e := Extern.BytealgIndexByte.indexByte) (by kernel_rfl), Lib.run_indexByteString, byte_back]
  rfl
theorem ext_count (l : List UInt8) (c : UInt8) (w : World) : (callFunc 129 #[vs l, vb c]).run Tryz.prog w = .ok (.value (.int .i64 (l.count c : Nat))) w := by
  rw [run_callFunc_extern Tryz.func129 (by kernel_rfl) (by kernel_rfl) (by kernel_rfl) (e := Extern.BytealgCount.count) (by kernel_rfl), Lib.run_countString, byte_back]
  rfl

theorem sliteIndexByte (l : List UInt8) (c : UInt8) (w : World) : Calls Tryz.prog 116 #[vs l, vb c] w fun e w' => w = w' ∧ e = .returned (.int .i64 (idx c l)) := by
  refine H.enter Tryz.func116 Tryz.ntmps116 rfl rfl ?_; dsimp only [H.args]
  repeat' (first | (refine CL.seq ?_) | (refine CL.region ?_) | (refine Gt.nil ?_; refine RW.nilw [0, 1, 4] ?_; dsimp only [H.keep, H.look, H.Fr.put, Nat.beq]) | (refine Gt.assign ?_; refine RW.y (Y.assign rfl) rfl ?_) | (refine Gt.move ?_; refine RW.y (Y.move rfl) rfl ?_))
  refine RW.y (Y.ext rfl (ext_indexByte l c w)) rfl ?_
  repeat' (first | (refine CL.ret ?_) | (refine Gt.nil ?_; refine RW.nilw [0, 1, 4] ?_; dsimp only [H.keep, H.look, H.Fr.put, Nat.beq]) | (refine Gt.assign ?_; refine RW.y (Y.assign rfl) rfl ?_))
  exact FQ.one rfl rfl rfl ⟨rfl, rfl⟩

set_option maxHeartbeats 400000 in
theorem sliteIndex (l : List UInt8) (c : UInt8) (w : World) : Calls Tryz.prog 100 #[vs l, vs [c]] w fun e w' => w = w' ∧ e = .returned (.int .i64 (idx c l)) := by
  have h1 : ([c] : List UInt8).length = 1 := rfl
  refine H.enter Tryz.func100 Tryz.ntmps100 rfl rfl ?_; dsimp only [H.args]
  repeat' (first | (refine CL.seq ?_) | (refine CL.region ?_) | (refine CL.condP rfl (fun _ => ?_) (fun _ => ?_) <;> try (exfalso; omega)) | (refine CL.block ?_) | (refine CL.ret ?_) | (refine Rt.block ?_) | (refine Gt.nil ?_; refine RW.nilw [0, 1, 4, 5, 6, 7, 8, 9, 10, 11, 12, 13, 16, 24, 31, 36, 59, 64, 73, 93, 107, 114, 132, 139] ?_; dsimp only [H.keep, H.look, H.Fr.put, Nat.beq]) | (refine Gt.move ?_; refine RW.y (Y.move rfl) rfl ?_) | (refine Gt.guard ?_; first | (refine RW.part rfl rfl rfl (fun _ => ?_) (fun _ => ?_) <;> try (exfalso; omega)) | (refine RW.on rfl rfl rfl ?_)) | (refine Gt.assign ?_; refine RW.y (Y.assign rfl) rfl ?_) | (refine Gt.pick ?_; (refine RW.y (Y.pickF rfl rfl) rfl ?_)) | (refine Gt.index ?_; refine RW.y (Y.idxs rfl rfl (by omega) (by omega)) rfl ?_) | (refine Gt.len ?_; refine RW.y (Y.lens rfl) rfl ?_) | (refine Gt.eql ?_; first | (refine RW.y (Y.eqi rfl rfl) rfl ?_) | (refine RW.y (Y.eqs rfl rfl) rfl ?_)))
  · rename_i h
    subst h
    refine FQ.one rfl rfl rfl ⟨rfl, ?_⟩
    simp [idx, Go.Lib.indexByte]
  refine RW.fn rfl rfl ((sliteIndexByte l c w).mono ?_)
  rintro e w1 ⟨rfl, rfl⟩
  repeat' (first | (refine CL.ret ?_) | (refine Rt.block ?_) | (refine Gt.nil ?_; refine RW.nilw [0, 1, 4, 5, 6, 7, 8, 9, 10, 11, 12, 13, 16, 24, 31, 36, 59, 64, 73, 93, 107, 114, 132, 139] ?_; dsimp only [H.keep, H.look, H.Fr.put, Nat.beq]) | (refine Gt.assign ?_; refine RW.y (Y.assign rfl) rfl ?_))
  exact FQ.one rfl rfl rfl ⟨rfl, rfl⟩

theorem index (l : List UInt8) (c : UInt8) (w : World) : Calls Tryz.prog 82 #[vs l, vs [c]] w fun e w' => w = w' ∧ e = .returned (.int .i64 (idx c l)) := by
  refine H.enter Tryz.func82 Tryz.ntmps82 rfl rfl ?_; dsimp only [H.args]
  repeat' (first | (refine CL.seq ?_) | (refine CL.region ?_) | (refine Gt.nil ?_; refine RW.nilw [0, 1, 4] ?_; dsimp only [H.keep, H.look, H.Fr.put, Nat.beq]) | (refine Gt.assign ?_; refine RW.y (Y.assign rfl) rfl ?_) | (refine Gt.move ?_; refine RW.y (Y.move rfl) rfl ?_))
  refine RW.fn rfl rfl ((sliteIndex l c w).mono ?_)
  rintro e w1 ⟨rfl, rfl⟩
  repeat' (first | (refine CL.ret ?_) | (refine Gt.nil ?_; refine RW.nilw [0, 1, 4] ?_; dsimp only [H.keep, H.look, H.Fr.put, Nat.beq]) | (refine Gt.assign ?_; refine RW.y (Y.assign rfl) rfl ?_))
  exact FQ.one rfl rfl rfl ⟨rfl, rfl⟩

theorem count (l : List UInt8) (c : UInt8) (w : World) : Calls Tryz.prog 119 #[vs l, vs [c]] w fun e w' => w = w' ∧ e = .returned (.int .i64 (l.count c : Nat)) := by
  have h1 : ([c] : List UInt8).length = 1 := rfl
  refine H.enter Tryz.func119 Tryz.ntmps119 rfl rfl ?_; dsimp only [H.args]
  repeat' (first | (refine CL.seq ?_) | (refine CL.region ?_) | (refine CL.skip ?_) | (refine CL.condP rfl (fun _ => ?_) (fun _ => ?_) <;> try (exfalso; omega)) | (refine Gt.nil ?_; refine RW.nilw [0, 1, 4, 5, 6, 9, 15, 24] ?_; dsimp only [H.keep, H.look, H.Fr.put, Nat.beq]) | (refine Gt.move ?_; refine RW.y (Y.move rfl) rfl ?_) | (refine Gt.assign ?_; refine RW.y (Y.assign rfl) rfl ?_) | (refine Gt.len ?_; refine RW.y (Y.lens rfl) rfl ?_) | (refine Gt.eql ?_; refine RW.y (Y.eqi rfl rfl) rfl ?_) | (refine Gt.index ?_; refine RW.y (Y.idxs rfl rfl (by omega) (by omega)) rfl ?_))
  refine RW.y (Y.ext rfl (ext_count l c w)) rfl ?_
  repeat' (first | (refine CL.ret ?_) | (refine Gt.nil ?_; refine RW.nilw [0, 1, 4, 5, 6, 9, 15, 24] ?_; dsimp only [H.keep, H.look, H.Fr.put, Nat.beq]) | (refine Gt.assign ?_; refine RW.y (Y.assign rfl) rfl ?_))
  exact FQ.one rfl rfl rfl ⟨rfl, rfl⟩

theorem sliteHasPrefix (s p : List UInt8) (w : World) : Calls Tryz.prog 101 #[vs s, vs p] w fun e w' => w = w' ∧ e = .returned (.bool (decide (s.take p.length = p))) := by
  refine H.enter Tryz.func101 Tryz.ntmps101 rfl rfl ?_; dsimp only [H.args]
  repeat' (first | (refine CL.seq ?_) | (refine CL.region ?_) | (refine CL.ret ?_) | (refine Gt.nil ?_; refine RW.nilw [0, 1, 4] ?_; dsimp only [H.keep, H.look, H.Fr.put, Nat.beq]) | (refine Gt.move ?_; refine RW.y (Y.move rfl) rfl ?_) | (refine Gt.guard ?_; first | (refine RW.part rfl rfl rfl (fun _ => ?_) (fun _ => ?_) <;> try (exfalso; omega)) | (refine RW.on rfl rfl rfl ?_) | (refine RW.off1 rfl rfl rfl rfl rfl ?_)) | (refine Gt.len ?_; refine RW.y (Y.lens rfl) rfl ?_) | (refine Gt.assign ?_; refine RW.y (Y.assign rfl) rfl ?_) | (refine Gt.geq ?_; refine RW.y (Y.geq rfl rfl) rfl ?_) | (refine Gt.slice ?_; refine RW.y (Y.cuth rfl rfl (by omega) (by omega)) rfl ?_) | (refine Gt.eql ?_; refine RW.y (Y.eqs rfl rfl) rfl ?_) | (refine Gt.pick ?_; first | (refine RW.y (Y.pickT rfl rfl) rfl ?_) | (refine RW.y (Y.pickF rfl rfl) rfl ?_)))
  · rw [Int.toNat_natCast]
    exact FQ.one rfl rfl rfl ⟨rfl, rfl⟩
  · refine FQ.one rfl rfl rfl ⟨rfl, ?_⟩
    rw [decide_eq_false]
    intro h
    have := congrArg List.length h
    rw [List.length_take] at this
    omega
theorem hasPrefix (s p : List UInt8) (w : World) : Calls Tryz.prog 83 #[vs s, vs p] w fun e w' => w = w' ∧ e = .returned (.bool (decide (s.take p.length = p))) := by
  refine H.enter Tryz.func83 Tryz.ntmps83 rfl rfl ?_; dsimp only [H.args]
  repeat' (first | (refine CL.seq ?_) | (refine CL.region ?_) | (refine Gt.nil ?_; refine RW.nilw [0, 1, 4] ?_; dsimp only [H.keep, H.look, H.Fr.put, Nat.beq]) | (refine Gt.assign ?_; refine RW.y (Y.assign rfl) rfl ?_) | (refine Gt.move ?_; refine RW.y (Y.move rfl) rfl ?_))
  refine RW.fn rfl rfl ((sliteHasPrefix s p w).mono ?_)
  rintro e w1 ⟨rfl, rfl⟩
  repeat' (first | (refine CL.ret ?_) | (refine Gt.nil ?_; refine RW.nilw [0, 1, 4] ?_; dsimp only [H.keep, H.look, H.Fr.put, Nat.beq]) | (refine Gt.assign ?_; refine RW.y (Y.assign rfl) rfl ?_))
  exact FQ.one rfl rfl rfl ⟨rfl, rfl⟩
end Go.Proofs.YtjfdhafmbcppjaaGreatDoor.S

namespace Go.Proofs.YtjfdhafmbcppjaaGreatDoor.H
open Go.RowKit

/-- J abides a change of blocks of S, and new blocks. -/
def Abid {β : Type} (S : Nat → Prop) (J : β → World → Prop) : Prop := ∀ s W W', J s W → Kept S W W' → J s W'
/-- The blocks of S lie as they lay. -/
def Same (S : Nat → Prop) (W W' : World) : Prop := W.heap.size ≤ W'.heap.size ∧ ∀ k, S k → W'.heap[k]? = W.heap[k]?
theorem Same.refl (S : Nat → Prop) (W : World) : Same S W W := ⟨Nat.le_refl _, fun _ _ => rfl⟩
theorem Same.of {S T : Nat → Prop} {W W' : World} (h : Kept T W W') (hS : ∀ k, S k → k < W.heap.size ∧ ¬ T k) : Same S W W' := ⟨h.size, fun k hk => h.block k (hS k hk).1 (hS k hk).2⟩
theorem Same.trans {S : Nat → Prop} {a b c : World} (h : Same S a b) (k : Same S b c) : Same S a c := ⟨Nat.le_trans h.1 k.1, fun i hi => (k.2 i hi).trans (h.2 i hi)⟩

/-- What an iterator that yields the list xs does; S: the blocks that are its own, from one round to the next. -/
def SeqC {α : Type} (P : Program) (gf : Nat) (cap : List Value) (enc : α → List Value) (S : Nat → Prop) (Pre : World → Prop) (xs : List α) : Prop :=
  ∀ (l : Nat) (J Jx : List α → World → Prop) (W : World), Pre W → Abid S J → Abid S Jx →
    (∀ pre x W1, J pre W1 → (pre ++ [x]) <+: xs → YieldAt Fence.wide 0 P l (enc x).toArray W1 fun e W' =>
      (e = .returned (.bool true) ∧ J (pre ++ [x]) W' ∧ Same S W1 W') ∨ (e = .returned (.bool false) ∧ Jx (pre ++ [x]) W')) →
    J [] W → Calls P gf (.func (.yield l) #[] #[] :: cap).toArray W fun e W' => (∃ v, e = .returned v) ∧ (J xs W' ∨ ∃ pre, Jx pre W')

def Fr.puts (f : Fr) : List Nat → List Value → Fr
  | p :: ps, v :: vs => (f.put p v).puts ps vs
  | _, _ => f

theorem Ag.puts : ∀ (ps : List Nat) (vs : List Value) {f : Fr} {tmps : Array Value} (_ : Ag f { tmps := tmps, defers := [] }), (∀ p ∈ ps, Nat.blt p f.n = true) →
    Ag (f.puts ps vs) { tmps := (ps.zip vs).foldl (fun t (x : Nat × Value) => t.setIfInBounds x.1 x.2) tmps, defers := [] } := by
  intro ps
  induction ps with
  | nil => intro vs f tmps h _; cases vs <;> exact h
  | cons p ps ih =>
    intro vs f tmps h hp
    cases vs with
    | nil => exact h
    | cons v vs => exact ih vs (f := f.put p v) (h.put v (hp p (by simp))) fun q hq => hp q (List.mem_cons_of_mem _ hq)

/-- How a round's body may be left. -/
def RQ {α : Type} (S : Nat → Prop) (I : List α → World → Prop) (Ix : Option Nat → List α → World → Prop) (xs : List α) (W : World) : Post
  | .normal, _, W' => Same S W W' ∧ I xs W'
  | .ret, _, W' => Same S W W' ∧ Ix none xs W'
  | .exit k, _, W' => Same S W W' ∧ Ix (some k) xs W'
  | _, _, _ => False

def jumpOf : Option Nat → Code
  | none => .ret
  | some k => .exit k
abbrev markOf (D : Nat) : Deferred := { target := .collected D, args := #[] }

section
variable {P : Program} {Q : Post} {cs : List Code} {f : Fr} {w : World}
theorem kept_putObj (W : World) (l : Nat) (o : Obj) : Kept (fun k => k = l) W (W.putObj l o) :=
  ⟨rfl, rfl, rfl, by simp, fun k _ hk => World.putObj_heap_other hk⟩

theorem CL.rangeFunc {α : Type} {g : Operand} {ps : List Nat} {assign body : Code} {gf : Nat} {cap : List Value} {enc : α → List Value} {S : Nat → Prop} {Pre : World → Prop} {xs : List α} [he : Ent P gf]
    (hg : f.ev g = some (.func (.func gf) #[] cap.toArray)) (hseq : SeqC P gf cap enc S Pre xs) (hpre : ∀ W, K0 w W → Pre W) (hps : ∀ x, (enc x).length = ps.length) (hpn : ∀ p ∈ ps, Nat.blt p f.n = true)
    (hS : ∀ k, S k → k < w.heap.size) (I : List α → World → Prop) (Ix : Option Nat → List α → World → Prop)
    (hI : Abid (fun k => S k ∨ k = w.heap.size ∨ k = w.heap.size + 1) I) (hIx : ∀ c, Abid (fun k => S k ∨ k = w.heap.size ∨ k = w.heap.size + 1) (Ix c)) (h0 : I [] w)
    (hround : ∀ l pre x W, I pre W → (pre ++ [x]) <+: xs → w.heap.size + 2 ≤ W.heap.size →
      CL (some (some l)) P (thenK (fun f1 W1 => W1 = W ∧ ∀ W2, I pre W2 → w.heap.size + 2 ≤ W2.heap.size → CL (some (some l)) P (RQ (fun k => S k ∨ k = w.heap.size ∨ k = w.heap.size + 1) I Ix (pre ++ [x]) W2) [body] f1 W2) (fun _ _ _ => False)) [assign] (Fr.puts ⟨f.n, [], f.e⟩ ps (enc x)) W)
    (hdone : ∀ W, I xs W → W.heap[w.heap.size]? = some (.deferred (some [])) → CL none P Q cs ⟨f.n, markOf w.heap.size :: f.ds, f.e⟩ W)
    (hstop : ∀ c pre W, Ix c pre W → W.heap[w.heap.size]? = some (.deferred (some [])) → match c with
      | none => Q .ret ⟨f.n, markOf w.heap.size :: f.ds, f.e⟩ W
      | some k => Q (.exit k) ⟨f.n, markOf w.heap.size :: f.ds, f.e⟩ W) :
    CL none P Q (.rangeFunc g ps.toArray assign body :: cs) f w := by
  intro a ha
  show Code.wp P _ _ a w
  refine (wpIn_wide (n := 0)).1 (wpIn_rangeFunc fun fn _ => ?_)
  have ha0 : Ag ⟨f.n, [], f.e⟩ { tmps := a.tmps, defers := [] } := ⟨ha.size, rfl, ha.slot⟩
  have ham : Ag ⟨f.n, markOf w.heap.size :: f.ds, f.e⟩ { a with defers := [markOf w.heap.size] ++ a.defers } := ⟨ha.size, by simp [ha.defers], ha.slot⟩
  have hga := ha.eval hg
  obtain ⟨rec, hrec⟩ : ∃ rec : LoopState → Option Code → Loop, rec = fun st pe => { state := st, pending := pe, fn, tmps := a.tmps, params := ps.toArray, assign, body, defers := w.heap.size } := ⟨_, rfl⟩
  obtain ⟨W1, hW1⟩ : ∃ W1, (w.alloc (.deferred (some []))).alloc (.loop (rec .ready none)) = W1 := ⟨_, rfl⟩
  have hL1 : W1.heap[w.heap.size + 1]? = some (.loop (rec .ready none)) := by
    rw [← hW1]; have := World.alloc_heap_new (w.alloc (.deferred (some []))) (.loop (rec .ready none)); rwa [World.size_alloc] at this
  have hK1 : W1.heap[w.heap.size]? = some (.deferred (some [])) := by
    rw [← hW1]; exact (Below.heap_alloc _ _ _ (by simp)).trans (World.alloc_heap_new w _)
  have hk1 : K0 w W1 := by rw [← hW1]; exact (Kept.alloc w _).trans0 (Kept.alloc _ _)
  have hI1 : I [] W1 := hI _ _ _ h0 hk1.of0
  refine ⟨w.heap.size + 1, [markOf w.heap.size], W1, { target := .fn (.func gf) cap.toArray, args := #[.func (.yield (w.heap.size + 1)) #[] #[]] }, W1, gf,
    #[.func (.yield (w.heap.size + 1)) #[] #[]] ++ cap.toArray, W1, ?_, ?_, ?_, ?_, ?_, ?_⟩
  · rw [← hW1, hrec]; exact run_enterLoop_outer _ _ _ _ _
  · simp only [resolve, hga]
    simp [go_sem]
  · intro _ _; trivial
  · simp [invoke, go_sem, he.out]
  · intro c; simp [Fence.wide] at c
  refine callsIn_wide.2 ?_
  have hargs : #[.func (.yield (w.heap.size + 1)) #[] #[]] ++ cap.toArray = (Value.func (.yield (w.heap.size + 1)) #[] #[] :: cap).toArray := by simp
  rw [hargs]
  have hput : ∀ {k : Nat}, k = w.heap.size + 1 → S k ∨ k = w.heap.size ∨ k = w.heap.size + 1 := fun h => .inr (.inr h)
  refine Calls.mono (hseq (w.heap.size + 1)
    (fun pre W => I pre W ∧ W.heap[w.heap.size + 1]? = some (.loop (rec .ready none)) ∧ W.heap[w.heap.size]? = some (.deferred (some [])))
    (fun pre W => ∃ c, Ix c pre W ∧ W.heap[w.heap.size + 1]? = some (.loop (rec .done (some (jumpOf c)))) ∧ W.heap[w.heap.size]? = some (.deferred (some [])))
    W1 (hpre _ hk1) ?_ ?_ ?_ ⟨hI1, hL1, hK1⟩) ?_
  · rintro s A B ⟨h1, h2, h3⟩ hk
    exact ⟨hI _ _ _ h1 (hk.mono fun k h => .inl h), hk.at h2 (fun c => by have := hS _ c; omega), hk.at h3 (fun c => by have := hS _ c; omega)⟩
  · rintro s A B ⟨c, h1, h2, h3⟩ hk
    exact ⟨c, hIx _ _ _ _ h1 (hk.mono fun k h => .inl h), hk.at h2 (fun c => by have := hS _ c; omega), hk.at h3 (fun c => by have := hS _ c; omega)⟩
  · -- one round
    rintro pre x W ⟨hi, hl, hk⟩ hpf
    have hlt : w.heap.size + 1 < W.heap.size := (Array.getElem?_eq_some_iff.1 hl).1
    have hy := run_yield (P := P) (args := (enc x).toArray) hl (by rw [hrec]; simp [hps x])
    rw [hrec] at hy
    refine ⟨fn, _, assign, body, hy, roundIn_of_wpIn trivial ?_⟩
    have hag := Ag.puts ps (enc x) ha0 hpn
    have hw := CL.one (hround (w.heap.size + 1) pre x W hi hpf hlt) _ hag
    have hin : Rd1 (some (w.heap.size + 1)) = Fence.wide.inRound (w.heap.size + 1) := rfl
    have htm : (ps.toArray.zip (enc x).toArray).foldl (fun tmps (x : Tmp × Value) => match x with | (t, a) => tmps.setIfInBounds t a) a.tmps = (ps.zip (enc x)).foldl (fun t (x : Nat × Value) => t.setIfInBounds x.1 x.2) a.tmps := by
      rw [List.zip_toArray, List.foldl_toArray]
    rw [htm]
    refine wpIn_mono (show Code.wpIn (Fence.wide.inRound (w.heap.size + 1)) 0 P assign _ _ W from hw) ?_
    rintro e a1 W' ⟨f1, hf1, q⟩
    cases e with
    | normal =>
      obtain ⟨rfl, q⟩ := q
      refine ⟨_, run_beginRound hl (by rw [hrec]), ?_⟩
      obtain ⟨W2, hW2⟩ : ∃ W2, W'.putObj (w.heap.size + 1) (.loop { rec .ready none with state := .busy }) = W2 := ⟨_, rfl⟩
      have hl2 : W2.heap[w.heap.size + 1]? = some (.loop { rec .ready none with state := .busy }) := by rw [← hW2]; exact World.putObj_heap_same hlt
      have hk2 : W2.heap[w.heap.size]? = some (.deferred (some [])) := by rw [← hW2]; exact (World.putObj_heap_other (by omega)).trans hk
      have hkp2 : Kept (fun k => k = w.heap.size + 1) W' W2 := by rw [← hW2]; exact kept_putObj _ _ _
      have hi2 := hI _ _ _ hi (hkp2.mono fun k h => hput h)
      rw [hW2]
      have hb := CL.one (q W2 hi2 (by have := hkp2.size; omega)) a1 hf1
      refine wpIn_mono (show Code.wpIn (Fence.wide.inRound (w.heap.size + 1)) 0 P body _ _ W2 from hb) ?_
      have fin : ∀ (jump : Option Code) (W3 : World), Same (fun k => S k ∨ k = w.heap.size ∨ k = w.heap.size + 1) W2 W3 →
          ∃ W4, (Instr.endRound (w.heap.size + 1) jump).run P W3 = .ok (.bool jump.isNone) W4 ∧ Kept (fun k => k = w.heap.size + 1) W3 W4 ∧
          W4.heap[w.heap.size + 1]? = some (.loop (rec (if jump.isNone then .ready else .done) jump)) ∧ W4.heap[w.heap.size]? = some (.deferred (some [])) ∧ Same S W' W4 := fun jump W3 hs3 => by
        have hl3 := (hs3.2 _ (.inr (.inr rfl))).trans hl2
        have hk3 := (hs3.2 _ (.inr (.inl rfl))).trans hk2
        have := run_endRound (P := P) jump hl3
        rw [hrec] at this ⊢
        refine ⟨_, this, kept_putObj _ _ _, World.putObj_heap_same (Array.getElem?_eq_some_iff.1 hl3).1, (World.putObj_heap_other (by omega)).trans hk3, ?_⟩
        have hne : ∀ k, S k → k ≠ w.heap.size + 1 := fun k hk => by have := hS k hk; omega
        refine ⟨by have h1 := hkp2.size; have h2 := hs3.1; simp; omega, fun k hk => ?_⟩
        rw [World.putObj_heap_other (hne k hk), hs3.2 k (.inl hk), ← hW2, World.putObj_heap_other (hne k hk)]
      rintro e a3 W3 ⟨f3, hf3, hp⟩
      cases e with
      | normal =>
        obtain ⟨hs3, hi3⟩ := hp
        obtain ⟨W4, hr, hk4, hl4, hd4, hs4⟩ := fin none W3 hs3
        exact ⟨_, _, hr, .inl ⟨rfl, ⟨hI _ _ _ hi3 (hk4.mono fun k h => hput h), hl4, hd4⟩, hs4⟩⟩
      | ret =>
        obtain ⟨hs3, hi3⟩ := hp
        obtain ⟨W4, hr, hk4, hl4, hd4, hs4⟩ := fin (some .ret) W3 hs3
        exact ⟨_, _, hr, .inr ⟨rfl, none, hIx _ _ _ _ hi3 (hk4.mono fun k h => hput h), hl4, hd4⟩⟩
      | exit k =>
        obtain ⟨hs3, hi3⟩ := hp
        obtain ⟨W4, hr, hk4, hl4, hd4, hs4⟩ := fin (some (.exit k)) W3 hs3
        exact ⟨_, _, hr, .inr ⟨rfl, some k, hIx _ _ _ _ hi3 (hk4.mono fun k h => hput h), hl4, hd4⟩⟩
      | goto t => exact hp.elim
      | panic ch => exact hp.elim
      | outgrown => exact hp.elim
    | _ => exact q.elim
  · -- behind the iterator
    rintro e W2 ⟨⟨v, rfl⟩, (⟨hi, hl, hk⟩ | ⟨pre, c, hi, hl, hk⟩)⟩
    · have hend := run_endLoop (P := P) hl (by rw [hrec]; simp)
      rw [hrec] at hend
      exact ⟨none, _, hend, ⟨_, ham, hdone _ (hI _ _ _ hi ((kept_putObj _ _ _).mono fun k h => hput h)) ((World.putObj_heap_other (by omega)).trans hk)⟩⟩
    · have hend : (Instr.endLoop (w.heap.size + 1)).run P W2 = .ok (some (jumpOf c)) (W2.putObj (w.heap.size + 1) (.loop { rec .done (some (jumpOf c)) with state := .exhausted })) := by
        have := run_endLoop (P := P) hl (by rw [hrec]; simp)
        rw [this, hrec]
      have hIx4 := hIx c _ _ _ hi ((kept_putObj W2 (w.heap.size + 1) (.loop { rec .done (some (jumpOf c)) with state := .exhausted })).mono fun k h => hput h)
      have hd4 : (W2.putObj (w.heap.size + 1) (.loop { rec .done (some (jumpOf c)) with state := .exhausted })).heap[w.heap.size]? = some (.deferred (some [])) := (World.putObj_heap_other (by omega)).trans hk
      have hs := hstop c pre _ hIx4 hd4
      refine ⟨some (jumpOf c), _, hend, ?_⟩
      cases c with
      | none => exact wpIn_ret ⟨_, ham, hs⟩
      | some k => exact wpIn_exit ⟨_, ham, hs⟩

/-- A call of yield. -/
theorem RW.yield {r : Option Nat} {ops : Array Oper} {rest : List Oper} {d : Nat} {ty : TypeId} {pos : String} {af : Array Edge} {l : Nat} {x : Operand} {xs : List Operand} {vs : List Value} {at' : Array TypeId} {R : Ending → World → Prop}
    (hf : f.ev x = some (.func (.yield l) #[] #[])) (hv : f.evs xs = some vs) (hd : Nat.blt d f.n = true) (h : YieldAt Fence.wide 0 P l vs.toArray w R)
    (hq : ∀ e w', R e w' → match e with
      | .returned v => RW (some r) P ops Q rest (f.put d v) w'
      | .panicked chain => Q (.panic chain) f w'
      | .outgrown => False) : RW (some r) P ops Q (op1 d (.call { callee := .value x, args := xs.toArray, argTypes := at' }) ty pos af :: rest) f w := by
  intro a ha
  obtain ⟨fn, tmps, assign, body, hy, hr⟩ := h
  refine lwp_plain rfl fun K hK => ?_
  have hrun : (execOp a.eval (op1 d (.call { callee := .value x, args := xs.toArray, argTypes := at' }) ty pos af)).run P w = .ok (.round l fn tmps assign body) w := by
    have h1 := ha.eval hf
    have h2 := ha.evs xs vs hv
    simp [execOp, resolve, h1, Deferred.ofValue, h2, invoke, hy]
  refine ⟨fun _ _ => trivial, ?_⟩
  rw [show (Rd1 r).round = r from rfl, Oper.semAt_eq r _ _ (by intro c; simp), hrun, Oper.uponIn_round]
  refine ⟨fun c => by simp [Fence.wide] at c, (show RoundIn (Rd1 r) (0 - 1) P l fn tmps assign body w _ from hr).mono fun e w' hR => ?_⟩
  have q := hq e w' hR
  cases e with
  | returned v => exact hK _ _ (q _ (ha.put v hd))
  | panicked ch => exact ⟨f, ha, q⟩
  | outgrown => exact q.elim

/-- The entry of a function by the rules of a fence. -/
theorem enterI {k n : Nat} {fn : Func} {c : Code} {l : List Value} {R : Ending → World → Prop} (hf : P.funcs[k]? = some fn) (hn : fn.ntmps = n) (hb : fn.body = some c)
    (hl : Nat.ble l.length n = true) (h : CL (some none) P (FQ P fn R) [c] ⟨n, [], args 0 l⟩ w) : Calls P k l.toArray w R := by
  refine calls_of_wp hf hb ((wpIn_wide (n := 0)).1 (wpIn_mono (show Code.wpIn Fence.wide 0 P c _ _ w from CL.one h _ ⟨?_, rfl, ?_⟩) fun e a w q => ?_))
  · have := ble_le hl
    simp [hn]; omega
  · intro t v hv
    obtain ⟨_, h2⟩ := look_args l 0 t v hv
    rw [Nat.sub_zero] at h2
    have hlt : t < l.length := (List.getElem?_eq_some_iff.1 h2).1
    simp only [Array.getD_eq_getD_getElem?]
    rw [Array.getElem?_append_left (by simpa using hlt)]
    simp [h2]
  · obtain ⟨f, hf', q⟩ := q
    cases e with
    | normal => obtain ⟨hd, v, hv, hR⟩ := q; exact ⟨hf'.defers.trans hd, v, hv a hf', hR⟩
    | ret => obtain ⟨hd, v, hv, hR⟩ := q; exact ⟨hf'.defers.trans hd, v, hv a hf', hR⟩
    | panic ch => exact ⟨hf'.defers.trans q.1, q.2⟩
    | exit k => exact q.elim
    | goto l => exact q.elim
    | outgrown => exact q.elim

/-- The end of a body that may hold a range over a function: no deferred calls; or the one mark. -/
def MQ (P : Program) (fn : Func) (R : Ending → World → Prop) : Post
  | .normal, f, w | .ret, f, w =>
    (f.ds = [] ∧ ∃ v, (∀ a, Ag f a → (results fn a.tmps).run P w = .ok v w) ∧ R (.returned v) w) ∨
    ∃ D, f.ds = [markOf D] ∧ w.heap[D]? = some (.deferred (some [])) ∧ ∀ w', Kept (fun k => k = D) w w' → ∃ v, (∀ a, Ag f a → (results fn a.tmps).run P w' = .ok v w') ∧ R (.returned v) w'
  | .panic chain, f, w => f.ds = [] ∧ R (.panicked chain) w
  | _, _, _ => False
theorem enterM {k n : Nat} {fn : Func} {c : Code} {l : List Value} {R : Ending → World → Prop} (hf : P.funcs[k]? = some fn) (hn : fn.ntmps = n) (hb : fn.body = some c)
    (hl : Nat.ble l.length n = true) (h : CL none P (MQ P fn R) [c] ⟨n, [], args 0 l⟩ w) : Calls P k l.toArray w R := by
  refine callsIn_wide.1 (callsIn_of_wp_marks (n := 0) (F := Fence.wide) hf hb trivial (wpIn_mono (wpIn_wide.2 (show Code.wp P c _ _ w from CL.one h _ ⟨?_, rfl, ?_⟩)) fun e a w q => ?_))
  · have := ble_le hl
    simp [hn]; omega
  · intro t v hv
    obtain ⟨_, h2⟩ := look_args l 0 t v hv
    rw [Nat.sub_zero] at h2
    have hlt : t < l.length := (List.getElem?_eq_some_iff.1 h2).1
    simp only [Array.getD_eq_getD_getElem?]
    rw [Array.getElem?_append_left (by simpa using hlt)]
    simp [h2]
  · obtain ⟨f, hf', q⟩ := q
    have ret : MQ P fn R .ret f w → LeavesInM Fence.wide 0 P fn a.tmps R a.defers .returning w := by
      rintro (⟨hd, v, hv, hR⟩ | ⟨D, hd, hD, hr⟩)
      · rw [hf'.defers, hd]
        exact ⟨v, hv a hf', hR⟩
      · rw [hf'.defers, hd]
        obtain ⟨v, hv, hR⟩ := hr _ (kept_putObj w D (.deferred none))
        exact ⟨by simp, .inl ⟨D, _, rfl, run_takeDeferred hD, ⟨v, hv a hf', hR⟩⟩⟩
    cases e with
    | normal => exact ret q
    | ret => exact ret q
    | panic ch =>
      show LeavesInM Fence.wide 0 P fn a.tmps R a.defers (.panicking ch) w
      rw [hf'.defers, q.1]
      exact q.2
    | exit k => exact q.elim
    | goto l => exact q.elim
    | outgrown => exact q.elim
end
end Go.Proofs.YtjfdhafmbcppjaaGreatDoor.H

namespace Go.Proofs.YtjfdhafmbcppjaaGreatDoor.H
open Go.RowKit
section
variable {M : Option (Option Nat)} {P : Program} {ops : Array Oper} {Q : Post} {rest : List Oper} {f : Fr} {w : World} {d : Nat} {ty : TypeId} {pos : String} {af : Array Edge}
theorem wrapu8_id {z : Int} (h1 : 0 ≤ z) (h2 : z < 256) : IntKind.u8.wrap z = z := by rw [wrapu8]; omega
theorem wrapu16_id {z : Int} (h1 : 0 ≤ z) (h2 : z < 65536) : IntKind.u16.wrap z = z := by
  have : IntKind.u16.wrap z = z % 65536 := by simp [IntKind.wrap, IntKind.bits, IntKind.signed]
  rw [this]; omega
theorem wrapu32_id {z : Int} (h1 : 0 ≤ z) (h2 : z < 4294967296) : IntKind.u32.wrap z = z := by rw [wrapu32]; omega
section arith
variable {t yt : TypeId} {x y : Operand} {a b : Int} {k : IntKind}
theorem Y.remP (hx : f.ev x = some (.int k a)) (hy : f.ev y = some (.int k b)) (h0 : 0 ≤ a) (h1 : 0 < b) : Yd P f (op1 d (.binOp .rem t x y yt) ty pos af) (.int k (a % b)) w := by
  have h := Y.rem (P := P) (w := w) (d := d) (ty := ty) (pos := pos) (af := af) (t := t) (yt := yt) hx hy (by omega)
  rw [Int.tmod_eq_emod_of_nonneg h0] at h
  exact h
theorem Y.quoP (hx : f.ev x = some (.int k a)) (hy : f.ev y = some (.int k b)) (h0 : 0 ≤ a) (h1 : 0 < b) (hw : k.wrap (a / b) = a / b) : Yd P f (op1 d (.binOp .quo t x y yt) ty pos af) (.int k (a / b)) w := by
  have h := Y.quo (P := P) (w := w) (d := d) (ty := ty) (pos := pos) (af := af) (t := t) (yt := yt) hx hy (by omega)
  rw [Int.tdiv_eq_ediv_of_nonneg h0, hw] at h
  exact h
theorem Y.addN (hx : f.ev x = some (.int k a)) (hy : f.ev y = some (.int k b)) (hw : k.wrap (a + b) = a + b) : Yd P f (op1 d (.binOp .add t x y yt) ty pos af) (.int k (a + b)) w := by
  have h := Y.add (P := P) (w := w) (d := d) (ty := ty) (pos := pos) (af := af) (t := t) (yt := yt) hx hy
  rw [hw] at h
  exact h
theorem Y.subN (hx : f.ev x = some (.int k a)) (hy : f.ev y = some (.int k b)) (hw : k.wrap (a - b) = a - b) : Yd P f (op1 d (.binOp .sub t x y yt) ty pos af) (.int k (a - b)) w := by
  have h := Y.sub (P := P) (w := w) (d := d) (ty := ty) (pos := pos) (af := af) (t := t) (yt := yt) hx hy
  rw [hw] at h
  exact h
theorem Y.mulN (hx : f.ev x = some (.int k a)) (hy : f.ev y = some (.int k b)) (hw : k.wrap (a * b) = a * b) : Yd P f (op1 d (.binOp .mul t x y yt) ty pos af) (.int k (a * b)) w := by
  have h := Y.mul (P := P) (w := w) (d := d) (ty := ty) (pos := pos) (af := af) (t := t) (yt := yt) hx hy
  rw [hw] at h
  exact h
end arith
section same
variable {t yt : TypeId} {x y : Operand}
theorem Y.eqsS {a : List UInt8} (hx : f.ev x = some (.string (B a))) (hy : f.ev y = some (.string (B a))) : Yd P f (op1 d (.binOp .eql t x y yt) ty pos af) (.bool true) w := by
  have := Y.eqs (P := P) (w := w) (d := d) (t := t) (yt := yt) (ty := ty) (pos := pos) (af := af) hx hy
  simpa using this
theorem Y.nesS {a : List UInt8} (hx : f.ev x = some (.string (B a))) (hy : f.ev y = some (.string (B a))) : Yd P f (op1 d (.binOp .neq t x y yt) ty pos af) (.bool false) w := by
  have := Y.nes (P := P) (w := w) (d := d) (t := t) (yt := yt) (ty := ty) (pos := pos) (af := af) hx hy
  simpa using this
theorem Y.eqiS {k : IntKind} {a : Int} (hx : f.ev x = some (.int k a)) (hy : f.ev y = some (.int k a)) : Yd P f (op1 d (.binOp .eql t x y yt) ty pos af) (.bool true) w := by
  have := Y.eqi (P := P) (w := w) (d := d) (t := t) (yt := yt) (ty := ty) (pos := pos) (af := af) hx hy
  simpa using this
theorem Y.neiS {k : IntKind} {a : Int} (hx : f.ev x = some (.int k a)) (hy : f.ev y = some (.int k a)) : Yd P f (op1 d (.binOp .neq t x y yt) ty pos af) (.bool false) w := by
  have := Y.nei (P := P) (w := w) (d := d) (t := t) (yt := yt) (ty := ty) (pos := pos) (af := af) hx hy
  simpa using this
theorem Y.eqbS [ht : Und P t .bool] {a : Bool} (hx : f.ev x = some (.bool a)) (hy : f.ev y = some (.bool a)) : Yd P f (op1 d (.binOp .eql t x y yt) ty pos af) (.bool true) w := by
  have := Y.eqb (P := P) (w := w) (d := d) (t := t) (yt := yt) (ty := ty) (pos := pos) (af := af) hx hy
  simpa using this
end same
theorem zip_parts : ∀ (vs : List Value) (k : Nat) (ps : List (Nat × Operand)), ps.map (·.1) = List.range' k vs.length → ((ps.map (·.1)).zip vs) = (vs.zipIdx k).map fun p => (p.2, p.1) := by
  intro vs
  induction vs with
  | nil => intro k ps h; simp
  | cons v r ih =>
    intro k ps h
    cases ps with
    | nil => simp at h
    | cons p ps =>
      simp only [List.map_cons, List.length_cons, List.range'_succ, List.cons.injEq] at h
      have := ih (k + 1) ps h.2
      simp only [List.map_cons, List.zip_cons_cons, List.zipIdx_cons, this, h.1]
/-- A slice literal of any length. -/
theorem RW.buildL {t e n : TypeId} {z : Value} {sz b : Nat} [ht : Und P t (.slice e)] [Inf P e z sz b] {ps : List (Nat × Operand)} {l : List Value} (hx : f.evs (ps.map (·.2)) = some l) (hp : ps.map (·.1) = List.range' 0 l.length) (hn : l.length = n) (hu : ∀ v ∈ l, v.cells.size = sz) (hs : Nat.ble (n * sz) 16777216 = true) (hd : Nat.blt d f.n = true)
    (k : ∀ w', w'.heap[w.heap.size]? = some (.cells (catCells l).toArray e (0, 0)) → K0 w w' → w.heap.size < w'.heap.size → RW M P ops Q rest (f.put d (.slice (some ⟨w.heap.size, 0, none⟩) n n)) w') : RW M P ops Q (op1 d (.buildSlice t n ps.toArray) ty pos af :: rest) f w := by
  subst hn
  refine RW.val rfl rfl hd (fun a ha => ?_) (k (w.alloc (.cells _ e)) (heap_alloc_new w _) (Kept.alloc w _) (by simp))
  have hev := ha.evs _ l hx
  have hps : (ps.toArray.map fun (p : Nat × Operand) => (p.1, a.eval p.2)) = ((ps.map (·.1)).zip l).toArray := by
    rw [← hev]
    apply Array.ext'
    simp only [List.map_toArray, List.map_map]
    clear hx hp hu hs hev k
    induction ps with
    | nil => rfl
    | cons p ps ih => simpa using ih
  have := run_buildSlice (P := P) (w := w) (t := t) (z := z) (sz := sz) (b := b) l ((ps.map (·.1)).zip l).toArray (zip_parts l 0 ps hp) hu (by simpa using ble_le hs)
  simp only [execOp]
  rw [show (ps.toArray.map fun (x : Nat × Operand) => match x with | (i, x) => (i, a.eval x)) = ((ps.map (·.1)).zip l).toArray from hps, Sem.run_bind, this]
  rfl
end
end Go.Proofs.YtjfdhafmbcppjaaGreatDoor.H

namespace Go.Proofs.YtjfdhafmbcppjaaGreatDoor.H
open Go.RowKit
/-- What a list of results reads as. -/
def RS (P : Program) (f : Fr) (w : World) : List ResultVar → List Value → Prop
  | [], [] => True
  | .tmp t :: rs, v :: vs => look f.e t = some v ∧ RS P f w rs vs
  | .cell t u :: rs, v :: vs => (∃ p, look f.e t = some (.pointer (some p)) ∧ (loadVar u p).run P w = .ok v w) ∧ RS P f w rs vs
  | _, _ => False
section
variable {P : Program} {f : Fr} {w : World}
theorem load_one {u : TypeId} [h : One P u] {p : Addr} {v : Value} (hc : w.cell? p = some v) : (loadVar u p).run P w = .ok v w := by
  simp [loadVar, h.agg, load, Sem.run, hc]
theorem load_many {u : TypeId} {n : Nat} [h : Many P u n] {a : Addr} {cs : List Value} (hl : cs.length = n) (hc : ∀ j v, cs[j]? = some v → w.cell? (a.add j) = some v) : (loadVar u a).run P w = .ok (.agg cs.toArray) w := by
  have hr := run_loadCells_list (P := P) w a cs hc
  rw [hl] at hr
  simp [loadVar, h.agg, h.size, hr]
theorem load_block {u : TypeId} {n : Nat} [h : Many P u n] {g : Nat} {cs : List Value} {e : TypeId} {fz : Nat × Nat} (hb : w.heap[g]? = some (.cells cs.toArray e fz)) (hl : cs.length = n) : (loadVar u ⟨g, 0, none⟩).run P w = .ok (.agg cs.toArray) w :=
  load_many hl fun j v hv => by
    rw [addr_add, Nat.zero_add, cell_row (off := 0) hb]
    simpa using hv
theorem load_block1 {u : TypeId} [h : One P u] {g : Nat} {v : Value} {e : TypeId} {fz : Nat × Nat} (hb : w.heap[g]? = some (.cells #[v] e fz)) : (loadVar u ⟨g, 0, none⟩).run P w = .ok v w :=
  load_one (by rw [cell_row (off := 0) hb]; rfl)
abbrev rsM (tmps : Array Value) (r : ResultVar) : Sem Value := match r with
  | .tmp t => pure (tmps.getD t undef)
  | .cell t u => do loadVar u (← asAddr (tmps.getD t undef))
theorem rs_run {a : Act} (ha : Ag f a) : ∀ (rs : List ResultVar) (vs : List Value), RS P f w rs vs → (rs.mapM (rsM a.tmps)).run P w = .ok vs w := by
  intro rs
  induction rs with
  | nil => intro vs h; cases vs with | nil => rfl | cons => exact h.elim
  | cons r rs ih =>
    intro vs h
    cases vs with
    | nil => cases r <;> exact h.elim
    | cons v vs =>
      have h1 : (rsM a.tmps r).run P w = .ok v w := by
        cases r with
        | tmp t => simp only [rsM]; rw [ha.slot t v h.1]; rfl
        | cell t u =>
          obtain ⟨⟨p, hp, hl⟩, h2⟩ := h
          simp only [rsM]
          rw [ha.slot t _ hp]
          simp [asAddr, hl]
      have h2 := ih vs (by cases r <;> exact h.2)
      simp only [List.mapM_cons, Sem.run_bind, h1, Result.andThen, h2]
      rfl
theorem results_list {fn : Func} {rs : List ResultVar} {vs : List Value} (hr : fn.results = rs.toArray) (h : RS P f w rs vs) {a : Act} (ha : Ag f a) : (results fn a.tmps).run P w = .ok (if h : vs.toArray.size = 1 then vs.toArray[0] else .tuple vs.toArray) w := by
  have h2 := rs_run ha rs vs h
  have e : (fn.results.mapM (rsM a.tmps)).run P w = .ok vs.toArray w := by
    rw [hr, List.mapM_toArray]
    show (List.toArray <$> rs.mapM (rsM a.tmps)).run P w = _
    rw [map_eq_pure_bind, Sem.run_bind, h2]
    rfl
  unfold results
  rw [Sem.run_bind]
  exact (congrArg (fun (r : Result (Array Value)) => r.andThen fun vs w => (pure (if h : vs.size = 1 then vs[0] else Value.tuple vs) : Sem Value).run P w) e).trans rfl
/-- The end of a body, whatever the results' form. -/
theorem FQ.res {fn : Func} {R : Ending → World → Prop} {rs : List ResultVar} {vs : List Value} (hr : fn.results = rs.toArray) (hd : f.ds = []) (h : RS P f w rs vs) (hn : Nat.beq vs.length 1 = false) (hR : R (.returned (.tuple vs.toArray)) w) : FQ P fn R .ret f w :=
  ⟨hd, _, fun a ha => by rw [results_list hr h ha, dif_neg (by intro c; rw [List.size_toArray] at c; rw [c] at hn; cases hn)], hR⟩
theorem FQ.res1 {fn : Func} {R : Ending → World → Prop} {r : ResultVar} {v : Value} (hr : fn.results = #[r]) (hd : f.ds = []) (h : RS P f w [r] [v]) (hR : R (.returned v) w) : FQ P fn R .ret f w :=
  ⟨hd, _, fun a ha => by rw [results_list (rs := [r]) hr h ha]; rfl, hR⟩
end
end Go.Proofs.YtjfdhafmbcppjaaGreatDoor.H

namespace Go.Proofs.YtjfdhafmbcppjaaGreatDoor.S
open Go.RowKit H
attribute [local irreducible] H.CL H.RW H.CW H.Yd H.thenK H.blockQ Go.Calls

/-- What stands ahead of the first c, and behind it. -/
def cutB (c : UInt8) (l : List UInt8) : List UInt8 × List UInt8 × Bool :=
  if idx c l < 0 then (l, [], false) else (l.take (idx c l).toNat, l.drop ((idx c l).toNat + 1), true)
theorem idx_lt (c : UInt8) (l : List UInt8) : idx c l < l.length ∨ idx c l < 0 := by
  rcases split_idx c l with ⟨h, _⟩ | ⟨m, h, h2, _⟩
  · right; rw [idx, h]; decide
  · left; rw [idx, h]; omega
def cutV (p : List UInt8 × List UInt8 × Bool) : Value := .tuple #[vs p.1, vs p.2.1, .bool p.2.2]

theorem sliteCut (l : List UInt8) (c : UInt8) (hl : l.length ≤ 1000000000000) (w : World) : Calls Tryz.prog 102 #[vs l, vs [c]] w fun e w' => K0 w w' ∧ e = .returned (cutV (cutB c l)) := by
  refine H.enter Tryz.func102 Tryz.ntmps102 rfl rfl ?_; dsimp only [H.args]
  repeat' (first | (refine CL.seq ?_) | (refine CL.region ?_) | (refine Gt.nil ?_; refine RW.nilw [0, 1, 4, 5, 6, 7, 12] ?_; dsimp only [H.keep, H.look, H.Fr.put, Nat.beq]) | (refine Gt.assign ?_; refine RW.y (Y.assign rfl) rfl ?_) | (refine Gt.move ?_; refine RW.y (Y.move rfl) rfl ?_))
  refine RW.fn rfl rfl ((sliteIndex l c w).mono ?_)
  rintro e w' ⟨rfl, rfl⟩
  have h1 := idx_lt c l
  have h2 : -1 ≤ idx c l := idx_ge c l
  have hc1 : ([c] : List UInt8).length = 1 := rfl
  unfold cutB
  by_cases h : idx c l < 0
  · rw [if_pos h]
    repeat' (first | (refine CL.seq ?_) | (refine CL.region ?_) | (refine CL.skip ?_) | (refine CL.condP rfl (fun _ => ?_) (fun _ => ?_) <;> try (exfalso; omega)) | (refine CL.ret ?_) | (refine Gt.nil ?_; refine RW.nilw [0, 1, 4, 5, 6, 7, 12] ?_; dsimp only [H.keep, H.look, H.Fr.put, Nat.beq]) | (refine Gt.assign ?_; refine RW.y (Y.assign rfl) rfl ?_) | (refine Gt.move ?_; refine RW.y (Y.move rfl) rfl ?_) | (refine Gt.geq ?_; refine RW.y (Y.geq rfl rfl) rfl ?_))
    exact FQ.res (rs := [.tmp 4, .tmp 5, .tmp 6]) (vs := [_, _, _]) rfl rfl ⟨rfl, rfl, rfl, trivial⟩ rfl (⟨Kept.refl _ _, rfl⟩)
  · rw [if_neg h]
    repeat' (first | (refine CL.seq ?_) | (refine CL.region ?_) | (refine CL.condP rfl (fun _ => ?_) (fun _ => ?_) <;> try (exfalso; omega)) | (refine Gt.nil ?_; refine RW.nilw [0, 1, 4, 5, 6, 7, 12] ?_; dsimp only [H.keep, H.look, H.Fr.put, Nat.beq]) | (refine Gt.assign ?_; refine RW.y (Y.assign rfl) rfl ?_) | (refine Gt.move ?_; refine RW.y (Y.move rfl) rfl ?_) | (refine Gt.geq ?_; refine RW.y (Y.geq rfl rfl) rfl ?_))
    refine CL.draw (fun w' => Kept (fun _ => False) w w') (by kernel_rfl) (fun w1 hheap hk1 => ?_)
    have hS : Kept (fun _ => False) w w1 := hk1
    skip
    refine AW.take 0 rfl (by kernel_rfl) (by kernel_rfl) (by kernel_rfl) rfl (by assumption) (fun w hS => Y.move rfl) ?_
    refine AW.take 1 rfl (by kernel_rfl) (by kernel_rfl) (by kernel_rfl) rfl (by assumption) (fun w hS => Y.move rfl) ?_
    refine AW.take 2 rfl (by kernel_rfl) (by kernel_rfl) (by kernel_rfl) rfl (by assumption) (fun w hS => Y.cuth rfl rfl (by omega) (by omega)) ?_
    refine AW.take 3 rfl (by kernel_rfl) (by kernel_rfl) (by kernel_rfl) rfl (by assumption) (fun w hS => Y.move rfl) ?_
    refine AW.take 4 rfl (by kernel_rfl) (by kernel_rfl) (by kernel_rfl) rfl (by assumption) (fun w hS => Y.move rfl) ?_
    refine AW.take 5 rfl (by kernel_rfl) (by kernel_rfl) (by kernel_rfl) rfl (by assumption) (fun w hS => Y.move rfl) ?_
    refine AW.take 6 rfl (by kernel_rfl) (by kernel_rfl) (by kernel_rfl) rfl (by assumption) (fun w hS => by exact Y.lens rfl) ?_
    refine AW.take 7 rfl (by kernel_rfl) (by kernel_rfl) (by kernel_rfl) rfl (by assumption) (fun w hS => by exact Y.add64 rfl rfl (by omega) (by omega)) ?_
    refine AW.take 8 rfl (by kernel_rfl) (by kernel_rfl) (by kernel_rfl) rfl (by assumption) (fun w hS => Y.cutl rfl rfl (by omega) (by omega)) ?_
    refine AW.take 9 rfl (by kernel_rfl) (by kernel_rfl) (by kernel_rfl) rfl (by assumption) (fun w hS => Y.assign rfl) ?_
    refine AW.take 10 rfl (by kernel_rfl) (by kernel_rfl) (by kernel_rfl) rfl (by assumption) (fun w hS => Y.assign rfl) ?_
    refine AW.take 11 rfl (by kernel_rfl) (by kernel_rfl) (by kernel_rfl) rfl (by assumption) (fun w hS => Y.assign rfl) ?_
    refine AW.donew [4, 5, 6] (by kernel_rfl) ?_
    dsimp only [H.keep, H.look, H.Fr.put, Nat.beq]
    repeat' ((refine CL.ret ?_))
    refine FQ.res (rs := [.tmp 4, .tmp 5, .tmp 6]) (vs := [_, _, _]) rfl rfl ⟨rfl, rfl, rfl, trivial⟩ rfl (⟨hk1, ?_⟩)
    rw [cutV, show (idx c l + (([c] : List UInt8).length : Int)).toNat = (idx c l).toNat + 1 from by omega]
theorem cut (l : List UInt8) (c : UInt8) (hl : l.length ≤ 1000000000000) (w : World) : Calls Tryz.prog 84 #[vs l, vs [c]] w fun e w' => K0 w w' ∧ e = .returned (cutV (cutB c l)) := by
  refine H.enter Tryz.func84 Tryz.ntmps84 rfl rfl ?_; dsimp only [H.args]
  repeat' (first | (refine CL.seq ?_) | (refine CL.region ?_) | (refine Gt.nil ?_; refine RW.nilw [0, 1, 4, 5, 6] ?_; dsimp only [H.keep, H.look, H.Fr.put, Nat.beq]) | (refine Gt.assign ?_; refine RW.y (Y.assign rfl) rfl ?_) | (refine Gt.move ?_; refine RW.y (Y.move rfl) rfl ?_))
  refine RW.fn rfl rfl ((sliteCut l c hl w).mono ?_)
  rintro e w' ⟨hk, rfl⟩
  unfold cutV
  repeat' (first | (refine CL.ret ?_) | (refine Gt.nil ?_; refine RW.nilw [0, 1, 4, 5, 6] ?_; dsimp only [H.keep, H.look, H.Fr.put, Nat.beq]) | (refine Gt.assign ?_; refine RW.y (Y.assign rfl) rfl ?_) | (refine Gt.extract ?_; refine RW.y (Y.extract rfl rfl) rfl ?_))
  exact FQ.res (rs := [.tmp 4, .tmp 5, .tmp 6]) (vs := [_, _, _]) rfl rfl ⟨rfl, rfl, rfl, trivial⟩ rfl (⟨hk, rfl⟩)
end Go.Proofs.YtjfdhafmbcppjaaGreatDoor.S

namespace Go.Proofs.YtjfdhafmbcppjaaGreatDoor.Sp
open Go.Proofs.YtjfdhafmbcppjaaGreatDoor.S Go.Proofs.YtjfdhafmbcppjaaGreatDoor.Ve
structure Bd where
  sign : T
  v : Ver
instance : Inhabited Bd := ⟨⟨[], default⟩⟩
structure Spn where
  any : Bool
  or : List (List Bd)
instance : Inhabited Spn := ⟨⟨false, []⟩⟩

/-- The words: what stands between spaces. -/
def wordsB (s : T) : List T := (splitB 32 s).filter (fun x => decide (x ≠ []))
/-- What stands between two bars. -/
def orB : T → List T
  | [] => [[]]
  | [a] => [[a]]
  | a :: b :: r => if a = 124 ∧ b = 124 then [] :: orB r else (a :: (orB (b :: r)).headD []) :: (orB (b :: r)).tail
def signOf (w : T) : T :=
  if w.take 2 = [60, 61] ∨ w.take 2 = [62, 61] then w.take 2
  else if w.take 1 = [60] ∨ w.take 1 = [62] ∨ w.take 1 = [61] ∨ w.take 1 = [94] ∨ w.take 1 = [126] then w.take 1 else []
def expand (g : T) (v : Ver) : List Bd :=
  if g = [] then [⟨[61], v⟩]
  else if g = [94] then [⟨[62, 61], v⟩, ⟨[60], nextV v (if 0 < v.a then 0 else if 0 < v.b then 1 else 2)⟩]
  else if g = [126] then [⟨[62, 61], v⟩, ⟨[60], nextV v 1⟩]
  else [⟨g, v⟩]
def boundsB (w : T) : Option (List Bd) := (parseV (cutB 45 (w.drop (signOf w).length))).map (expand (signOf w))
/-- Words read, behind bounds. -/
def rdW : List T → List Bd → Option (List Bd)
  | [], acc => some acc
  | x :: r, acc => match boundsB x with
    | none => none
    | some b => rdW r (acc ++ b)
def listB (x : T) : Option (List Bd) := if 1 ≤ (wordsB x).length ∧ (wordsB x).length ≤ 8 then rdW (wordsB x) [] else none
def rdL : List T → List (List Bd) → Option (List (List Bd))
  | [], acc => some acc
  | x :: r, acc => match listB x with
    | none => none
    | some b => rdL r (acc ++ [b])
/-- The same, refused as soon as it is too long. -/
def rdP : List T → List (List Bd) → Option (List (List Bd))
  | [], acc => some acc
  | x :: r, acc => if acc.length = 8 then none else match listB x with
    | none => none
    | some b => rdP r (acc ++ [b])
def spanB (s : T) : Option Spn :=
  if wordsB s = [[42]] then some ⟨true, []⟩
  else if (orB s).length ≤ 8 then (rdL (orB s) []).map (⟨false, ·⟩) else none
def spanR (o : Option Spn) : Spn × Int := match o with
  | none => (⟨false, []⟩, 61)
  | some v => (v, 0)

theorem rdP_rdL : ∀ (l : List T) (acc : List (List Bd)), acc.length ≤ 8 → rdP l acc = if acc.length + l.length ≤ 8 then rdL l acc else none := by
  intro l
  induction l with
  | nil => intro acc h; simp [rdP, rdL, h]
  | cons x r ih =>
    intro acc h
    rw [rdP]
    by_cases h8 : acc.length = 8
    · rw [if_pos h8, if_neg (by simp; omega)]
    · rw [if_neg h8]
      cases hb : listB x with
      | none => simp [rdL, hb]
      | some b =>
        simp only
        rw [ih _ (by simp; omega)]
        simp only [rdL, hb, List.length_append, List.length_cons, List.length_nil]
        have : (acc.length + (0 + 1) + r.length ≤ 8) = (acc.length + (r.length + 1) ≤ 8) := by apply propext; omega
        simp only [this]
theorem spanB_P (s : T) : spanB s = if wordsB s = [[42]] then some ⟨true, []⟩ else (rdP (orB s) []).map (⟨false, ·⟩) := by
  rw [spanB, rdP_rdL _ _ (by simp)]
  split
  · rfl
  · simp only [List.length_nil, Nat.zero_add]
    split <;> rfl

/-! Words. -/
theorem splitB_snocL (c : UInt8) : ∀ (x r : T), c ∉ x → splitB c (x ++ c :: r) = x :: splitB c r := by
  intro x r h
  induction x with
  | nil => simp [splitB]
  | cons a x ih =>
    have ha : ¬ a = c := fun e => h (by simp [e])
    rw [List.cons_append, splitB, if_neg ha, ih (fun e => h (by simp [e]))]
    simp
theorem splitB_no (c : UInt8) : ∀ (x : T), c ∉ x → splitB c x = [x] := by
  intro x h
  induction x with
  | nil => rfl
  | cons a x ih =>
    have ha : ¬ a = c := fun e => h (by simp [e])
    rw [splitB, if_neg ha, ih (fun e => h (by simp [e]))]
    simp
theorem wordsB_nil : wordsB [] = [] := rfl
theorem wordsB_sp (r : T) : wordsB (32 :: r) = wordsB r := by simp [wordsB, splitB]
theorem wordsB_word (x r : T) (h : (32 : UInt8) ∉ x) (h0 : x ≠ []) : wordsB (x ++ 32 :: r) = x :: wordsB r := by
  rw [wordsB, splitB_snocL 32 x r h, List.filter_cons, if_pos (by simpa using h0), wordsB]
theorem wordsB_last (x : T) (h : (32 : UInt8) ∉ x) (h0 : x ≠ []) : wordsB x = [x] := by
  rw [wordsB, splitB_no 32 x h]; simp [h0]
theorem wordsB_len (s : T) : ∀ x ∈ wordsB s, x.length ≤ s.length ∧ x ≠ [] := by
  intro x hx
  rw [wordsB, List.mem_filter] at hx
  exact ⟨splitB_mem_len 32 s x hx.1, by simpa using hx.2⟩
theorem wordsB_num (s : T) : (wordsB s).length ≤ s.length + 1 := by
  have h2 := splitB_len 32 s
  have h3 : s.count 32 ≤ s.length := List.count_le_length
  exact Nat.le_trans (List.length_filter_le _ _) (by omega)

/-! Lists. -/
theorem orB_ne (s : T) : orB s ≠ [] := by
  induction s using orB.induct with
  | case1 => simp [orB]
  | case2 => simp [orB]
  | case3 a b r h => rw [orB, if_pos h]; simp
  | case4 a b r h => rw [orB, if_neg h]; simp
theorem orB_cons (a : UInt8) (s : T) (h : ¬ (a = 124 ∧ s.take 1 = [124])) : orB (a :: s) = (a :: (orB s).headD []) :: (orB s).tail := by
  cases s with
  | nil => simp [orB]
  | cons b r => rw [orB, if_neg (by simpa using h)]
theorem orB_bars (r : T) : orB (124 :: 124 :: r) = [] :: orB r := by rw [orB, if_pos ⟨rfl, rfl⟩]
theorem orB_len : ∀ (s : T), (orB s).length ≤ s.length + 1 := by
  intro s
  induction s using orB.induct with
  | case1 => simp [orB]
  | case2 => simp [orB]
  | case3 a b r h ih => rw [orB, if_pos h]; simp; omega
  | case4 a b r h ih => rw [orB, if_neg h]; simp at ih ⊢; omega
theorem orB_mem : ∀ (s : T), ∀ x ∈ orB s, x.length ≤ s.length := by
  intro s
  induction s using orB.induct with
  | case1 => simp [orB]
  | case2 => simp [orB]
  | case3 a b r h ih =>
    rw [orB, if_pos h]
    intro x hx
    rcases List.mem_cons.1 hx with rfl | hx
    · simp
    · have := ih x hx; simp; omega
  | case4 a b r h ih =>
    rw [orB, if_neg h]
    intro x hx
    rcases List.mem_cons.1 hx with rfl | hx
    · cases ho : orB (b :: r) with
      | nil => simp
      | cons y m => have := ih y (by rw [ho]; simp); simp at this ⊢; omega
    · have := ih x (List.mem_of_mem_tail hx); simp at this ⊢; omega

theorem occ_iff (s : T) (i : Nat) : Go.Lib.occAt s [124, 124] i = true ↔ (s.drop i).take 2 = [124, 124] := by
  rw [Go.Lib.occAt]
  cases h : s.drop i with
  | nil => simp
  | cons a m => cases m with
    | nil => simp
    | cons b m =>
      simp [List.isPrefixOf]
      constructor <;> (rintro ⟨h1, h2⟩; exact ⟨h1.symm, h2.symm⟩)

theorem orB_first : ∀ (i : Nat) (s : T), i ≤ s.length → (∀ j, j < i → ¬ (s.drop j).take 2 = [124, 124]) → (s.drop i).take 2 = [124, 124] → orB s = s.take i :: orB (s.drop (i + 2)) := by
  intro i
  induction i with
  | zero =>
    intro s _ _ h
    match s, h with
    | a :: b :: r, h =>
      simp at h
      obtain ⟨rfl, rfl⟩ := h
      rw [orB_bars]; simp
  | succ i ih =>
    intro s hl hn h
    match s, hl with
    | a :: r, hl =>
      have h1 := ih r (by simpa using hl) (fun j hj => by have := hn (j + 1) (by omega); simpa using this) (by simpa using h)
      have h0 := hn 0 (by omega)
      rw [orB_cons a r (by intro ⟨ha, hb⟩; apply h0; cases r with | nil => simp at hb | cons b r => simp at hb ⊢; exact ⟨ha, hb⟩), h1]
      simp
theorem orB_none : ∀ (s : T), (∀ j, j ≤ s.length → ¬ (s.drop j).take 2 = [124, 124]) → orB s = [s] := by
  intro s
  induction s with
  | nil => intro _; rfl
  | cons a r ih =>
    intro hn
    have h0 := hn 0 (by omega)
    rw [orB_cons a r (by intro ⟨ha, hb⟩; apply h0; cases r with | nil => simp at hb | cons b r => simp at hb ⊢; exact ⟨ha, hb⟩), ih (fun j hj => by have := hn (j + 1) (by simp; omega); simpa using this)]
    simp
/-- The library's search for two bars, and what is parted there. -/
theorem orB_index (s : T) : (Go.Lib.index s [124, 124] = -1 ∧ orB s = [s]) ∨ ∃ m : Nat, Go.Lib.index s [124, 124] = (m : Int) ∧ m + 2 ≤ s.length ∧ orB s = s.take m :: orB (s.drop (m + 2)) := by
  rcases Go.Lib.index_spec s [124, 124] with ⟨h, hn⟩ | ⟨i, h, hi, ho, hn⟩
  · exact .inl ⟨h, orB_none s fun j hj c => by have := hn j hj; rw [(occ_iff s j).2 c] at this; cases this⟩
  · have h2 := (occ_iff s i).1 ho
    refine .inr ⟨i, h, ?_, orB_first i s hi (fun j hj c => by have := hn j hj; rw [(occ_iff s j).2 c] at this; cases this) h2⟩
    have := congrArg List.length h2
    simp at this
    omega

/-! Texts, what is had, the best. -/
def bdT (b : Bd) : T := (if b.sign = [61] then [] else b.sign) ++ textV b.v
def listT (l : List Bd) : T := Go.Lib.join (l.map bdT) [32]
def spanT (s : Spn) : T := if s.any = true then [42] else Go.Lib.join (s.or.map listT) [32, 124, 124, 32]
def holdsB (b : Bd) (v : Ver) : Bool :=
  if b.sign = [61] then decide (cmpV v b.v = 0)
  else if b.sign = [60] then decide (cmpV v b.v < 0)
  else if b.sign = [60, 61] then decide (cmpV v b.v ≤ 0)
  else if b.sign = [62] then decide (0 < cmpV v b.v)
  else if b.sign = [62, 61] then decide (0 ≤ cmpV v b.v) else false
def nearB (b : Bd) (v : Ver) : Bool := decide (b.v.pre ≠ []) && decide (b.v.a = v.a) && decide (b.v.b = v.b) && decide (b.v.c = v.c)
def hasL (l : List Bd) (v : Ver) : Bool := l.all (fun b => holdsB b v) && (decide (v.pre = []) || l.any (fun b => nearB b v))
def hasB (s : Spn) (v : Ver) : Bool := if s.any = true then decide (v.pre = []) else s.or.any (fun l => hasL l v)
/-- The best of the first i. -/
def bestF (s : Spn) (l : List Ver) : Nat → Int
  | 0 => -1
  | i + 1 => if (hasB s (l.getD i default) && (decide (bestF s l i < 0) || decide (0 < cmpV (l.getD i default) (l.getD (bestF s l i).toNat default)))) = true then (i : Int) else bestF s l i
end Go.Proofs.YtjfdhafmbcppjaaGreatDoor.Sp

namespace Go.Proofs.YtjfdhafmbcppjaaGreatDoor.S
open Go.RowKit H Go.Lib

theorem dec_small {n b0 b1 b2 b3 : Nat} (h : (decodeN n b0 b1 b2 b3).1 = 32) : b0 = 32 := by
  revert h
  unfold decodeN
  repeat' split
  all_goals (simp only; omega)
theorem dec_32 {n b1 b2 b3 : Nat} : decodeN n 32 b1 b2 b3 = (32, 1) := by simp [decodeN]
theorem dec_rest {n b0 b1 b2 b3 : Nat} (h : b0 ≠ 32) : (1 < (decodeN n b0 b1 b2 b3).2 → b1 / 64 = 2) ∧ (2 < (decodeN n b0 b1 b2 b3).2 → b2 / 64 = 2) ∧ (3 < (decodeN n b0 b1 b2 b3).2 → b3 / 64 = 2) ∧ (decodeN n b0 b1 b2 b3).2 ≤ 4 := by
  unfold decodeN
  repeat' split
  all_goals (simp only; omega)
theorem get_at (l : List UInt8) (i : Nat) : (B l).get! i = l.getD i 0 := by
  show (l.toArray)[i]! = _
  simp [List.getD_eq_getElem?_getD, getElem!_def]
  cases l[i]? <;> rfl

/-- No space from a up to b. -/
def NoSp (l : List UInt8) (a b : Nat) : Prop := ∀ i, a ≤ i → i < b → l.getD i 0 ≠ 32
theorem NoSp.not_mem {l : List UInt8} {a b : Nat} (h : NoSp l a b) (hb : b ≤ l.length) : (32 : UInt8) ∉ (l.drop a).take (b - a) := by
  intro hm
  obtain ⟨k, hk, he⟩ := List.getElem_of_mem hm
  simp at hk he
  have := h (a + k) (by omega) (by omega)
  apply this
  rw [List.getD_eq_getElem?_getD, List.getElem?_eq_getElem (by omega)]
  simpa using he
theorem extract_B (l : List UInt8) (a b : Nat) : (B l).extract a b = B ((l.drop a).take (b - a)) := by
  apply ByteArray.ext
  rw [ByteArray.data_extract]
  simp [List.extract_toArray, List.extract_eq_take_drop]

theorem words_end {l : List UInt8} {a : Nat} (h : NoSp l a l.length) (ha : a < l.length) : Sp.wordsB (l.drop a) = [l.drop a] := by
  refine Sp.wordsB_last _ ?_ (by intro c; have := congrArg List.length c; simp at this; omega)
  have := h.not_mem (Nat.le_refl _)
  rwa [List.take_of_length_le (by simp)] at this
theorem words_at {l : List UInt8} {a pos : Nat} (h : NoSp l a pos) (ha : a < pos) (hp : pos < l.length) (h32 : l.getD pos 0 = 32) : Sp.wordsB (l.drop a) = (l.drop a).take (pos - a) :: Sp.wordsB (l.drop (pos + 1)) := by
  have he : l.drop a = (l.drop a).take (pos - a) ++ 32 :: l.drop (pos + 1) := by
    conv => lhs; rw [← List.take_append_drop (pos - a) (l.drop a)]
    rw [List.drop_drop, show a + (pos - a) = pos from by omega, List.drop_eq_getElem_cons hp]
    rw [List.getD_eq_getElem?_getD, List.getElem?_eq_getElem hp] at h32
    simp only [Option.getD_some] at h32
    rw [h32]
  conv => lhs; rw [he]
  refine Sp.wordsB_word _ _ (h.not_mem (by omega)) ?_
  intro c; have := congrArg List.length c; simp at this; omega
theorem words_sp {l : List UInt8} {pos : Nat} (hp : pos < l.length) (h32 : l.getD pos 0 = 32) : Sp.wordsB (l.drop pos) = Sp.wordsB (l.drop (pos + 1)) := by
  rw [List.drop_eq_getElem_cons hp]
  rw [List.getD_eq_getElem?_getD, List.getElem?_eq_getElem hp] at h32
  simp only [Option.getD_some] at h32
  rw [h32, Sp.wordsB_sp]

theorem spans_words (l : List UInt8) : ∀ (f pos : Nat) (st : Option Nat) (acc : List (Nat × Nat)), pos ≤ l.length → l.length ≤ pos + f → (∀ a, st = some a → a < pos ∧ NoSp l a pos) →
    (closeSpans (B l) (spansFromP (fun x => x == 32) (B l) f pos st acc)).map (fun x => (B l).extract x.1 x.2) = acc.map (fun x => (B l).extract x.1 x.2) ++ (Sp.wordsB (l.drop (st.getD pos))).map B := by
  have hsz : (B l).size = l.length := rfl
  have hend : ∀ (f pos : Nat) (st : Option Nat) (acc : List (Nat × Nat)), ¬ pos < l.length → pos ≤ l.length → (∀ a, st = some a → a < pos ∧ NoSp l a pos) →
    (closeSpans (B l) (spansFromP (fun x => x == 32) (B l) f pos st acc)).map (fun x => (B l).extract x.1 x.2) = acc.map (fun x => (B l).extract x.1 x.2) ++ (Sp.wordsB (l.drop (st.getD pos))).map B := by
    intro f pos st acc hn hp hst
    rw [spansFromP_end _ _ _ _ _ _ (by rw [hsz]; exact hn)]
    have he : pos = l.length := by omega
    subst he
    cases st with
    | none => simp [closeSpans, Sp.wordsB, splitB]
    | some a =>
      obtain ⟨h1, h2⟩ := hst a rfl
      simp only [closeSpans, Option.getD_some, hsz]
      rw [List.map_append, words_end h2 h1, List.map_cons, List.map_nil, extract_B, List.take_of_length_le (by simp)]
      simp
  intro f
  induction f with
  | zero => intro pos st acc hp hf hst; exact hend 0 pos st acc (by omega) hp hst
  | succ f ih =>
    intro pos st acc hp hf hst
    by_cases hlt : pos < l.length
    · have hdec := decode_at (B l) pos
      simp only [get_at, hsz] at hdec
      have hle := decodeN_le_n' (l.length - pos) (l.getD pos 0).toNat (l.getD (pos + 1) 0).toNat (l.getD (pos + 2) 0).toNat (l.getD (pos + 3) 0).toNat (by omega)
      have hge := width_pos (B l) pos
      rw [spansFromP.eq_def]
      simp only
      rw [if_pos (by rw [hsz]; exact hlt)]
      by_cases h32 : l.getD pos 0 = 32
      · have hd : Utf8.decode (B l) pos = (32, 1) := by rw [hdec, h32]; exact dec_32
        rw [hd]
        simp only [beq_self_eq_true, if_true]
        cases st with
        | none =>
          simp only
          rw [ih (pos + 1) none acc (by omega) (by omega) (fun a h => by cases h)]
          simp only [Option.getD_none]
          rw [words_sp hlt h32]
        | some a =>
          obtain ⟨h1, h2⟩ := hst a rfl
          simp only
          rw [ih (pos + 1) none _ (by omega) (by omega) (fun a h => by cases h)]
          simp only [Option.getD_none, Option.getD_some]
          rw [words_at h2 h1 hlt h32, List.map_append, List.map_cons, List.map_cons, List.map_nil, extract_B]
          simp
      · have hne : (l.getD pos 0).toNat ≠ 32 := fun c => h32 (UInt8.toNat_inj.1 c)
        have hr := dec_rest (n := l.length - pos) (b1 := (l.getD (pos + 1) 0).toNat) (b2 := (l.getD (pos + 2) 0).toNat) (b3 := (l.getD (pos + 3) 0).toNat) hne
        rw [← hdec] at hr hle
        have hR : ((Utf8.decode (B l) pos).1 == 32) = false := by
          rw [beq_eq_false_iff_ne]; intro c; rw [hdec] at c; exact hne (dec_small c)
        rw [hR]
        simp only [Bool.false_eq_true, if_false]
        obtain ⟨K, hK⟩ : ∃ K, (Utf8.decode (B l) pos).2 = K := ⟨_, rfl⟩
        rw [hK] at hr hle hge ⊢
        have hno : NoSp l pos (pos + K) := by
          intro i h1 h2 c
          have hk : ∀ {j : Nat}, (l.getD j 0).toNat / 64 = 2 → ¬ l.getD j 0 = 32 := fun h c => by rw [c] at h; simp at h
          rcases (by omega : i = pos ∨ i = pos + 1 ∨ i = pos + 2 ∨ i = pos + 3) with rfl | rfl | rfl | rfl
          · exact h32 c
          · exact hk (hr.1 (by omega)) c
          · exact hk (hr.2.1 (by omega)) c
          · exact hk (hr.2.2.1 (by omega)) c
        cases st with
        | none =>
          simp only
          rw [ih (pos + K) (some pos) acc (by omega) (by omega) (fun a h => by cases h; exact ⟨by omega, hno⟩)]
          rfl
        | some a =>
          obtain ⟨h1, h2⟩ := hst a rfl
          simp only
          rw [ih (pos + K) (some a) acc (by omega) (by omega) (fun b h => by cases h; exact ⟨by omega, fun i h3 h4 => by by_cases h5 : i < pos; { exact h2 i h3 h5 }; exact hno i (by omega) h4⟩)]
          rfl
    · exact hend (f + 1) pos st acc hlt hp hst

theorem fields_words (l : List UInt8) : goFieldsP (fun x => x == 32) (B l) = (Sp.wordsB l).map B := by
  have h := spans_words l l.length 0 none [] (Nat.zero_le _) (by omega) (fun a h => by cases h)
  simp only [List.map_nil, List.nil_append, Option.getD_none, List.drop_zero] at h
  exact h
end Go.Proofs.YtjfdhafmbcppjaaGreatDoor.S

namespace Go.Proofs.YtjfdhafmbcppjaaGreatDoor.H
open Go.RowKit
section
variable {M : Option (Option Nat)} {P : Program} {ops : Array Oper} {Q : Post} {rest : List Oper} {f : Fr} {w : World} {d : Nat} {ty : TypeId} {pos : String} {af : Array Edge}
/-- The address of a cell of an array. -/
theorem Y.idxP {t e n : TypeId} {z : Value} {sz b : Nat} [ht : Und P t (.array n e)] [Inf P e z sz b] {x y : Operand} {k : IntKind} {g o : Nat} {i : Int} (hx : f.ev x = some (.pointer (some ⟨g, o, none⟩))) (hy : f.ev y = some (.int k i)) (h0 : 0 ≤ i) (h1 : i < (n : Nat)) :
    Yd P f (op1 d (.indexAddr t x y) ty pos af) (.pointer (some ⟨g, o + i.toNat * sz, none⟩)) w := by
  intro a ha
  have hsz := run_sizeOf (P := P) (t := e) w
  simp [execOp, ha.eval hx, ha.eval hy, Instr.indexAt, asIntOf, run_underlying ht.out, h0, h1, hsz, addr_add, Instr.sureAddr]
theorem Y.loadBlock {t : TypeId} {n : Nat} [h : Many P t n] {x : Operand} {g : Nat} {c : Array Value} {e : TypeId} {fz : Nat × Nat} (hx : f.ev x = some (.pointer (some ⟨g, 0, none⟩))) (hb : w.heap[g]? = some (.cells c e fz)) (hl : Nat.beq c.size n = true) :
    Yd P f (op1 d (.load t x) ty pos af) (.agg c) w := by
  have := Y.loadN (P := P) (f := f) (w := w) (d := d) (ty := ty) (pos := pos) (af := af) (t := t) (cs := c.toList) hx (by simpa using Nat.eq_of_beq_eq_true hl) (fun j v hv => by
    rw [addr_add, Nat.zero_add, cell_row (off := 0) hb]
    simpa using hv)
  simpa using this
/-- A variable of several cells written whole. -/
theorem RW.storeBlock {t : TypeId} {n : Nat} [h : Many P t n] {x y : Operand} {g : Nat} {u : Array Value} {c : Array Value} {e : TypeId} (hx : f.ev x = some (.pointer (some ⟨g, 0, none⟩))) (hy : f.ev y = some (.agg u)) (hu : Nat.beq u.size n = true) (h1 : ∀ z ∈ u.toList, z.oneCell' = true)
    (hb : w.heap[g]? = some (.cells c e (0, 0))) (hj : Nat.beq c.size n = true)
    (k : ∀ w', w'.heap[g]? = some (.cells u e (0, 0)) → Kept (fun k => k = g) w w' → RW M P ops Q rest f w') : RW M P ops Q (op0 (.store t x y) ty pos af :: rest) f w := by
  have hu' := Nat.eq_of_beq_eq_true hu
  have hj' := Nat.eq_of_beq_eq_true hj
  refine RW.storeN (j := 0) (fun w => h.size w) hx hy (by simpa [Value.cells] using hu') (by simpa [Value.cells] using h1) hb (by omega) fun w' hb' hk => k w' ?_ hk
  rw [hb']
  have : c.toList.drop (0 + n) = [] := by rw [List.drop_eq_nil_iff]; simp; omega
  rw [this]
  simp [Value.cells]
end
end Go.Proofs.YtjfdhafmbcppjaaGreatDoor.H

namespace Go.Proofs.YtjfdhafmbcppjaaGreatDoor.H
open Go.RowKit
theorem CL.cutS {M : Option (Option Nat)} {P : Program} {Q : Post} {f : Fr} {w : World} {cs : List Code} {c : Code} (l : List Nat) (I : List Value → World → Prop) (hc : cs ≠ [])
    (h : CL M P (thenK (fun f' w' => ∃ vals, looks f'.e l = some vals ∧ f'.n = f.n ∧ f'.ds = f.ds ∧ I vals w') Q) [c] f w) (hk : ∀ vals w, I vals w → CL M P Q cs ⟨f.n, f.ds, l.zip vals⟩ w) : CL M P Q (c :: cs) f w := by
  refine CL.cut _ h fun f' w' ⟨vals, h1, h2, h3, h4⟩ => ?_
  have := hk vals w' h4
  cases cs with
  | nil => exact absurd rfl hc
  | cons d ds =>
    intro a ha
    refine this a ?_
    have hw := ha.weaken (looks_zip f'.e l vals h1)
    rw [h2, h3] at hw
    exact hw

/-- In a region that draws its order: what was kept is kept on from here. -/
theorem rebase {P : Program} {ops : Array Oper} {Q : Post} {Z T : Nat → Prop} {n : Nat} {l : Array Bool} {f : Fr} {w0 w1 w2 : World} (h : Kept Z w0 w1) (hk : Kept T w1 w2) (ht : ∀ k, T k → Z k) (k : Kept Z w2 w2 → AW P ops Q (fun w' => Kept Z w2 w') n l f w2) :
    Kept Z w0 w2 ∧ AW P ops Q (fun w' => Kept Z w0 w') n l f w2 :=
  have h2 : Kept Z w0 w2 := h.trans hk fun k hk' => .inl (ht k hk')
  ⟨h2, AW.more (fun w hw => h2.trans hw fun k hk' => .inl hk') (k (Kept.refl Z w2))⟩
theorem rebase0 {P : Program} {ops : Array Oper} {Q : Post} {n : Nat} {l : Array Bool} {f : Fr} {w0 w1 w2 : World} (h : K0 w0 w1) (hk : K0 w1 w2) (k : K0 w2 w2 → AW P ops Q (fun w' => K0 w2 w') n l f w2) :
    K0 w0 w2 ∧ AW P ops Q (fun w' => K0 w0 w') n l f w2 := rebase h hk (fun _ c => c.elim) k
section
variable {P : Program} {ops : Array Oper} {Q : Post} {f : Fr} {w : World} {S : World → Prop}
theorem AW.one (i : Nat) {o : Oper} {n : Nat} {l : Array Bool} (hi : ops[i]? = some o) (k : RW none P ops (thenK (fun f w => S w ∧ AW P ops Q S n (l.setIfInBounds i true) f w) Q) [o] f w) {a : Act} (ha : Ag f a) : wpOp P ops (lift Q) i (fun a' w' => S w' ∧ wpAnyH P .any ops (lift Q) S n (l.setIfInBounds i true) a' w') a w := by
  have h : wpList P ops _ [o] a w := k a ha
  unfold wpList at h
  unfold wpOp
  simp only [hi]
  have hq : ∀ x a w, lift (thenK (fun f w => S w ∧ AW P ops Q S n (l.setIfInBounds i true) f w) Q) x a w → match x with
      | .normal => S w ∧ wpAnyH P .any ops (lift Q) S n (l.setIfInBounds i true) a w
      | x => lift Q x a w := by
    intro x a w ⟨g, hg, q⟩
    cases x with
    | normal => exact ⟨q.1, q.2 a hg⟩
    | _ => exact ⟨g, hg, q⟩
  by_cases hw : Region.wanted o (yielded ops a.tmps) = true
  · rw [if_pos hw] at h
    simp only [hw, if_true]
    rcases h with h | ⟨h1, a0, w0, h2⟩
    · left
      exact oper_mono (fun a w hk => hq .normal a w hk) (fun c a w hk => hq (.panic c) a w hk) (fun a w hk => hq .outgrown a w hk) h
    · exact .inr ⟨h1, a0, w0, hq .outgrown a0 w0 h2⟩
  · rw [if_neg hw] at h
    simp only [hw, if_false, Bool.false_eq_true]
    exact hq .normal _ _ h

/-- One of two may come next: both ways. -/
theorem AW.two (i j : Nat) {oi oj : Oper} {n : Nat} {l : Array Bool} (hi : ops[i]? = some oi) (hj : ops[j]? = some oj) (hr : Region.ready .any ops l = [i, j]) (ki : RW none P ops (thenK (fun f w => S w ∧ AW P ops Q S n (l.setIfInBounds i true) f w) Q) [oi] f w) (kj : RW none P ops (thenK (fun f w => S w ∧ AW P ops Q S n (l.setIfInBounds j true) f w) Q) [oj] f w) : AW P ops Q S (n + 1) l f w := by
  intro a ha
  refine wpAnyH_all hr (by simp) fun k hk => ?_
  rcases List.mem_cons.1 hk with rfl | hk
  · exact AW.one _ hi ki ha
  · rw [List.mem_singleton.1 hk]
    exact AW.one _ hj kj ha
end
end Go.Proofs.YtjfdhafmbcppjaaGreatDoor.H

namespace Go.Proofs
open Go.Shelf
def Tryz.lays156_ren : Go.Shelf.Ren := ⟨fun | 156 => 36 | 165 => 68 | 166 => 69 | 169 => 70 | 240 => 92 | 241 => 93 | 276 => 109 | 277 => 110 | n => n, fun | 31 => 33 | 9 => 9 | 3 => 3 | 4 => 4 | 0 => 0 | 20 => 20 | 72 => 103 | 76 => 107 | 70 => 101 | 37 => 50 | 75 => 106 | 127 => 127 | 164 => 134 | 5 => 5 | 80 => 109 | n => n, fun | n => n⟩
theorem Tryz.lays156 : Go.Proofs.Lays.n156 Tryz.prog Tryz.lays156_ren := {
  mixed := by kernel_rfl
  f156 := Tryz.func36.trans (congrArg some (by kernel_rfl))
  f165 := Tryz.func68.trans (congrArg some (by kernel_rfl))
  f166 := Tryz.func69.trans (congrArg some (by kernel_rfl))
  f169 := Tryz.func70.trans (congrArg some (by kernel_rfl))
  f240 := Tryz.func92.trans (congrArg some (by kernel_rfl))
  f241 := Tryz.func93.trans (congrArg some (by kernel_rfl))
  f276 := Tryz.func109.trans (congrArg some (by kernel_rfl))
  f277 := Tryz.func110.trans (congrArg some (by kernel_rfl))
  t0 := Tryz.underlying0
  a0 := Tryz.isAgg0
  z0 := Tryz.sizeOf0
  v0 := Tryz.zeroValue0
  t3 := Tryz.underlying3
  a3 := Tryz.isAgg3
  z3 := Tryz.sizeOf3
  v3 := Tryz.zeroValue3
  t4 := Tryz.underlying4
  a4 := Tryz.isAgg4
  z4 := Tryz.sizeOf4
  v4 := Tryz.zeroValue4
  t9 := Tryz.underlying9
  a9 := Tryz.isAgg9
  z9 := Tryz.sizeOf9
  v9 := Tryz.zeroValue9
  t20 := Tryz.underlying20
  a20 := Tryz.isAgg20
  z20 := Tryz.sizeOf20
  v20 := Tryz.zeroValue20
  t31 := Tryz.underlying33
  a31 := Tryz.isAgg33
  z31 := Tryz.sizeOf33
  v31 := Tryz.zeroValue33
  t37 := Tryz.underlying50
  a37 := Tryz.isAgg50
  z37 := Tryz.sizeOf50
  v37 := Tryz.zeroValue50
  t70 := Tryz.underlying101
  a70 := Tryz.isAgg101
  z70 := Tryz.sizeOf101
  v70 := Tryz.zeroValue101
  t72 := Tryz.underlying103
  a72 := Tryz.isAgg103
  z72 := Tryz.sizeOf103
  v72 := Tryz.zeroValue103
  t75 := Tryz.underlying106
  a75 := Tryz.isAgg106
  z75 := Tryz.sizeOf106
  v75 := Tryz.zeroValue106
  t76 := Tryz.underlying107
  a76 := Tryz.isAgg107
  z76 := Tryz.sizeOf107
  v76 := Tryz.zeroValue107
  t127 := Tryz.underlying127
  a127 := Tryz.isAgg127
  z127 := Tryz.sizeOf127
  v127 := Tryz.zeroValue127
  t164 := Tryz.underlying134
  a164 := Tryz.isAgg134
  z164 := Tryz.sizeOf134
  v164 := Tryz.zeroValue134 }
theorem Tryz.Builder_Extra_156 : Builder.Extra Tryz.prog Tryz.lays156_ren := {
  sizeBuilder := by kernel_rfl
  liesBuilder := by kernel_rfl
  t5 := Tryz.underlying5
  a5 := Tryz.isAgg5
  z5 := Tryz.sizeOf5
  v5 := Tryz.zeroValue5
  infoByte := by kernel_rfl
  cellsByte := by kernel_rfl
  sizeByte := by kernel_rfl
  neB5 := by decide }
open Go.RowKit in
/-- No element: the empty string; the world is as it was. (Whatever the slice's address and capacity: a nil slice too.) (LAID: no walk: one application.) -/
theorem Tryz.strings_Join_none (a : Option Addr) (c : Nat) (sep : ByteArray) (w : World) :
    Calls Tryz.prog 36 #[.slice a 0 c, .string sep] w fun e w' => e = .returned (.string ⟨#[]⟩) ∧ w' = w := Any.strings_Join_none Tryz.lays156 Tryz.Builder_Extra_156 a c sep w
open Go.RowKit in
/-- strings.Join: "Join concatenates the elements of its first argument to create a single string. The separator string sep is placed between elements in the resulting string.": HOWEVER MANY ELEMENTS. Below the heap's end the world is as it was. (LAID: no walk: one application.) -/
theorem Tryz.strings_Join (bk o c : Nat) (xs : List ByteArray) (sep : ByteArray) (w : World) (hcells : ∀ (j : Nat) x, xs[j]? = some x → w.cell? ⟨bk, o + j, none⟩ = some (.string x)) (hbk : bk < w.heap.size) (hN : xs.length ≤ 140737488355328) (hcap : xs.length ≤ c) (hlen : (Lib.join (xs.map (·.data.toList)) sep.data.toList).length ≤ 140737488355328) :
    Calls Tryz.prog 36 #[.slice (some ⟨bk, o, none⟩) xs.length c, .string sep] w fun e w' => e = .returned (.string ⟨(Lib.join (xs.map (·.data.toList)) sep.data.toList).toArray⟩) ∧ Below w.heap.size w w' := Any.strings_Join Tryz.lays156 Tryz.Builder_Extra_156 bk o c xs sep w hcells hbk hN hcap hlen
def Tryz.lays172_ren : Go.Shelf.Ren := ⟨fun | 172 => 105 | 244 => 120 | 245 => 121 | 247 => 130 | 279 => 131 | 280 => 132 | 281 => 133 | 282 => 134 | 287 => 140 | 316 => 141 | 171 => 67 | 205 => 142 | 321 => 145 | 322 => 146 | 243 => 91 | 246 => 108 | 283 => 122 | 284 => 123 | 285 => 124 | 286 => 125 | 129 => 136 | 317 => 135 | 318 => 137 | 319 => 138 | 320 => 139 | 337 => 143 | 338 => 144 | n => n, fun | 9 => 9 | 3 => 3 | 75 => 106 | 76 => 107 | 4 => 4 | 5 => 5 | 167 => 155 | 37 => 50 | 0 => 0 | 85 => 156 | 2 => 2 | 168 => 158 | 53 => 146 | 175 => 164 | 46 => 138 | 210 => 168 | 127 => 127 | 145 => 174 | 143 => 172 | 21 => 21 | 171 => 145 | 173 => 149 | 212 => 161 | 51 => 151 | 20 => 20 | 213 => 162 | 232 => 175 | 233 => 176 | 80 => 109 | n => n, fun | 15 => 4 | 16 => 5 | 17 => 3 | 18 => 6 | 19 => 7 | n => n⟩
theorem Tryz.lays172 : Go.Proofs.Lays.n172 Tryz.prog Tryz.lays172_ren := {
  mixed := by kernel_rfl
  f129 := Tryz.func136.trans (congrArg some (by kernel_rfl))
  f171 := Tryz.func67.trans (congrArg some (by kernel_rfl))
  f172 := Tryz.func105.trans (congrArg some (by kernel_rfl))
  f205 := Tryz.func142.trans (congrArg some (by kernel_rfl))
  f243 := Tryz.func91.trans (congrArg some (by kernel_rfl))
  f244 := Tryz.func120.trans (congrArg some (by kernel_rfl))
  f245 := Tryz.func121.trans (congrArg some (by kernel_rfl))
  f246 := Tryz.func108.trans (congrArg some (by kernel_rfl))
  f247 := Tryz.func130.trans (congrArg some (by kernel_rfl))
  f279 := Tryz.func131.trans (congrArg some (by kernel_rfl))
  f280 := Tryz.func132.trans (congrArg some (by kernel_rfl))
  f281 := Tryz.func133.trans (congrArg some (by kernel_rfl))
  f282 := Tryz.func134.trans (congrArg some (by kernel_rfl))
  f283 := Tryz.func122.trans (congrArg some (by kernel_rfl))
  f284 := Tryz.func123.trans (congrArg some (by kernel_rfl))
  f285 := Tryz.func124.trans (congrArg some (by kernel_rfl))
  f286 := Tryz.func125.trans (congrArg some (by kernel_rfl))
  f287 := Tryz.func140.trans (congrArg some (by kernel_rfl))
  f316 := Tryz.func141.trans (congrArg some (by kernel_rfl))
  f317 := Tryz.func135.trans (congrArg some (by kernel_rfl))
  f318 := Tryz.func137.trans (congrArg some (by kernel_rfl))
  f319 := Tryz.func138.trans (congrArg some (by kernel_rfl))
  f320 := Tryz.func139.trans (congrArg some (by kernel_rfl))
  f321 := Tryz.func145.trans (congrArg some (by kernel_rfl))
  f322 := Tryz.func146.trans (congrArg some (by kernel_rfl))
  f337 := Tryz.func143.trans (congrArg some (by kernel_rfl))
  f338 := Tryz.func144.trans (congrArg some (by kernel_rfl))
  t0 := Tryz.underlying0
  a0 := Tryz.isAgg0
  z0 := Tryz.sizeOf0
  v0 := Tryz.zeroValue0
  t2 := Tryz.underlying2
  a2 := Tryz.isAgg2
  z2 := Tryz.sizeOf2
  v2 := Tryz.zeroValue2
  t3 := Tryz.underlying3
  a3 := Tryz.isAgg3
  z3 := Tryz.sizeOf3
  v3 := Tryz.zeroValue3
  t4 := Tryz.underlying4
  a4 := Tryz.isAgg4
  z4 := Tryz.sizeOf4
  v4 := Tryz.zeroValue4
  t5 := Tryz.underlying5
  a5 := Tryz.isAgg5
  z5 := Tryz.sizeOf5
  v5 := Tryz.zeroValue5
  t9 := Tryz.underlying9
  a9 := Tryz.isAgg9
  z9 := Tryz.sizeOf9
  v9 := Tryz.zeroValue9
  t20 := Tryz.underlying20
  a20 := Tryz.isAgg20
  z20 := Tryz.sizeOf20
  v20 := Tryz.zeroValue20
  t21 := Tryz.underlying21
  a21 := Tryz.isAgg21
  z21 := Tryz.sizeOf21
  v21 := Tryz.zeroValue21
  t37 := Tryz.underlying50
  a37 := Tryz.isAgg50
  z37 := Tryz.sizeOf50
  v37 := Tryz.zeroValue50
  t46 := Tryz.underlying138
  a46 := Tryz.isAgg138
  z46 := Tryz.sizeOf138
  v46 := Tryz.zeroValue138
  t51 := Tryz.underlying151
  a51 := Tryz.isAgg151
  z51 := Tryz.sizeOf151
  v51 := Tryz.zeroValue151
  t53 := Tryz.underlying146
  a53 := Tryz.isAgg146
  z53 := Tryz.sizeOf146
  v53 := Tryz.zeroValue146
  t75 := Tryz.underlying106
  a75 := Tryz.isAgg106
  z75 := Tryz.sizeOf106
  v75 := Tryz.zeroValue106
  t76 := Tryz.underlying107
  a76 := Tryz.isAgg107
  z76 := Tryz.sizeOf107
  v76 := Tryz.zeroValue107
  t85 := Tryz.underlying156
  a85 := Tryz.isAgg156
  z85 := Tryz.sizeOf156
  v85 := Tryz.zeroValue156
  t127 := Tryz.underlying127
  a127 := Tryz.isAgg127
  z127 := Tryz.sizeOf127
  v127 := Tryz.zeroValue127
  t143 := Tryz.underlying172
  a143 := Tryz.isAgg172
  z143 := Tryz.sizeOf172
  v143 := Tryz.zeroValue172
  t145 := Tryz.underlying174
  a145 := Tryz.isAgg174
  z145 := Tryz.sizeOf174
  v145 := Tryz.zeroValue174
  t167 := Tryz.underlying155
  a167 := Tryz.isAgg155
  z167 := Tryz.sizeOf155
  v167 := Tryz.zeroValue155
  t168 := Tryz.underlying158
  a168 := Tryz.isAgg158
  z168 := Tryz.sizeOf158
  v168 := Tryz.zeroValue158
  t171 := Tryz.underlying145
  a171 := Tryz.isAgg145
  z171 := Tryz.sizeOf145
  v171 := Tryz.zeroValue145
  t173 := Tryz.underlying149
  a173 := Tryz.isAgg149
  z173 := Tryz.sizeOf149
  v173 := Tryz.zeroValue149
  t175 := Tryz.underlying164
  a175 := Tryz.isAgg164
  z175 := Tryz.sizeOf164
  v175 := Tryz.zeroValue164
  t210 := Tryz.underlying168
  a210 := Tryz.isAgg168
  z210 := Tryz.sizeOf168
  v210 := Tryz.zeroValue168
  t212 := Tryz.underlying161
  a212 := Tryz.isAgg161
  z212 := Tryz.sizeOf161
  v212 := Tryz.zeroValue161
  t213 := Tryz.underlying162
  a213 := Tryz.isAgg162
  z213 := Tryz.sizeOf162
  t232 := Tryz.underlying175
  a232 := Tryz.isAgg175
  z232 := Tryz.sizeOf175
  v232 := Tryz.zeroValue175
  t233 := Tryz.underlying176
  a233 := Tryz.isAgg176
  z233 := Tryz.sizeOf176
  v233 := Tryz.zeroValue176
  g15 := by kernel_rfl
  g16 := by kernel_rfl
  g17 := by kernel_rfl
  g18 := by kernel_rfl
  g19 := by kernel_rfl }
open Go.RowKit in
/-- strconv.Atoi: "Atoi is equivalent to ParseInt(s, 10, 0), converted to type int.": AT A DECIMAL NUMERAL OF AT MOST 18 BYTES: its value, and a nil error. The world behind the call: the one new row that the library's '[]byte(s)' lays. (LAID: no walk: one application.) -/
theorem Tryz.strconv_Atoi (s : ByteArray) (n : Int) (hl : s.size ≤ 18) (h : Lib.atoi s.data.toList = some n) (w : World) :
    Calls Tryz.prog 105 #[.string s] w fun e w' => e = .returned (.tuple #[.int .i64 n, .nilIface]) ∧ ∃ t, w' = Lib.bytesWorld w 5 t := Any.strconv_Atoi Tryz.lays172 s n hl h w
def Tryz.laysM171_ren : Go.Shelf.Ren := ⟨fun | 171 => 67 | 243 => 91 | 246 => 108 | 283 => 122 | 284 => 123 | 285 => 124 | 286 => 125 | 129 => 136 | 317 => 135 | 318 => 137 | 319 => 138 | 320 => 139 | 337 => 143 | 338 => 144 | n => n, fun | 3 => 3 | 9 => 9 | 2 => 2 | 4 => 4 | 171 => 145 | 0 => 0 | 53 => 146 | 37 => 50 | 5 => 5 | 173 => 149 | 212 => 161 | 51 => 151 | 20 => 20 | 213 => 162 | 46 => 138 | 232 => 175 | 233 => 176 | n => n, fun | 17 => 3 | 18 => 6 | 19 => 7 | n => n⟩
theorem Tryz.laysM171 : Go.Proofs.LaysM.n171 Tryz.prog Tryz.laysM171_ren := {
  mixed := by kernel_rfl
  f129 := Tryz.func136.trans (congrArg some (by kernel_rfl))
  f171 := Tryz.func67.trans (congrArg some (by kernel_rfl))
  f243 := Tryz.func91.trans (congrArg some (by kernel_rfl))
  f246 := Tryz.func108.trans (congrArg some (by kernel_rfl))
  f283 := Tryz.func122.trans (congrArg some (by kernel_rfl))
  f284 := Tryz.func123.trans (congrArg some (by kernel_rfl))
  f285 := Tryz.func124.trans (congrArg some (by kernel_rfl))
  f286 := Tryz.func125.trans (congrArg some (by kernel_rfl))
  f317 := Tryz.func135.trans (congrArg some (by kernel_rfl))
  f318 := Tryz.func137.trans (congrArg some (by kernel_rfl))
  f319 := Tryz.func138.trans (congrArg some (by kernel_rfl))
  f320 := Tryz.func139.trans (congrArg some (by kernel_rfl))
  f337 := Tryz.func143.trans (congrArg some (by kernel_rfl))
  f338 := Tryz.func144.trans (congrArg some (by kernel_rfl))
  t0 := Tryz.underlying0
  a0 := Tryz.isAgg0
  z0 := Tryz.sizeOf0
  v0 := Tryz.zeroValue0
  t2 := Tryz.underlying2
  a2 := Tryz.isAgg2
  z2 := Tryz.sizeOf2
  v2 := Tryz.zeroValue2
  t3 := Tryz.underlying3
  a3 := Tryz.isAgg3
  z3 := Tryz.sizeOf3
  v3 := Tryz.zeroValue3
  t4 := Tryz.underlying4
  a4 := Tryz.isAgg4
  z4 := Tryz.sizeOf4
  v4 := Tryz.zeroValue4
  t5 := Tryz.underlying5
  a5 := Tryz.isAgg5
  z5 := Tryz.sizeOf5
  v5 := Tryz.zeroValue5
  t9 := Tryz.underlying9
  a9 := Tryz.isAgg9
  z9 := Tryz.sizeOf9
  v9 := Tryz.zeroValue9
  t20 := Tryz.underlying20
  a20 := Tryz.isAgg20
  z20 := Tryz.sizeOf20
  v20 := Tryz.zeroValue20
  t37 := Tryz.underlying50
  a37 := Tryz.isAgg50
  z37 := Tryz.sizeOf50
  v37 := Tryz.zeroValue50
  t46 := Tryz.underlying138
  a46 := Tryz.isAgg138
  z46 := Tryz.sizeOf138
  v46 := Tryz.zeroValue138
  t51 := Tryz.underlying151
  a51 := Tryz.isAgg151
  z51 := Tryz.sizeOf151
  v51 := Tryz.zeroValue151
  t53 := Tryz.underlying146
  a53 := Tryz.isAgg146
  z53 := Tryz.sizeOf146
  v53 := Tryz.zeroValue146
  t171 := Tryz.underlying145
  a171 := Tryz.isAgg145
  z171 := Tryz.sizeOf145
  v171 := Tryz.zeroValue145
  t173 := Tryz.underlying149
  a173 := Tryz.isAgg149
  z173 := Tryz.sizeOf149
  v173 := Tryz.zeroValue149
  t212 := Tryz.underlying161
  a212 := Tryz.isAgg161
  z212 := Tryz.sizeOf161
  v212 := Tryz.zeroValue161
  t213 := Tryz.underlying162
  a213 := Tryz.isAgg162
  z213 := Tryz.sizeOf162
  t232 := Tryz.underlying175
  a232 := Tryz.isAgg175
  z232 := Tryz.sizeOf175
  v232 := Tryz.zeroValue175
  t233 := Tryz.underlying176
  a233 := Tryz.isAgg176
  z233 := Tryz.sizeOf176
  v233 := Tryz.zeroValue176
  g17 := by kernel_rfl
  g18 := by kernel_rfl
  g19 := by kernel_rfl
  i0 := by kernel_rfl
  i2 := by kernel_rfl
  i3 := by kernel_rfl
  i4 := by kernel_rfl
  i5 := by kernel_rfl
  i9 := by kernel_rfl
  i20 := by kernel_rfl
  i37 := by kernel_rfl
  i46 := by kernel_rfl
  i51 := by kernel_rfl
  i53 := by kernel_rfl
  i171 := by kernel_rfl
  i173 := by kernel_rfl
  i212 := by kernel_rfl
  i232 := by kernel_rfl
  i233 := by kernel_rfl
  m17 := by kernel_rfl
  m18 := by kernel_rfl
  m19 := by kernel_rfl }
open Go.RowKit Go.Sort Go.Lib in
/-- strconv.Itoa: "Itoa is equivalent to FormatInt(int64(i), 10).": i's DECIMAL NUMERAL ('Lib.itoa': a '-' where i is negative, then the digits), FOR EVERY int. The world behind the call: the world before it, new blocks behind the heap (the library's 'var a [24]byte'), draws. (LAID: no walk: one application.) -/
theorem Tryz.strconv_Itoa (n : Int) (h0 : -9223372036854775808 ≤ n) (h1 : n ≤ 9223372036854775807) (w : World) (htab : Lib.TabIs Tryz.prog w "internal/strconv.uint64pow10" .u64 Lib.pow10Tab) :
    Calls Tryz.prog 67 #[.int .i64 n] w fun e w' => e = .returned (.string ⟨(Lib.itoa n).toArray⟩) ∧ ∃ k os, w' = grow (w.drewN k) os := Any.strconv_Itoa Tryz.laysM171 n h0 h1 w htab
def Tryz.lays171_ren : Go.Shelf.Ren := ⟨fun | 171 => 67 | 243 => 91 | 246 => 108 | 283 => 122 | 284 => 123 | 285 => 124 | 286 => 125 | 129 => 136 | 317 => 135 | 318 => 137 | 319 => 138 | 320 => 139 | 337 => 143 | 338 => 144 | n => n, fun | 3 => 3 | 9 => 9 | 2 => 2 | 4 => 4 | 171 => 145 | 0 => 0 | 53 => 146 | 37 => 50 | 5 => 5 | 173 => 149 | 212 => 161 | 51 => 151 | 20 => 20 | 213 => 162 | 46 => 138 | 232 => 175 | 233 => 176 | n => n, fun | 17 => 3 | 18 => 6 | 19 => 7 | n => n⟩
theorem Tryz.lays171 : Go.Proofs.Lays.n171 Tryz.prog Tryz.lays171_ren := {
  mixed := by kernel_rfl
  f129 := Tryz.func136.trans (congrArg some (by kernel_rfl))
  f171 := Tryz.func67.trans (congrArg some (by kernel_rfl))
  f243 := Tryz.func91.trans (congrArg some (by kernel_rfl))
  f246 := Tryz.func108.trans (congrArg some (by kernel_rfl))
  f283 := Tryz.func122.trans (congrArg some (by kernel_rfl))
  f284 := Tryz.func123.trans (congrArg some (by kernel_rfl))
  f285 := Tryz.func124.trans (congrArg some (by kernel_rfl))
  f286 := Tryz.func125.trans (congrArg some (by kernel_rfl))
  f317 := Tryz.func135.trans (congrArg some (by kernel_rfl))
  f318 := Tryz.func137.trans (congrArg some (by kernel_rfl))
  f319 := Tryz.func138.trans (congrArg some (by kernel_rfl))
  f320 := Tryz.func139.trans (congrArg some (by kernel_rfl))
  f337 := Tryz.func143.trans (congrArg some (by kernel_rfl))
  f338 := Tryz.func144.trans (congrArg some (by kernel_rfl))
  t0 := Tryz.underlying0
  a0 := Tryz.isAgg0
  z0 := Tryz.sizeOf0
  v0 := Tryz.zeroValue0
  t2 := Tryz.underlying2
  a2 := Tryz.isAgg2
  z2 := Tryz.sizeOf2
  v2 := Tryz.zeroValue2
  t3 := Tryz.underlying3
  a3 := Tryz.isAgg3
  z3 := Tryz.sizeOf3
  v3 := Tryz.zeroValue3
  t4 := Tryz.underlying4
  a4 := Tryz.isAgg4
  z4 := Tryz.sizeOf4
  v4 := Tryz.zeroValue4
  t5 := Tryz.underlying5
  a5 := Tryz.isAgg5
  z5 := Tryz.sizeOf5
  v5 := Tryz.zeroValue5
  t9 := Tryz.underlying9
  a9 := Tryz.isAgg9
  z9 := Tryz.sizeOf9
  v9 := Tryz.zeroValue9
  t20 := Tryz.underlying20
  a20 := Tryz.isAgg20
  z20 := Tryz.sizeOf20
  v20 := Tryz.zeroValue20
  t37 := Tryz.underlying50
  a37 := Tryz.isAgg50
  z37 := Tryz.sizeOf50
  v37 := Tryz.zeroValue50
  t46 := Tryz.underlying138
  a46 := Tryz.isAgg138
  z46 := Tryz.sizeOf138
  v46 := Tryz.zeroValue138
  t51 := Tryz.underlying151
  a51 := Tryz.isAgg151
  z51 := Tryz.sizeOf151
  v51 := Tryz.zeroValue151
  t53 := Tryz.underlying146
  a53 := Tryz.isAgg146
  z53 := Tryz.sizeOf146
  v53 := Tryz.zeroValue146
  t171 := Tryz.underlying145
  a171 := Tryz.isAgg145
  z171 := Tryz.sizeOf145
  v171 := Tryz.zeroValue145
  t173 := Tryz.underlying149
  a173 := Tryz.isAgg149
  z173 := Tryz.sizeOf149
  v173 := Tryz.zeroValue149
  t212 := Tryz.underlying161
  a212 := Tryz.isAgg161
  z212 := Tryz.sizeOf161
  v212 := Tryz.zeroValue161
  t213 := Tryz.underlying162
  a213 := Tryz.isAgg162
  z213 := Tryz.sizeOf162
  t232 := Tryz.underlying175
  a232 := Tryz.isAgg175
  z232 := Tryz.sizeOf175
  v232 := Tryz.zeroValue175
  t233 := Tryz.underlying176
  a233 := Tryz.isAgg176
  z233 := Tryz.sizeOf176
  v233 := Tryz.zeroValue176
  g17 := by kernel_rfl
  g18 := by kernel_rfl
  g19 := by kernel_rfl }
open Go.RowKit Go.Sort Go.Lib in
/-- THE ROAD WITHOUT THE TABLE: 0 <= i < 100: NO PREMISE ON THE WORLD, AND THE WORLD IS AS IT WAS: a row that keeps its argument in that range need list no table ('laid = []'). (LAID: no walk: one application.) -/
theorem Tryz.strconv_Itoa_small (i : Nat) (hi : i < 100) (w : World) :
    Calls Tryz.prog 67 #[.int .i64 i] w fun e w' => e = .returned (.string ⟨(Lib.decDigits i).toArray⟩) ∧ w' = w := Any.strconv_Itoa_small Tryz.lays171 i hi w
def Tryz.lays143_ren : Go.Shelf.Ren := ⟨fun | 143 => 82 | 219 => 100 | 217 => 116 | 225 => 115 | 224 => 114 | 267 => 117 | 266 => 126 | 314 => 127 | n => n, fun | 9 => 9 | 3 => 3 | 4 => 4 | 5 => 5 | 46 => 138 | 146 => 152 | 51 => 151 | n => n, fun | 1 => 2 | n => n⟩
theorem Tryz.lays143 : Go.Proofs.Lays.n143 Tryz.prog Tryz.lays143_ren := {
  mixed := by kernel_rfl
  f143 := Tryz.func82.trans (congrArg some (by kernel_rfl))
  f217 := Tryz.func116.trans (congrArg some (by kernel_rfl))
  f219 := Tryz.func100.trans (congrArg some (by kernel_rfl))
  f224 := Tryz.func114.trans (congrArg some (by kernel_rfl))
  f225 := Tryz.func115.trans (congrArg some (by kernel_rfl))
  f266 := Tryz.func126.trans (congrArg some (by kernel_rfl))
  f267 := Tryz.func117.trans (congrArg some (by kernel_rfl))
  f314 := Tryz.func127.trans (congrArg some (by kernel_rfl))
  t3 := Tryz.underlying3
  a3 := Tryz.isAgg3
  z3 := Tryz.sizeOf3
  v3 := Tryz.zeroValue3
  t4 := Tryz.underlying4
  a4 := Tryz.isAgg4
  z4 := Tryz.sizeOf4
  v4 := Tryz.zeroValue4
  t5 := Tryz.underlying5
  a5 := Tryz.isAgg5
  z5 := Tryz.sizeOf5
  v5 := Tryz.zeroValue5
  t9 := Tryz.underlying9
  a9 := Tryz.isAgg9
  z9 := Tryz.sizeOf9
  v9 := Tryz.zeroValue9
  t46 := Tryz.underlying138
  a46 := Tryz.isAgg138
  z46 := Tryz.sizeOf138
  v46 := Tryz.zeroValue138
  t51 := Tryz.underlying151
  a51 := Tryz.isAgg151
  z51 := Tryz.sizeOf151
  v51 := Tryz.zeroValue151
  t146 := Tryz.underlying152
  a146 := Tryz.isAgg152
  z146 := Tryz.sizeOf152
  v146 := Tryz.zeroValue152
  g1 := by kernel_rfl }
open Go.RowKit Go.Lib in
/-- strings.Index: "Index returns the index of the first instance of substr in s, or -1 if substr is not present in s.": AT A substr OF ONE BYTE c: IT RETURNS 'Lib.indexByte s c'; the world is as it was. (LAID: no walk: one application.) -/
theorem Tryz.strings_Index_one (s : ByteArray) (c : UInt8) (w : World) :
    Calls Tryz.prog 82 #[.string s, .string ⟨#[c]⟩] w fun e w' => e = .returned (.int .i64 (Lib.indexByte s.data.toList c)) ∧ w' = w := Any.strings_Index_one Tryz.lays143 s c w
open Go.RowKit Go.Lib in
/-- strings.Index: "Index returns the index of the first instance of substr in s, or -1 if substr is not present in s.": IT RETURNS 'Lib.index s substr'; the world is as it was. (LAID: no walk: one application.) -/
theorem Tryz.strings_Index (s sub : ByteArray) (m : Int) (w : World) (hs : s.size < 4294967281) (hm : w.cell? ⟨2, 0, none⟩ = some (.int .i64 m)) :
    Calls Tryz.prog 82 #[.string s, .string sub] w fun e w' => e = .returned (.int .i64 (Lib.index s.data.toList sub.data.toList)) ∧ w' = w := Any.strings_Index Tryz.lays143 s sub m w hs hm
def Tryz.laysM143_ren : Go.Shelf.Ren := ⟨fun | 143 => 82 | 219 => 100 | 217 => 116 | 225 => 115 | 224 => 114 | 267 => 117 | 266 => 126 | 314 => 127 | n => n, fun | 9 => 9 | 3 => 3 | 4 => 4 | 5 => 5 | 46 => 138 | 146 => 152 | 51 => 151 | n => n, fun | 1 => 2 | n => n⟩
theorem Tryz.laysM143 : Go.Proofs.LaysM.n143 Tryz.prog Tryz.laysM143_ren := {
  mixed := by kernel_rfl
  f143 := Tryz.func82.trans (congrArg some (by kernel_rfl))
  f217 := Tryz.func116.trans (congrArg some (by kernel_rfl))
  f219 := Tryz.func100.trans (congrArg some (by kernel_rfl))
  f224 := Tryz.func114.trans (congrArg some (by kernel_rfl))
  f225 := Tryz.func115.trans (congrArg some (by kernel_rfl))
  f266 := Tryz.func126.trans (congrArg some (by kernel_rfl))
  f267 := Tryz.func117.trans (congrArg some (by kernel_rfl))
  f314 := Tryz.func127.trans (congrArg some (by kernel_rfl))
  t3 := Tryz.underlying3
  a3 := Tryz.isAgg3
  z3 := Tryz.sizeOf3
  v3 := Tryz.zeroValue3
  t4 := Tryz.underlying4
  a4 := Tryz.isAgg4
  z4 := Tryz.sizeOf4
  v4 := Tryz.zeroValue4
  t5 := Tryz.underlying5
  a5 := Tryz.isAgg5
  z5 := Tryz.sizeOf5
  v5 := Tryz.zeroValue5
  t9 := Tryz.underlying9
  a9 := Tryz.isAgg9
  z9 := Tryz.sizeOf9
  v9 := Tryz.zeroValue9
  t46 := Tryz.underlying138
  a46 := Tryz.isAgg138
  z46 := Tryz.sizeOf138
  v46 := Tryz.zeroValue138
  t51 := Tryz.underlying151
  a51 := Tryz.isAgg151
  z51 := Tryz.sizeOf151
  v51 := Tryz.zeroValue151
  t146 := Tryz.underlying152
  a146 := Tryz.isAgg152
  z146 := Tryz.sizeOf152
  v146 := Tryz.zeroValue152
  g1 := by kernel_rfl
  i3 := by kernel_rfl
  i4 := by kernel_rfl
  i5 := by kernel_rfl
  i9 := by kernel_rfl
  i46 := by kernel_rfl
  i51 := by kernel_rfl
  i146 := by kernel_rfl
  m1 := by kernel_rfl
  s1_3 := fun w h => Go.Proofs.cell_of_shapedOpen_int (zero := #[.int .i64 0]) (t := 3) h (of_decide_eq_true (by kernel_rfl)) (by kernel_rfl) rfl (by kernel_rfl) (by kernel_rfl) Tryz.underlying3 }
open Go.RowKit Go.Lib in
theorem Tryz.strings_Index_shaped (s sub : ByteArray) (w : World) (h : w.ShapedOpen Tryz.prog) (hs : s.size < 4294967281) :
    Calls Tryz.prog 82 #[.string s, .string sub] w fun e w' => e = .returned (.int .i64 (Lib.index s.data.toList sub.data.toList)) ∧ w' = w := Any.strings_Index_shaped Tryz.laysM143 s sub w h hs
def Tryz.lays229_ren : Go.Shelf.Ren := ⟨fun | 229 => 29 | n => n, fun | 9 => 9 | 40 => 64 | 31 => 33 | 152 => 92 | 3 => 3 | 0 => 0 | 4 => 4 | 21 => 21 | 154 => 94 | n => n, fun | n => n⟩
theorem Tryz.lays229 : Go.Proofs.Lays.n229 Tryz.prog Tryz.lays229_ren := {
  mixed := by kernel_rfl
  f229 := Tryz.func29.trans (congrArg some (by kernel_rfl))
  t0 := Tryz.underlying0
  a0 := Tryz.isAgg0
  z0 := Tryz.sizeOf0
  v0 := Tryz.zeroValue0
  t3 := Tryz.underlying3
  a3 := Tryz.isAgg3
  z3 := Tryz.sizeOf3
  v3 := Tryz.zeroValue3
  t4 := Tryz.underlying4
  a4 := Tryz.isAgg4
  z4 := Tryz.sizeOf4
  v4 := Tryz.zeroValue4
  t9 := Tryz.underlying9
  a9 := Tryz.isAgg9
  z9 := Tryz.sizeOf9
  v9 := Tryz.zeroValue9
  t21 := Tryz.underlying21
  a21 := Tryz.isAgg21
  z21 := Tryz.sizeOf21
  v21 := Tryz.zeroValue21
  t31 := Tryz.underlying33
  a31 := Tryz.isAgg33
  z31 := Tryz.sizeOf33
  v31 := Tryz.zeroValue33
  t40 := Tryz.underlying64
  a40 := Tryz.isAgg64
  z40 := Tryz.sizeOf64
  v40 := Tryz.zeroValue64
  t152 := Tryz.underlying92
  a152 := Tryz.isAgg92
  z152 := Tryz.sizeOf92
  v152 := Tryz.zeroValue92
  t154 := Tryz.underlying94
  a154 := Tryz.isAgg94
  z154 := Tryz.sizeOf94
  v154 := Tryz.zeroValue94 }
end Go.Proofs

namespace Go.Proofs.YtjfdhafmbcppjaaGreatDoor.S
open Go.RowKit H
attribute [local irreducible] H.CL H.RW H.CW H.Yd H.thenK H.blockQ Go.Calls

def trL (c : UInt8) : List UInt8 → List UInt8
  | [] => []
  | a :: r => if a = c then trL c r else a :: r
def trR (c : UInt8) (l : List UInt8) : List UInt8 := (trL c l.reverse).reverse
theorem trimLeft (l : List UInt8) (c : UInt8) (hl : l.length ≤ 1000000000000) (w : World) : Calls Tryz.prog 54 #[vs l, vb c] w fun e w' => w = w' ∧ e = .returned (vs (trL c l)) := by
  refine H.enter Tryz.func54 Tryz.ntmps54 rfl rfl ?_; dsimp only [H.args]
  repeat' (first | (refine CL.seq ?_) | (refine CL.region ?_) | (refine CL.block ?_) | (refine Gt.nil ?_; refine RW.nilw [0, 1, 4, 13] ?_; dsimp only [H.keep, H.look, H.Fr.put, Nat.beq]) | (refine Gt.assign ?_; refine RW.y (Y.assign rfl) rfl ?_))
  refine CL.loopS [0, 1] (fun m vals wr => ∃ r : List UInt8, vals = [vs r, vb c] ∧ m = r.length ∧ trL c r = trL c l ∧ r.length ≤ l.length ∧ wr = w) l.length ⟨_, rfl, l, rfl, rfl, rfl, Nat.le_refl _, rfl⟩ ?_
  rintro m vals wr ⟨r, rfl, rfl, hr, hle, rfl⟩
  dsimp only [List.zip, List.zipWith]
  rcases r with _ | ⟨a, r⟩
  · repeat' (first | (refine CL.seq ?_) | (refine CL.region ?_) | (refine CL.skip ?_) | (refine CL.condP rfl (fun _ => ?_) (fun _ => ?_) <;> try (exfalso; omega)) | (refine CL.condF rfl ?_) | (refine CL.block ?_) | (refine CL.exit ?_) | (refine Ex.then ?_) | (refine Ex.hit ?_) | (refine CL.ret ?_) | (refine CL.done ?_) | (refine Nm.block ?_) | (refine Nm.then ?_) | (refine Gt.nil ?_; refine RW.nilw [0, 1, 4, 13] ?_; dsimp only [H.keep, H.look, H.Fr.put, Nat.beq]) | (refine Gt.move ?_; refine RW.y (Y.move rfl) rfl ?_) | (refine Gt.guard ?_; first | (refine RW.part rfl rfl rfl (fun _ => ?_) (fun _ => ?_) <;> try (exfalso; omega)) | (refine RW.on rfl rfl rfl ?_) | (refine RW.off1 rfl rfl rfl rfl rfl ?_)) | (refine Gt.assign ?_; refine RW.y (Y.assign rfl) rfl ?_) | (refine Gt.len ?_; refine RW.y (Y.lens rfl) rfl ?_) | (refine Gt.gtr ?_; refine RW.y (Y.gtr rfl rfl) rfl ?_) | (refine Gt.index ?_; refine RW.y (Y.idxs rfl rfl (by omega) (by omega)) rfl ?_) | (refine Gt.eql ?_; refine RW.y (Y.eqi rfl rfl) rfl ?_) | (refine Gt.pick ?_; first | (refine RW.y (Y.pickT rfl rfl) rfl ?_) | (refine RW.y (Y.pickF rfl rfl) rfl ?_)) | (refine Gt.slice ?_; refine RW.y (Y.cutl rfl rfl (by omega) (by omega)) rfl ?_))
    · rename_i h1 h2
      simp at h1
    · exact FQ.one rfl rfl rfl ⟨rfl, by rw [← hr]; rfl⟩
    · exact FQ.one rfl rfl rfl ⟨rfl, by rw [← hr]; rfl⟩
  · repeat' (first | (refine CL.seq ?_) | (refine CL.region ?_) | (refine CL.skip ?_) | (refine CL.condP rfl (fun _ => ?_) (fun _ => ?_) <;> try (exfalso; omega)) | (refine CL.condF rfl ?_) | (refine CL.block ?_) | (refine CL.exit ?_) | (refine Ex.then ?_) | (refine Ex.hit ?_) | (refine CL.ret ?_) | (refine CL.done ?_) | (refine Nm.block ?_) | (refine Nm.then ?_) | (refine Gt.nil ?_; refine RW.nilw [0, 1, 4, 13] ?_; dsimp only [H.keep, H.look, H.Fr.put, Nat.beq]) | (refine Gt.move ?_; refine RW.y (Y.move rfl) rfl ?_) | (refine Gt.guard ?_; first | (refine RW.part rfl rfl rfl (fun _ => ?_) (fun _ => ?_) <;> try (exfalso; omega)) | (refine RW.on rfl rfl rfl ?_) | (refine RW.off1 rfl rfl rfl rfl rfl ?_)) | (refine Gt.assign ?_; refine RW.y (Y.assign rfl) rfl ?_) | (refine Gt.len ?_; refine RW.y (Y.lens rfl) rfl ?_) | (refine Gt.gtr ?_; refine RW.y (Y.gtr rfl rfl) rfl ?_) | (refine Gt.index ?_; refine RW.y (Y.idxs rfl rfl (by omega) (by omega)) rfl ?_) | (refine Gt.eql ?_; refine RW.y (Y.eqi rfl rfl) rfl ?_) | (refine Gt.pick ?_; first | (refine RW.y (Y.pickT rfl rfl) rfl ?_) | (refine RW.y (Y.pickF rfl rfl) rfl ?_)) | (refine Gt.slice ?_; refine RW.y (Y.cutl rfl rfl (by omega) (by omega)) rfl ?_))
    · rename_i h1 h2
      have h3 : a = c := UInt8.toNat_inj.1 (by simp at h2; omega)
      exact ⟨r.length, _, rfl, rfl, rfl, by simp, r, rfl, rfl, by rw [← hr, trL, if_pos h3], by simp at hle; omega, rfl⟩
    · rename_i h1 h2
      exact FQ.one rfl rfl rfl ⟨rfl, by rw [← hr, trL, if_neg (by intro c'; apply h2; rw [c']; rfl)]⟩
    · rename_i h1
      simp at h1

theorem trR_snoc (c : UInt8) (r : List UInt8) (a : UInt8) : trR c (r ++ [a]) = if a = c then trR c r else r ++ [a] := by
  rw [trR, List.reverse_append, List.reverse_singleton, List.singleton_append, trL]
  split
  · rfl
  · simp
theorem trR_len (c : UInt8) (l : List UInt8) : (trR c l).length ≤ l.length := by
  have h : ∀ m : List UInt8, (trL c m).length ≤ m.length := by
    intro m
    induction m with
    | nil => exact Nat.le_refl _
    | cons a r ih => rw [trL]; split <;> simp; omega
  rw [trR, List.length_reverse]
  have := h l.reverse
  simpa using this
theorem trimRight (l : List UInt8) (c : UInt8) (hl : l.length ≤ 1000000000000) (w : World) : Calls Tryz.prog 55 #[vs l, vb c] w fun e w' => w = w' ∧ e = .returned (vs (trR c l)) := by
  refine H.enter Tryz.func55 Tryz.ntmps55 rfl rfl ?_; dsimp only [H.args]
  repeat' (first | (refine CL.seq ?_) | (refine CL.region ?_) | (refine CL.block ?_) | (refine Gt.nil ?_; refine RW.nilw [0, 1, 4, 16] ?_; dsimp only [H.keep, H.look, H.Fr.put, Nat.beq]) | (refine Gt.assign ?_; refine RW.y (Y.assign rfl) rfl ?_))
  refine CL.loopS [0, 1] (fun m vals wr => ∃ r : List UInt8, vals = [vs r, vb c] ∧ m = r.length ∧ trR c r = trR c l ∧ r.length ≤ l.length ∧ wr = w) l.length ⟨_, rfl, l, rfl, rfl, rfl, Nat.le_refl _, rfl⟩ ?_
  rintro m vals wr ⟨r, rfl, rfl, hr, hle, rfl⟩
  dsimp only [List.zip, List.zipWith]
  rcases List.eq_nil_or_concat r with rfl | ⟨q, a, rfl⟩
  · repeat' (first | (refine CL.seq ?_) | (refine CL.region ?_) | (refine CL.skip ?_) | (refine CL.condP rfl (fun _ => ?_) (fun _ => ?_) <;> try (exfalso; omega)) | (refine CL.condF rfl ?_) | (refine CL.block ?_) | (refine CL.exit ?_) | (refine Ex.then ?_) | (refine Ex.hit ?_) | (refine CL.ret ?_) | (refine CL.done ?_) | (refine Nm.block ?_) | (refine Nm.then ?_) | (refine Gt.nil ?_; refine RW.nilw [0, 1, 4, 16] ?_; dsimp only [H.keep, H.look, H.Fr.put, Nat.beq]) | (refine Gt.move ?_; refine RW.y (Y.move rfl) rfl ?_) | (refine Gt.guard ?_; first | (refine RW.part rfl rfl rfl (fun _ => ?_) (fun _ => ?_) <;> try (exfalso; omega)) | (refine RW.on rfl rfl rfl ?_) | (refine RW.off1 rfl rfl rfl rfl rfl ?_)) | (refine Gt.assign ?_; refine RW.y (Y.assign rfl) rfl ?_) | (refine Gt.len ?_; refine RW.y (Y.lens rfl) rfl ?_) | (refine Gt.sub ?_; refine RW.y (Y.sub64 rfl rfl (by omega) (by omega)) rfl ?_) | (refine Gt.gtr ?_; refine RW.y (Y.gtr rfl rfl) rfl ?_) | (refine Gt.index ?_; refine RW.y (Y.idxs rfl rfl (by omega) (by omega)) rfl ?_) | (refine Gt.eql ?_; refine RW.y (Y.eqi rfl rfl) rfl ?_) | (refine Gt.pick ?_; first | (refine RW.y (Y.pickT rfl rfl) rfl ?_) | (refine RW.y (Y.pickF rfl rfl) rfl ?_)) | (refine Gt.slice ?_; refine RW.y (Y.cuth rfl rfl (by omega) (by omega)) rfl ?_))
    · rename_i h1 h2
      simp at h1
    · exact FQ.one rfl rfl rfl ⟨rfl, by rw [← hr]; rfl⟩
    · exact FQ.one rfl rfl rfl ⟨rfl, by rw [← hr]; rfl⟩
  · rw [List.concat_eq_append] at *
    have hlen : (q ++ [a]).length = q.length + 1 := by simp
    have hd : (q ++ [a]).getD ((((q ++ [a]).length : Nat) : Int) - 1).toNat 0 = a := by
      rw [hlen, show (((q.length + 1 : Nat) : Int) - 1).toNat = q.length from by omega]; simp
    have ht : (q ++ [a]).take ((((q ++ [a]).length : Nat) : Int) - 1).toNat = q := by
      rw [hlen, show (((q.length + 1 : Nat) : Int) - 1).toNat = q.length from by omega]; simp
    repeat' (first | (refine CL.seq ?_) | (refine CL.region ?_) | (refine CL.skip ?_) | (refine CL.condP rfl (fun _ => ?_) (fun _ => ?_) <;> try (exfalso; omega)) | (refine CL.block ?_) | (refine CL.exit ?_) | (refine Ex.then ?_) | (refine Ex.hit ?_) | (refine CL.ret ?_) | (refine CL.done ?_) | (refine Nm.block ?_) | (refine Nm.then ?_) | (refine Gt.nil ?_; refine RW.nilw [0, 1, 4, 16] ?_; dsimp only [H.keep, H.look, H.Fr.put, Nat.beq]) | (refine Gt.move ?_; refine RW.y (Y.move rfl) rfl ?_) | (refine Gt.guard ?_; first | (refine RW.part rfl rfl rfl (fun _ => ?_) (fun _ => ?_) <;> try (exfalso; omega)) | (refine RW.on rfl rfl rfl ?_)) | (refine Gt.assign ?_; refine RW.y (Y.assign rfl) rfl ?_) | (refine Gt.len ?_; refine RW.y (Y.lens rfl) rfl ?_) | (refine Gt.sub ?_; refine RW.y (Y.sub64 rfl rfl (by omega) (by omega)) rfl ?_) | (refine Gt.gtr ?_; refine RW.y (Y.gtr rfl rfl) rfl ?_) | (refine Gt.index ?_; refine RW.y (Y.idxs rfl rfl (by omega) (by omega)) rfl ?_) | (refine Gt.eql ?_; refine RW.y (Y.eqi rfl rfl) rfl ?_) | (refine Gt.pick ?_; (refine RW.y (Y.pickT rfl rfl) rfl ?_)) | (refine Gt.slice ?_; refine RW.y (Y.cuth rfl rfl (by omega) (by omega)) rfl ?_))
    · rename_i h1 h2
      have h3 : a = c := UInt8.toNat_inj.1 (by rw [hd] at h2; omega)
      rw [ht]
      exact ⟨q.length, _, rfl, rfl, rfl, by rw [hlen]; omega, q, rfl, rfl, by rw [← hr, trR_snoc, if_pos h3], by omega, rfl⟩
    · rename_i h1 h2
      rw [hd] at h2
      exact FQ.one rfl rfl rfl ⟨rfl, by rw [← hr, trR_snoc, if_neg (by intro c'; apply h2; rw [c'])]⟩

theorem trim (l : List UInt8) (c : UInt8) (hc : c.toNat < 128) (hl : l.length ≤ 1000000000000) (w : World) : Calls Tryz.prog 27 #[vs l, vs [c]] w fun e w' => K0 w w' ∧ e = .returned (vs (trL c (trR c l))) := by
  have hlen := trR_len c l
  have h0 : ([c] : List UInt8).getD (Int.toNat 0) 0 = c := rfl
  have h1l : ([c] : List UInt8).length = 1 := rfl
  refine H.enter Tryz.func27 Tryz.ntmps27 rfl rfl ?_; dsimp only [H.args]
  repeat' (first | (refine CL.seq ?_) | (refine CL.region ?_) | (refine CL.skip ?_) | (refine CL.condP rfl (fun _ => ?_) (fun _ => ?_) <;> try (exfalso; omega)) | (refine CL.condT rfl ?_) | (refine CL.ret ?_) | (refine Gt.nil ?_; refine RW.nilw [0, 1, 4, 5, 6, 12, 21, 34] ?_; dsimp only [H.keep, H.look, H.Fr.put, Nat.beq]) | (refine Gt.move ?_; refine RW.y (Y.move rfl) rfl ?_) | (refine Gt.guard ?_; first | (refine RW.part rfl rfl rfl (fun _ => ?_) (fun _ => ?_) <;> try (exfalso; omega)) | (refine RW.on rfl rfl rfl ?_) | (refine RW.off1 rfl rfl rfl rfl rfl ?_)) | (refine Gt.assign ?_; refine RW.y (Y.assign rfl) rfl ?_) | (refine Gt.index ?_; refine RW.y (Y.idxs rfl rfl (by omega) (by omega)) rfl ?_) | (refine Gt.eql ?_; first | (refine RW.y (Y.eqs rfl rfl) rfl ?_) | (refine RW.y (Y.eqi rfl rfl) rfl ?_)) | (refine Gt.pick ?_; first | (refine RW.y (Y.pickT rfl rfl) rfl ?_) | (refine RW.y (Y.pickF rfl rfl) rfl ?_)) | (refine Gt.len ?_; refine RW.y (Y.lens rfl) rfl ?_) | (refine Gt.lss ?_; refine RW.y (Y.lss rfl rfl) rfl ?_))
  · have hl0 : l = [] := by assumption
    exact FQ.one rfl rfl rfl ⟨Kept.refl _ _, by rw [hl0]; rfl⟩
  · exfalso; rename_i h1; simp at h1
  · refine CL.draw (fun w' => K0 w w') (by kernel_rfl) (fun w2 hheap hk2 => ?_)
    have hS : K0 w w2 := hk2
    skip
    refine AW.take 0 rfl (by kernel_rfl) (by kernel_rfl) (by kernel_rfl) rfl (by assumption) (fun w hS => Y.move rfl) ?_
    refine AW.take 1 rfl (by kernel_rfl) (by kernel_rfl) (by kernel_rfl) rfl (by assumption) (fun w hS => Y.move rfl) ?_
    refine AW.take 2 rfl (by kernel_rfl) (by kernel_rfl) (by kernel_rfl) rfl (by assumption) (fun w hS => Y.idxs (a := [c]) rfl rfl (by omega) (by simp)) ?_
    refine AW.take 4 rfl (by kernel_rfl) (by kernel_rfl) (by kernel_rfl) rfl (by assumption) (fun w hS => Y.move rfl) ?_
    refine AW.take 5 rfl (by kernel_rfl) (by kernel_rfl) (by kernel_rfl) rfl (by assumption) (fun w hS => Y.idxs (a := [c]) rfl rfl (by omega) (by simp)) ?_
    refine AW.next 3 rfl (by kernel_rfl) ?_
    refine RW.fn rfl rfl ((trimRight l c hl w2).mono ?_)
    rintro e w3 ⟨rfl, rfl⟩
    refine RW.nil (Nm.then (rebase0 hS (Kept.refl _ w2) fun hS => ?_))
    skip
    refine AW.next 6 rfl (by kernel_rfl) ?_
    refine RW.fn rfl rfl ((trimLeft (trR c l) c (by omega) w2).mono ?_)
    rintro e w3 ⟨rfl, rfl⟩
    refine RW.nil (Nm.then (rebase0 hS (Kept.refl _ w2) fun hS => ?_))
    refine AW.take 7 rfl (by kernel_rfl) (by kernel_rfl) (by kernel_rfl) rfl (by assumption) (fun w hS => Y.assign rfl) ?_
    refine AW.donew [4] (by kernel_rfl) ?_
    dsimp only [H.keep, H.look, H.Fr.put, Nat.beq]
    repeat' ((refine CL.ret ?_))
    exact FQ.one rfl rfl rfl ⟨hk2, rfl⟩
  · exfalso; rename_i h1; rw [h0] at h1; omega

theorem trL_head (c : UInt8) (r : List UInt8) : ∀ m : List UInt8, trL c m ≠ c :: r := by
  intro m
  induction m with
  | nil => simp [trL]
  | cons a m ih =>
    rw [trL]
    split
    · exact ih
    · rename_i h; intro e; simp at e; exact h e.1
theorem trL_suf (c : UInt8) : ∀ m : List UInt8, ∃ p, m = p ++ trL c m := by
  intro m
  induction m with
  | nil => exact ⟨[], rfl⟩
  | cons a m ih =>
    obtain ⟨p, hp⟩ := ih
    rw [trL]
    split
    · exact ⟨a :: p, by rw [List.cons_append, ← hp]⟩
    · exact ⟨[], rfl⟩
theorem trR_last (c : UInt8) (l r : List UInt8) : trR c l ≠ r ++ [c] := by
  intro e
  have := congrArg List.reverse e
  rw [trR, List.reverse_reverse] at this
  simp at this
  exact trL_head c r.reverse l.reverse this
theorem splitB_snoc (c : UInt8) : ∀ l : List UInt8, splitB c (l ++ [c]) = splitB c l ++ [[]] := by
  intro l
  induction l with
  | nil => simp [splitB]
  | cons a l ih =>
    rw [List.cons_append, splitB, splitB, ih]
    split
    · rfl
    · cases h : splitB c l with
      | nil => exact absurd h (splitB_ne c l)
      | cons b m => simp
theorem words_trL : ∀ l : List UInt8, Sp.wordsB (trL 32 l) = Sp.wordsB l := by
  intro l
  induction l with
  | nil => rfl
  | cons a l ih =>
    rw [trL]
    split
    · rename_i h; rw [h, Sp.wordsB_sp, ih]
    · rfl
theorem words_trR (l : List UInt8) : Sp.wordsB (trR 32 l) = Sp.wordsB l := by
  obtain ⟨n, hn⟩ : ∃ n, l.length = n := ⟨_, rfl⟩
  induction n generalizing l with
  | zero => rw [List.eq_nil_of_length_eq_zero hn]; rfl
  | succ n ih =>
    rcases List.eq_nil_or_concat l with rfl | ⟨q, a, rfl⟩
    · rfl
    · rw [List.concat_eq_append] at *
      rw [trR_snoc]
      split
      · rename_i h
        subst h
        rw [ih q (by simpa using hn), Sp.wordsB, Sp.wordsB, splitB_snoc]
        simp
      · rfl
theorem words_none : ∀ (n : Nat) (l : List UInt8), l.length ≤ n → Sp.wordsB l = [] → ∀ c ∈ l, c = 32 := by
  intro n
  induction n with
  | zero => intro l h _ c hc; rw [List.eq_nil_of_length_eq_zero (Nat.le_zero.1 h)] at hc; cases hc
  | succ n ih =>
    intro l h hw c hc
    by_cases h32 : (32 : UInt8) ∈ l
    · obtain ⟨x, r, rfl, hx⟩ := List.eq_append_cons_of_mem h32
      by_cases h0 : x = []
      · subst h0
        rw [List.nil_append, Sp.wordsB_sp] at hw
        rw [List.nil_append] at hc h
        rcases List.mem_cons.1 hc with rfl | hc
        · rfl
        · exact ih r (by simpa using h) hw c hc
      · rw [Sp.wordsB_word x r hx h0] at hw; cases hw
    · by_cases h0 : l = []
      · rw [h0] at hc; cases hc
      · rw [Sp.wordsB_last l h32 h0] at hw; cases hw
/-- One star, maybe with spaces about. -/
theorem trim_star (l : List UInt8) : trL 32 (trR 32 l) = [42] ↔ Sp.wordsB l = [[42]] := by
  constructor
  · intro h
    rw [← words_trR, ← words_trL, h]
    decide
  · intro h
    rw [← words_trR, ← words_trL] at h
    obtain ⟨p, hp⟩ := trL_suf 32 (trR 32 l)
    have hl : ∀ r, trL 32 (trR 32 l) ≠ r ++ [32] := fun r e => trR_last 32 l (p ++ r) (by rw [List.append_assoc, ← e]; exact hp)
    have hh := fun r => trL_head 32 r (trR 32 l)
    generalize trL 32 (trR 32 l) = t at h hl hh
    by_cases h32 : (32 : UInt8) ∈ t
    · obtain ⟨x, r, rfl, hx⟩ := List.eq_append_cons_of_mem h32
      by_cases h0 : x = []
      · subst h0; exact absurd rfl (hh r)
      · rw [Sp.wordsB_word x r hx h0] at h
        simp at h
        have hr := words_none _ r (Nat.le_refl _) h.2
        rcases List.eq_nil_or_concat r with rfl | ⟨q, a, rfl⟩
        · exact absurd rfl (hl x)
        · rw [List.concat_eq_append] at *
          have := hr a (by simp)
          subst this
          exact absurd (by simp) (hl (x ++ 32 :: q))
    · by_cases h0 : t = []
      · rw [h0] at h; cases h
      · rw [Sp.wordsB_last t h32 h0] at h
        simpa using h
end Go.Proofs.YtjfdhafmbcppjaaGreatDoor.S

namespace Go.Proofs.YtjfdhafmbcppjaaGreatDoor.S
open Go.RowKit H
attribute [local irreducible] H.CL H.RW H.CW H.Yd H.thenK H.blockQ Go.Calls

def lastIdxA (c : UInt8) (l : List UInt8) : Nat → Int
  | 0 => -1
  | n + 1 => if l.getD n 0 = c then (n : Int) else lastIdxA c l n
def lastIdx (c : UInt8) (l : List UInt8) : Int := lastIdxA c l l.length
theorem lastIdxA_bd (c : UInt8) (l : List UInt8) : ∀ n, -1 ≤ lastIdxA c l n ∧ lastIdxA c l n < (n : Int) := by
  intro n
  induction n with
  | zero => simp [lastIdxA]
  | succ n ih => unfold lastIdxA; split <;> omega
theorem lastIdx_bd (c : UInt8) (l : List UInt8) : -1 ≤ lastIdx c l ∧ lastIdx c l < (l.length : Int) := lastIdxA_bd c l _

theorem u8_eq {a b : UInt8} (h : (a.toNat : Int) = (b.toNat : Int)) : a = b := UInt8.toNat_inj.1 (by omega)

end Go.Proofs.YtjfdhafmbcppjaaGreatDoor.S


/- Closed facts on the types and functions of this seat's program, printed by facts.py; each by the kernel. -/
import Derived.Test.YtbenllhoofoahaaVcL
import Derived.Test.YtbenllhoofoahaaChecked
import Derived.KernelRfl
namespace Go.Proofs.Ytbenllhoofoahaa
open Go Go.Vc
set_option maxRecDepth 100000
set_option linter.unusedVariables false
theorem mixed : Try.prog.follows .mixedOrders = true := by kernel_rfl
theorem c2 : Try.prog.cellsOf 2 = 1 := by kernel_rfl
theorem i2 : (Try.prog.info? 2).isSome = true := by kernel_rfl
theorem c3 : Try.prog.cellsOf 3 = 1 := by kernel_rfl
theorem i3 : (Try.prog.info? 3).isSome = true := by kernel_rfl
theorem c4 : Try.prog.cellsOf 4 = 1 := by kernel_rfl
theorem i4 : (Try.prog.info? 4).isSome = true := by kernel_rfl
theorem c5 : Try.prog.cellsOf 5 = 1 := by kernel_rfl
theorem i5 : (Try.prog.info? 5).isSome = true := by kernel_rfl
theorem c9 : Try.prog.cellsOf 9 = 1 := by kernel_rfl
theorem i9 : (Try.prog.info? 9).isSome = true := by kernel_rfl
theorem c22 : Try.prog.cellsOf 22 = 6 := by kernel_rfl
theorem i22 : (Try.prog.info? 22).isSome = true := by kernel_rfl
theorem c23 : Try.prog.cellsOf 23 = 36 := by kernel_rfl
theorem i23 : (Try.prog.info? 23).isSome = true := by kernel_rfl
theorem c25 : Try.prog.cellsOf 25 = 37 := by kernel_rfl
theorem i25 : (Try.prog.info? 25).isSome = true := by kernel_rfl
theorem c26 : Try.prog.cellsOf 26 = 216 := by kernel_rfl
theorem i26 : (Try.prog.info? 26).isSome = true := by kernel_rfl
theorem c27 : Try.prog.cellsOf 27 = 6 := by kernel_rfl
theorem i27 : (Try.prog.info? 27).isSome = true := by kernel_rfl
theorem c29 : Try.prog.cellsOf 29 = 224 := by kernel_rfl
theorem i29 : (Try.prog.info? 29).isSome = true := by kernel_rfl
theorem c30 : Try.prog.cellsOf 30 = 36 := by kernel_rfl
theorem i30 : (Try.prog.info? 30).isSome = true := by kernel_rfl
theorem c32 : Try.prog.cellsOf 32 = 484 := by kernel_rfl
theorem i32 : (Try.prog.info? 32).isSome = true := by kernel_rfl
theorem c35 : Try.prog.cellsOf 35 = 37 := by kernel_rfl
theorem i35 : (Try.prog.info? 35).isSome = true := by kernel_rfl
theorem c39 : Try.prog.cellsOf 39 = 1 := by kernel_rfl
theorem i39 : (Try.prog.info? 39).isSome = true := by kernel_rfl
theorem c41 : Try.prog.cellsOf 41 = 1 := by kernel_rfl
theorem i41 : (Try.prog.info? 41).isSome = true := by kernel_rfl
theorem c61 : Try.prog.cellsOf 61 = 1 := by kernel_rfl
theorem i61 : (Try.prog.info? 61).isSome = true := by kernel_rfl
theorem c63 : Try.prog.cellsOf 63 = 1 := by kernel_rfl
theorem i63 : (Try.prog.info? 63).isSome = true := by kernel_rfl
theorem c66 : Try.prog.cellsOf 66 = 1 := by kernel_rfl
theorem i66 : (Try.prog.info? 66).isSome = true := by kernel_rfl
theorem c73 : Try.prog.cellsOf 73 = 6 := by kernel_rfl
theorem i73 : (Try.prog.info? 73).isSome = true := by kernel_rfl
theorem c88 : Try.prog.cellsOf 88 = 1 := by kernel_rfl
theorem i88 : (Try.prog.info? 88).isSome = true := by kernel_rfl
theorem c92 : Try.prog.cellsOf 92 = 1 := by kernel_rfl
theorem i92 : (Try.prog.info? 92).isSome = true := by kernel_rfl
theorem c101 : Try.prog.cellsOf 101 = 1 := by kernel_rfl
theorem i101 : (Try.prog.info? 101).isSome = true := by kernel_rfl
theorem c103 : Try.prog.cellsOf 103 = 1 := by kernel_rfl
theorem i103 : (Try.prog.info? 103).isSome = true := by kernel_rfl
theorem c106 : Try.prog.cellsOf 106 = 1 := by kernel_rfl
theorem i106 : (Try.prog.info? 106).isSome = true := by kernel_rfl
theorem c107 : Try.prog.cellsOf 107 = 1 := by kernel_rfl
theorem i107 : (Try.prog.info? 107).isSome = true := by kernel_rfl
theorem c111 : Try.prog.cellsOf 111 = 1 := by kernel_rfl
theorem i111 : (Try.prog.info? 111).isSome = true := by kernel_rfl
theorem c115 : Try.prog.cellsOf 115 = 1 := by kernel_rfl
theorem i115 : (Try.prog.info? 115).isSome = true := by kernel_rfl
theorem z2 : zeroOf Try.prog 2 = some [.int .i64 0] := by kernel_rfl
theorem l2 (A : Mem) (b o : Nat) : loadV Try.prog A 2 (.pointer (some ⟨b, o, none⟩)) = cellAt (A b) o := loadV_cell Try.underlying2 rfl b o
theorem s2 (M : Mem) (b o : Nat) (v : Value) : storeV Try.prog M 2 (.pointer (some ⟨b, o, none⟩)) v = putAt (M b) M b o 1 v := storeV_at c2 i2 b o v
theorem z3 : zeroOf Try.prog 3 = some [.int .i64 0] := by kernel_rfl
theorem l3 (A : Mem) (b o : Nat) : loadV Try.prog A 3 (.pointer (some ⟨b, o, none⟩)) = cellAt (A b) o := loadV_cell Try.underlying3 rfl b o
theorem s3 (M : Mem) (b o : Nat) (v : Value) : storeV Try.prog M 3 (.pointer (some ⟨b, o, none⟩)) v = putAt (M b) M b o 1 v := storeV_at c3 i3 b o v
theorem z4 : zeroOf Try.prog 4 = some [.bool false] := by kernel_rfl
theorem l4 (A : Mem) (b o : Nat) : loadV Try.prog A 4 (.pointer (some ⟨b, o, none⟩)) = cellAt (A b) o := loadV_cell Try.underlying4 rfl b o
theorem s4 (M : Mem) (b o : Nat) (v : Value) : storeV Try.prog M 4 (.pointer (some ⟨b, o, none⟩)) v = putAt (M b) M b o 1 v := storeV_at c4 i4 b o v
theorem z5 : zeroOf Try.prog 5 = some [.int .u8 0] := by kernel_rfl
theorem l5 (A : Mem) (b o : Nat) : loadV Try.prog A 5 (.pointer (some ⟨b, o, none⟩)) = cellAt (A b) o := loadV_cell Try.underlying5 rfl b o
theorem s5 (M : Mem) (b o : Nat) (v : Value) : storeV Try.prog M 5 (.pointer (some ⟨b, o, none⟩)) v = putAt (M b) M b o 1 v := storeV_at c5 i5 b o v
theorem z9 : zeroOf Try.prog 9 = some [.string ByteArray.empty] := by kernel_rfl
theorem l9 (A : Mem) (b o : Nat) : loadV Try.prog A 9 (.pointer (some ⟨b, o, none⟩)) = cellAt (A b) o := loadV_cell Try.underlying9 rfl b o
theorem s9 (M : Mem) (b o : Nat) (v : Value) : storeV Try.prog M 9 (.pointer (some ⟨b, o, none⟩)) v = putAt (M b) M b o 1 v := storeV_at c9 i9 b o v
theorem z22 : zeroOf Try.prog 22 = some (tab 6 fun k => .int .u8 0) := by kernel_rfl
theorem l22 (A : Mem) (b o : Nat) : loadV Try.prog A 22 (.pointer (some ⟨b, o, none⟩)) = segAt (A b) o 6 := loadV_row Try.underlying22 rfl c22 b o
theorem s22 (M : Mem) (b o : Nat) (v : Value) : storeV Try.prog M 22 (.pointer (some ⟨b, o, none⟩)) v = putAt (M b) M b o 6 v := storeV_at c22 i22 b o v
theorem x22 (b o : Nat) (k : IntKind) (j : Int) (h : 0 ≤ j ∧ j < (6 : Nat)) : indexAddrV Try.prog 22 (.pointer (some ⟨b, o, none⟩)) (.int k j) = some (.pointer (some ⟨b, o + j.toNat * 1, none⟩)) := indexAddrV_arr Try.underlying22 i5 c5 b o k j h
theorem v22 (cs : Array Value) (k : IntKind) (j : Int) (h : 0 ≤ j ∧ j < (6 : Nat)) : indexV Try.prog 22 (.agg cs) (.int k j) = cs[j.toNat * 1]? := indexV_cell Try.underlying22 Try.underlying5 rfl c5 cs k j h
theorem z23 : zeroOf Try.prog 23 = some (tab 36 fun k => .int .u8 0) := by kernel_rfl
theorem l23 (A : Mem) (b o : Nat) : loadV Try.prog A 23 (.pointer (some ⟨b, o, none⟩)) = segAt (A b) o 36 := loadV_row Try.underlying23 rfl c23 b o
theorem s23 (M : Mem) (b o : Nat) (v : Value) : storeV Try.prog M 23 (.pointer (some ⟨b, o, none⟩)) v = putAt (M b) M b o 36 v := storeV_at c23 i23 b o v
theorem x23 (b o : Nat) (k : IntKind) (j : Int) (h : 0 ≤ j ∧ j < (6 : Nat)) : indexAddrV Try.prog 23 (.pointer (some ⟨b, o, none⟩)) (.int k j) = some (.pointer (some ⟨b, o + j.toNat * 6, none⟩)) := indexAddrV_arr Try.underlying23 i22 c22 b o k j h
theorem v23 (cs : Array Value) (k : IntKind) (j : Int) (h : 0 ≤ j ∧ j < (6 : Nat)) : indexV Try.prog 23 (.agg cs) (.int k j) = some (.agg (cs.extract (j.toNat * 6) (j.toNat * 6 + 6))) := indexV_row Try.underlying23 Try.underlying22 rfl c22 cs k j h
theorem z25 : zeroOf Try.prog 25 = some (tab 37 fun k => if k < 1 then .int .i64 0 else .int .u8 0) := by kernel_rfl
theorem l25 (A : Mem) (b o : Nat) : loadV Try.prog A 25 (.pointer (some ⟨b, o, none⟩)) = segAt (A b) o 37 := loadV_row Try.underlying25 rfl c25 b o
theorem s25 (M : Mem) (b o : Nat) (v : Value) : storeV Try.prog M 25 (.pointer (some ⟨b, o, none⟩)) v = putAt (M b) M b o 37 v := storeV_at c25 i25 b o v
theorem f25_0 (b o : Nat) : fieldAddrV Try.prog 25 (.pointer (some ⟨b, o, none⟩)) 0 = some (.pointer (some ⟨b, o + 0, none⟩)) := fieldAddrV_at (i := 0) (k := 0) Try.underlying25 rfl (by kernel_rfl) rfl b o
theorem f25_1 (b o : Nat) : fieldAddrV Try.prog 25 (.pointer (some ⟨b, o, none⟩)) 1 = some (.pointer (some ⟨b, o + 1, none⟩)) := fieldAddrV_at (i := 1) (k := 1) Try.underlying25 rfl (by kernel_rfl) rfl b o
theorem z26 : zeroOf Try.prog 26 = some (tab 216 fun k => .int .u8 0) := by kernel_rfl
theorem l26 (A : Mem) (b o : Nat) : loadV Try.prog A 26 (.pointer (some ⟨b, o, none⟩)) = segAt (A b) o 216 := loadV_row Try.underlying26 rfl c26 b o
theorem s26 (M : Mem) (b o : Nat) (v : Value) : storeV Try.prog M 26 (.pointer (some ⟨b, o, none⟩)) v = putAt (M b) M b o 216 v := storeV_at c26 i26 b o v
theorem x26 (b o : Nat) (k : IntKind) (j : Int) (h : 0 ≤ j ∧ j < (6 : Nat)) : indexAddrV Try.prog 26 (.pointer (some ⟨b, o, none⟩)) (.int k j) = some (.pointer (some ⟨b, o + j.toNat * 36, none⟩)) := indexAddrV_arr Try.underlying26 i23 c23 b o k j h
theorem v26 (cs : Array Value) (k : IntKind) (j : Int) (h : 0 ≤ j ∧ j < (6 : Nat)) : indexV Try.prog 26 (.agg cs) (.int k j) = some (.agg (cs.extract (j.toNat * 36) (j.toNat * 36 + 36))) := indexV_row Try.underlying26 Try.underlying23 rfl c23 cs k j h
theorem z27 : zeroOf Try.prog 27 = some (tab 6 fun k => .int .u8 0) := by kernel_rfl
theorem l27 (A : Mem) (b o : Nat) : loadV Try.prog A 27 (.pointer (some ⟨b, o, none⟩)) = segAt (A b) o 6 := loadV_row Try.underlying27 rfl c27 b o
theorem s27 (M : Mem) (b o : Nat) (v : Value) : storeV Try.prog M 27 (.pointer (some ⟨b, o, none⟩)) v = putAt (M b) M b o 6 v := storeV_at c27 i27 b o v
theorem x27 (b o : Nat) (k : IntKind) (j : Int) (h : 0 ≤ j ∧ j < (6 : Nat)) : indexAddrV Try.prog 27 (.pointer (some ⟨b, o, none⟩)) (.int k j) = some (.pointer (some ⟨b, o + j.toNat * 1, none⟩)) := indexAddrV_arr Try.underlying27 i5 c5 b o k j h
theorem v27 (cs : Array Value) (k : IntKind) (j : Int) (h : 0 ≤ j ∧ j < (6 : Nat)) : indexV Try.prog 27 (.agg cs) (.int k j) = cs[j.toNat * 1]? := indexV_cell Try.underlying27 Try.underlying5 rfl c5 cs k j h
theorem z29 : zeroOf Try.prog 29 = some (tab 224 fun k => if k < 2 then .int .i64 0 else .int .u8 0) := by kernel_rfl
theorem l29 (A : Mem) (b o : Nat) : loadV Try.prog A 29 (.pointer (some ⟨b, o, none⟩)) = segAt (A b) o 224 := loadV_row Try.underlying29 rfl c29 b o
theorem s29 (M : Mem) (b o : Nat) (v : Value) : storeV Try.prog M 29 (.pointer (some ⟨b, o, none⟩)) v = putAt (M b) M b o 224 v := storeV_at c29 i29 b o v
theorem f29_0 (b o : Nat) : fieldAddrV Try.prog 29 (.pointer (some ⟨b, o, none⟩)) 0 = some (.pointer (some ⟨b, o + 0, none⟩)) := fieldAddrV_at (i := 0) (k := 0) Try.underlying29 rfl (by kernel_rfl) rfl b o
theorem f29_1 (b o : Nat) : fieldAddrV Try.prog 29 (.pointer (some ⟨b, o, none⟩)) 1 = some (.pointer (some ⟨b, o + 1, none⟩)) := fieldAddrV_at (i := 1) (k := 1) Try.underlying29 rfl (by kernel_rfl) rfl b o
theorem f29_2 (b o : Nat) : fieldAddrV Try.prog 29 (.pointer (some ⟨b, o, none⟩)) 2 = some (.pointer (some ⟨b, o + 2, none⟩)) := fieldAddrV_at (i := 2) (k := 2) Try.underlying29 rfl (by kernel_rfl) rfl b o
theorem f29_3 (b o : Nat) : fieldAddrV Try.prog 29 (.pointer (some ⟨b, o, none⟩)) 3 = some (.pointer (some ⟨b, o + 218, none⟩)) := fieldAddrV_at (i := 3) (k := 218) Try.underlying29 rfl (by kernel_rfl) rfl b o
theorem z30 : zeroOf Try.prog 30 = some (tab 36 fun k => .int .u8 0) := by kernel_rfl
theorem l30 (A : Mem) (b o : Nat) : loadV Try.prog A 30 (.pointer (some ⟨b, o, none⟩)) = segAt (A b) o 36 := loadV_row Try.underlying30 rfl c30 b o
theorem s30 (M : Mem) (b o : Nat) (v : Value) : storeV Try.prog M 30 (.pointer (some ⟨b, o, none⟩)) v = putAt (M b) M b o 36 v := storeV_at c30 i30 b o v
theorem x30 (b o : Nat) (k : IntKind) (j : Int) (h : 0 ≤ j ∧ j < (6 : Nat)) : indexAddrV Try.prog 30 (.pointer (some ⟨b, o, none⟩)) (.int k j) = some (.pointer (some ⟨b, o + j.toNat * 6, none⟩)) := indexAddrV_arr Try.underlying30 i27 c27 b o k j h
theorem v30 (cs : Array Value) (k : IntKind) (j : Int) (h : 0 ≤ j ∧ j < (6 : Nat)) : indexV Try.prog 30 (.agg cs) (.int k j) = some (.agg (cs.extract (j.toNat * 6) (j.toNat * 6 + 6))) := indexV_row Try.underlying30 Try.underlying27 rfl c27 cs k j h
theorem z32 : zeroOf Try.prog 32 = some (tab 484 fun k => if k < 2 then .int .i64 0 else if k < 224 then .int .u8 0 else if k < 226 then .int .i64 0 else .int .u8 0) := by kernel_rfl
theorem l32 (A : Mem) (b o : Nat) : loadV Try.prog A 32 (.pointer (some ⟨b, o, none⟩)) = segAt (A b) o 484 := loadV_row Try.underlying32 rfl c32 b o
theorem s32 (M : Mem) (b o : Nat) (v : Value) : storeV Try.prog M 32 (.pointer (some ⟨b, o, none⟩)) v = putAt (M b) M b o 484 v := storeV_at c32 i32 b o v
theorem f32_0 (b o : Nat) : fieldAddrV Try.prog 32 (.pointer (some ⟨b, o, none⟩)) 0 = some (.pointer (some ⟨b, o + 0, none⟩)) := fieldAddrV_at (i := 0) (k := 0) Try.underlying32 rfl (by kernel_rfl) rfl b o
theorem f32_1 (b o : Nat) : fieldAddrV Try.prog 32 (.pointer (some ⟨b, o, none⟩)) 1 = some (.pointer (some ⟨b, o + 224, none⟩)) := fieldAddrV_at (i := 1) (k := 224) Try.underlying32 rfl (by kernel_rfl) rfl b o
theorem f32_2 (b o : Nat) : fieldAddrV Try.prog 32 (.pointer (some ⟨b, o, none⟩)) 2 = some (.pointer (some ⟨b, o + 448, none⟩)) := fieldAddrV_at (i := 2) (k := 448) Try.underlying32 rfl (by kernel_rfl) rfl b o
theorem z35 : zeroOf Try.prog 35 = some (tab 37 fun k => if k < 1 then .int .i64 0 else .int .u8 0) := by kernel_rfl
theorem l35 (A : Mem) (b o : Nat) : loadV Try.prog A 35 (.pointer (some ⟨b, o, none⟩)) = segAt (A b) o 37 := loadV_row Try.underlying35 rfl c35 b o
theorem s35 (M : Mem) (b o : Nat) (v : Value) : storeV Try.prog M 35 (.pointer (some ⟨b, o, none⟩)) v = putAt (M b) M b o 37 v := storeV_at c35 i35 b o v
theorem f35_0 (b o : Nat) : fieldAddrV Try.prog 35 (.pointer (some ⟨b, o, none⟩)) 0 = some (.pointer (some ⟨b, o + 0, none⟩)) := fieldAddrV_at (i := 0) (k := 0) Try.underlying35 rfl (by kernel_rfl) rfl b o
theorem f35_1 (b o : Nat) : fieldAddrV Try.prog 35 (.pointer (some ⟨b, o, none⟩)) 1 = some (.pointer (some ⟨b, o + 1, none⟩)) := fieldAddrV_at (i := 1) (k := 1) Try.underlying35 rfl (by kernel_rfl) rfl b o
theorem z39 : zeroOf Try.prog 39 = some [.slice none 0 0] := by kernel_rfl
theorem l39 (A : Mem) (b o : Nat) : loadV Try.prog A 39 (.pointer (some ⟨b, o, none⟩)) = cellAt (A b) o := loadV_cell Try.underlying39 rfl b o
theorem s39 (M : Mem) (b o : Nat) (v : Value) : storeV Try.prog M 39 (.pointer (some ⟨b, o, none⟩)) v = putAt (M b) M b o 1 v := storeV_at c39 i39 b o v
theorem a39 : appendOk Try.prog 41 = true := by kernel_rfl
theorem x39 (b o l c : Nat) (k : IntKind) (j : Int) (h : 0 ≤ j ∧ j < l) : indexAddrV Try.prog 39 (.slice (some ⟨b, o, none⟩) l c) (.int k j) = some (.pointer (some ⟨b, o + j.toNat * 1, none⟩)) := indexAddrV_sl Try.underlying39 i41 c41 b o l c k j h
theorem n39 (p : Option Addr) (l c : Nat) : lenV Try.prog 39 (.slice p l c) = some (.int .i64 l) := lenV_sl Try.underlying39 p l c
theorem slo39 (b o n c : Nat) (k : IntKind) (l : Int) (h : 0 ≤ l ∧ l ≤ n) (hc : l < c) (hnc : n ≤ c) : sliceV Try.prog 39 (.slice (some ⟨b, o, none⟩) n c) (some (.int k l)) none = some (.slice (some ⟨b, o + l.toNat * 1, none⟩) (n - l.toNat) (c - l.toNat)) := sliceV_lo Try.underlying39 i41 c41 b o n c k l h hc hnc
theorem shi39 (b o n c : Nat) (k : IntKind) (l : Int) (h : 0 ≤ l ∧ l ≤ c) : sliceV Try.prog 39 (.slice (some ⟨b, o, none⟩) n c) none (some (.int k l)) = some (.slice (some ⟨b, o, none⟩) l.toNat c) := sliceV_hi Try.underlying39 i41 b o n c k l h
theorem y39 : Try.prog.bytesOf 41 = 24 := by kernel_rfl
theorem z41 : zeroOf Try.prog 41 = some [.slice none 0 0] := by kernel_rfl
theorem l41 (A : Mem) (b o : Nat) : loadV Try.prog A 41 (.pointer (some ⟨b, o, none⟩)) = cellAt (A b) o := loadV_cell Try.underlying41 rfl b o
theorem s41 (M : Mem) (b o : Nat) (v : Value) : storeV Try.prog M 41 (.pointer (some ⟨b, o, none⟩)) v = putAt (M b) M b o 1 v := storeV_at c41 i41 b o v
theorem a41 : appendOk Try.prog 2 = true := by kernel_rfl
theorem x41 (b o l c : Nat) (k : IntKind) (j : Int) (h : 0 ≤ j ∧ j < l) : indexAddrV Try.prog 41 (.slice (some ⟨b, o, none⟩) l c) (.int k j) = some (.pointer (some ⟨b, o + j.toNat * 1, none⟩)) := indexAddrV_sl Try.underlying41 i2 c2 b o l c k j h
theorem n41 (p : Option Addr) (l c : Nat) : lenV Try.prog 41 (.slice p l c) = some (.int .i64 l) := lenV_sl Try.underlying41 p l c
theorem slo41 (b o n c : Nat) (k : IntKind) (l : Int) (h : 0 ≤ l ∧ l ≤ n) (hc : l < c) (hnc : n ≤ c) : sliceV Try.prog 41 (.slice (some ⟨b, o, none⟩) n c) (some (.int k l)) none = some (.slice (some ⟨b, o + l.toNat * 1, none⟩) (n - l.toNat) (c - l.toNat)) := sliceV_lo Try.underlying41 i2 c2 b o n c k l h hc hnc
theorem shi41 (b o n c : Nat) (k : IntKind) (l : Int) (h : 0 ≤ l ∧ l ≤ c) : sliceV Try.prog 41 (.slice (some ⟨b, o, none⟩) n c) none (some (.int k l)) = some (.slice (some ⟨b, o, none⟩) l.toNat c) := sliceV_hi Try.underlying41 i2 b o n c k l h
theorem y41 : Try.prog.bytesOf 2 = 8 := by kernel_rfl
theorem z61 : zeroOf Try.prog 61 = some [.nilFunc] := by kernel_rfl
theorem l61 (A : Mem) (b o : Nat) : loadV Try.prog A 61 (.pointer (some ⟨b, o, none⟩)) = cellAt (A b) o := loadV_cell Try.underlying61 rfl b o
theorem s61 (M : Mem) (b o : Nat) (v : Value) : storeV Try.prog M 61 (.pointer (some ⟨b, o, none⟩)) v = putAt (M b) M b o 1 v := storeV_at c61 i61 b o v
theorem z63 : zeroOf Try.prog 63 = some [.nilFunc] := by kernel_rfl
theorem l63 (A : Mem) (b o : Nat) : loadV Try.prog A 63 (.pointer (some ⟨b, o, none⟩)) = cellAt (A b) o := loadV_cell Try.underlying63 rfl b o
theorem s63 (M : Mem) (b o : Nat) (v : Value) : storeV Try.prog M 63 (.pointer (some ⟨b, o, none⟩)) v = putAt (M b) M b o 1 v := storeV_at c63 i63 b o v
theorem z66 : zeroOf Try.prog 66 = some [.pointer none] := by kernel_rfl
theorem l66 (A : Mem) (b o : Nat) : loadV Try.prog A 66 (.pointer (some ⟨b, o, none⟩)) = cellAt (A b) o := loadV_cell Try.underlying66 rfl b o
theorem s66 (M : Mem) (b o : Nat) (v : Value) : storeV Try.prog M 66 (.pointer (some ⟨b, o, none⟩)) v = putAt (M b) M b o 1 v := storeV_at c66 i66 b o v
theorem z73 : zeroOf Try.prog 73 = some (tab 6 fun k => .bool false) := by kernel_rfl
theorem l73 (A : Mem) (b o : Nat) : loadV Try.prog A 73 (.pointer (some ⟨b, o, none⟩)) = segAt (A b) o 6 := loadV_row Try.underlying73 rfl c73 b o
theorem s73 (M : Mem) (b o : Nat) (v : Value) : storeV Try.prog M 73 (.pointer (some ⟨b, o, none⟩)) v = putAt (M b) M b o 6 v := storeV_at c73 i73 b o v
theorem x73 (b o : Nat) (k : IntKind) (j : Int) (h : 0 ≤ j ∧ j < (6 : Nat)) : indexAddrV Try.prog 73 (.pointer (some ⟨b, o, none⟩)) (.int k j) = some (.pointer (some ⟨b, o + j.toNat * 1, none⟩)) := indexAddrV_arr Try.underlying73 i4 c4 b o k j h
theorem v73 (cs : Array Value) (k : IntKind) (j : Int) (h : 0 ≤ j ∧ j < (6 : Nat)) : indexV Try.prog 73 (.agg cs) (.int k j) = cs[j.toNat * 1]? := indexV_cell Try.underlying73 Try.underlying4 rfl c4 cs k j h
theorem z88 : zeroOf Try.prog 88 = some [.int .u64 0] := by kernel_rfl
theorem l88 (A : Mem) (b o : Nat) : loadV Try.prog A 88 (.pointer (some ⟨b, o, none⟩)) = cellAt (A b) o := loadV_cell Try.underlying88 rfl b o
theorem s88 (M : Mem) (b o : Nat) (v : Value) : storeV Try.prog M 88 (.pointer (some ⟨b, o, none⟩)) v = putAt (M b) M b o 1 v := storeV_at c88 i88 b o v
theorem z92 : zeroOf Try.prog 92 = some [.int .i64 0] := by kernel_rfl
theorem l92 (A : Mem) (b o : Nat) : loadV Try.prog A 92 (.pointer (some ⟨b, o, none⟩)) = cellAt (A b) o := loadV_cell Try.underlying92 rfl b o
theorem s92 (M : Mem) (b o : Nat) (v : Value) : storeV Try.prog M 92 (.pointer (some ⟨b, o, none⟩)) v = putAt (M b) M b o 1 v := storeV_at c92 i92 b o v
theorem z101 : zeroOf Try.prog 101 = some [.int .u32 0] := by kernel_rfl
theorem l101 (A : Mem) (b o : Nat) : loadV Try.prog A 101 (.pointer (some ⟨b, o, none⟩)) = cellAt (A b) o := loadV_cell Try.underlying101 rfl b o
theorem s101 (M : Mem) (b o : Nat) (v : Value) : storeV Try.prog M 101 (.pointer (some ⟨b, o, none⟩)) v = putAt (M b) M b o 1 v := storeV_at c101 i101 b o v
theorem z103 : zeroOf Try.prog 103 = some [.int .u64 0] := by kernel_rfl
theorem l103 (A : Mem) (b o : Nat) : loadV Try.prog A 103 (.pointer (some ⟨b, o, none⟩)) = cellAt (A b) o := loadV_cell Try.underlying103 rfl b o
theorem s103 (M : Mem) (b o : Nat) (v : Value) : storeV Try.prog M 103 (.pointer (some ⟨b, o, none⟩)) v = putAt (M b) M b o 1 v := storeV_at c103 i103 b o v
theorem z106 : zeroOf Try.prog 106 = some [.nilFunc] := by kernel_rfl
theorem l106 (A : Mem) (b o : Nat) : loadV Try.prog A 106 (.pointer (some ⟨b, o, none⟩)) = cellAt (A b) o := loadV_cell Try.underlying106 rfl b o
theorem s106 (M : Mem) (b o : Nat) (v : Value) : storeV Try.prog M 106 (.pointer (some ⟨b, o, none⟩)) v = putAt (M b) M b o 1 v := storeV_at c106 i106 b o v
theorem z107 : zeroOf Try.prog 107 = some [.int .u64 0] := by kernel_rfl
theorem l107 (A : Mem) (b o : Nat) : loadV Try.prog A 107 (.pointer (some ⟨b, o, none⟩)) = cellAt (A b) o := loadV_cell Try.underlying107 rfl b o
theorem s107 (M : Mem) (b o : Nat) (v : Value) : storeV Try.prog M 107 (.pointer (some ⟨b, o, none⟩)) v = putAt (M b) M b o 1 v := storeV_at c107 i107 b o v
theorem z111 : zeroOf Try.prog 111 = some [.pointer none] := by kernel_rfl
theorem l111 (A : Mem) (b o : Nat) : loadV Try.prog A 111 (.pointer (some ⟨b, o, none⟩)) = cellAt (A b) o := loadV_cell Try.underlying111 rfl b o
theorem s111 (M : Mem) (b o : Nat) (v : Value) : storeV Try.prog M 111 (.pointer (some ⟨b, o, none⟩)) v = putAt (M b) M b o 1 v := storeV_at c111 i111 b o v
theorem z115 : zeroOf Try.prog 115 = some [.pointer none] := by kernel_rfl
theorem l115 (A : Mem) (b o : Nat) : loadV Try.prog A 115 (.pointer (some ⟨b, o, none⟩)) = cellAt (A b) o := loadV_cell Try.underlying115 rfl b o
theorem s115 (M : Mem) (b o : Nat) (v : Value) : storeV Try.prog M 115 (.pointer (some ⟨b, o, none⟩)) v = putAt (M b) M b o 1 v := storeV_at c115 i115 b o v
theorem k2_5 (k : IntKind) (x : Int) : convV Try.prog 2 5 (.int k x) = some (.int .u8 (IntKind.wrap .u8 x)) := convV_int Try.underlying2 Try.underlying5 k x
theorem k3_88 (k : IntKind) (x : Int) : convV Try.prog 3 88 (.int k x) = some (.int .u64 (IntKind.wrap .u64 x)) := convV_int Try.underlying3 Try.underlying88 k x
theorem k3_107 (k : IntKind) (x : Int) : convV Try.prog 3 107 (.int k x) = some (.int .u64 (IntKind.wrap .u64 x)) := convV_int Try.underlying3 Try.underlying107 k x
theorem k5_2 (k : IntKind) (x : Int) : convV Try.prog 5 2 (.int k x) = some (.int .i64 (IntKind.wrap .i64 x)) := convV_int Try.underlying5 Try.underlying2 k x
theorem k5_3 (k : IntKind) (x : Int) : convV Try.prog 5 3 (.int k x) = some (.int .i64 (IntKind.wrap .i64 x)) := convV_int Try.underlying5 Try.underlying3 k x
theorem k88_3 (k : IntKind) (x : Int) : convV Try.prog 88 3 (.int k x) = some (.int .i64 (IntKind.wrap .i64 x)) := convV_int Try.underlying88 Try.underlying3 k x
theorem k88_101 (k : IntKind) (x : Int) : convV Try.prog 88 101 (.int k x) = some (.int .u32 (IntKind.wrap .u32 x)) := convV_int Try.underlying88 Try.underlying101 k x
theorem k101_5 (k : IntKind) (x : Int) : convV Try.prog 101 5 (.int k x) = some (.int .u8 (IntKind.wrap .u8 x)) := convV_int Try.underlying101 Try.underlying5 k x
theorem k103_5 (k : IntKind) (x : Int) : convV Try.prog 103 5 (.int k x) = some (.int .u8 (IntKind.wrap .u8 x)) := convV_int Try.underlying103 Try.underlying5 k x
theorem b39_0  : builtS Try.prog 39 0 [] = some (41, []) := by kernel_rfl
theorem b39_1 (p0 : Option Addr) (l0 c0 : Nat) : builtS Try.prog 39 1 [(0, (.slice p0 l0 c0))] = some (41, [(.slice p0 l0 c0)]) := by kernel_rfl
theorem b41_0  : builtS Try.prog 41 0 [] = some (2, []) := by kernel_rfl
theorem b41_1 (x0 : Int) : builtS Try.prog 41 1 [(0, (.int .i64 x0))] = some (2, [(.int .i64 x0)]) := by kernel_rfl
theorem b41_2 (x0 x1 : Int) : builtS Try.prog 41 2 [(0, (.int .i64 x0)), (1, (.int .i64 x1))] = some (2, [(.int .i64 x0), (.int .i64 x1)]) := by kernel_rfl
theorem b41_3 (x0 x1 x2 : Int) : builtS Try.prog 41 3 [(0, (.int .i64 x0)), (1, (.int .i64 x1)), (2, (.int .i64 x2))] = some (2, [(.int .i64 x0), (.int .i64 x1), (.int .i64 x2)]) := by kernel_rfl
theorem b41_6 (x0 x1 x2 x3 x4 x5 : Int) : builtS Try.prog 41 6 [(0, (.int .i64 x0)), (1, (.int .i64 x1)), (2, (.int .i64 x2)), (3, (.int .i64 x3)), (4, (.int .i64 x4)), (5, (.int .i64 x5))] = some (2, [(.int .i64 x0), (.int .i64 x1), (.int .i64 x2), (.int .i64 x3), (.int .i64 x4), (.int .i64 x5)]) := by kernel_rfl
theorem d27_  : (Try.prog.built 27 []).map Value.agg = some (Value.agg (tab 6 fun k => .int .u8 0).toArray) := by kernel_rfl
theorem d27_0 (x0 : Int) : (Try.prog.built 27 [(0, .int .u8 x0)]).map Value.agg = some (Value.agg (tab 6 fun k => if k < 1 then .int .u8 x0 else .int .u8 0).toArray) := by kernel_rfl
theorem d29_0_1 (x0 : Int) (x1 : Int) : (Try.prog.built 29 [(0, .int .i64 x0), (1, .int .i64 x1)]).map Value.agg = some (Value.agg (tab 224 fun k => if k < 1 then .int .i64 x0 else if k < 2 then .int .i64 x1 else .int .u8 0).toArray) := by kernel_rfl
theorem d29_0_1_3 (x0 : Int) (x1 : Int) (g3 : Nat → Value) : (Try.prog.built 29 [(0, .int .i64 x0), (1, .int .i64 x1), (3, Value.agg (tab 6 g3).toArray)]).map Value.agg = some (Value.agg (tab 224 fun k => if k < 1 then .int .i64 x0 else if k < 2 then .int .i64 x1 else if k < 218 then .int .u8 0 else g3 (k - 218)).toArray) := by kernel_rfl
theorem d32_  : (Try.prog.built 32 []).map Value.agg = some (Value.agg (tab 484 fun k => if k < 2 then .int .i64 0 else if k < 224 then .int .u8 0 else if k < 226 then .int .i64 0 else .int .u8 0).toArray) := by kernel_rfl
theorem d32_0_1 (g0 : Nat → Value) (g1 : Nat → Value) : (Try.prog.built 32 [(0, Value.agg (tab 224 g0).toArray), (1, Value.agg (tab 224 g1).toArray)]).map Value.agg = some (Value.agg (tab 484 fun k => if k < 224 then g0 k else if k < 448 then g1 (k - 224) else .int .u8 0).toArray) := by kernel_rfl
theorem d73_  : (Try.prog.built 73 []).map Value.agg = some (Value.agg (tab 6 fun k => .bool false).toArray) := by kernel_rfl
theorem ok3 : callOk Try.prog 3 = true := by kernel_rfl
theorem ok4 : callOk Try.prog 4 = true := by kernel_rfl
theorem ok5 : callOk Try.prog 5 = true := by kernel_rfl
theorem ok6 : callOk Try.prog 6 = true := by kernel_rfl
theorem ok7 : callOk Try.prog 7 = true := by kernel_rfl
theorem ok8 : callOk Try.prog 8 = true := by kernel_rfl
theorem ok9 : callOk Try.prog 9 = true := by kernel_rfl
theorem ok10 : callOk Try.prog 10 = true := by kernel_rfl
theorem ok11 : callOk Try.prog 11 = true := by kernel_rfl
theorem ok12 : callOk Try.prog 12 = true := by kernel_rfl
theorem ok13 : callOk Try.prog 13 = true := by kernel_rfl
theorem ok14 : callOk Try.prog 14 = true := by kernel_rfl
theorem ok15 : callOk Try.prog 15 = true := by kernel_rfl
theorem ok16 : callOk Try.prog 16 = true := by kernel_rfl
theorem ok17 : callOk Try.prog 17 = true := by kernel_rfl
theorem ok18 : callOk Try.prog 18 = true := by kernel_rfl
theorem ok19 : callOk Try.prog 19 = true := by kernel_rfl
theorem ok20 : callOk Try.prog 20 = true := by kernel_rfl
theorem ok21 : callOk Try.prog 21 = true := by kernel_rfl
theorem ok22 : callOk Try.prog 22 = true := by kernel_rfl
theorem ok23 : callOk Try.prog 23 = true := by kernel_rfl
theorem ok24 : callOk Try.prog 24 = true := by kernel_rfl
theorem ok25 : callOk Try.prog 25 = true := by kernel_rfl
theorem ok26 : callOk Try.prog 26 = true := by kernel_rfl
theorem ok27 : callOk Try.prog 27 = true := by kernel_rfl
theorem ok28 : callOk Try.prog 28 = true := by kernel_rfl
theorem ok29 : callOk Try.prog 29 = true := by kernel_rfl
theorem ok30 : callOk Try.prog 30 = true := by kernel_rfl
theorem ok31 : callOk Try.prog 31 = true := by kernel_rfl
theorem ok32 : callOk Try.prog 32 = true := by kernel_rfl
theorem ok33 : callOk Try.prog 33 = true := by kernel_rfl
theorem ok34 : callOk Try.prog 34 = true := by kernel_rfl
theorem ok35 : callOk Try.prog 35 = true := by kernel_rfl
theorem ok36 : callOk Try.prog 36 = true := by kernel_rfl
theorem ok37 : callOk Try.prog 37 = true := by kernel_rfl
theorem ok38 : callOk Try.prog 38 = true := by kernel_rfl
theorem ok39 : callOk Try.prog 39 = true := by kernel_rfl
theorem ok40 : callOk Try.prog 40 = true := by kernel_rfl
theorem ok41 : callOk Try.prog 41 = true := by kernel_rfl
theorem ok42 : callOk Try.prog 42 = true := by kernel_rfl
theorem ok43 : callOk Try.prog 43 = true := by kernel_rfl
theorem ok44 : callOk Try.prog 44 = true := by kernel_rfl
theorem ok45 : callOk Try.prog 45 = true := by kernel_rfl
theorem ok46 : callOk Try.prog 46 = true := by kernel_rfl
theorem ok47 : callOk Try.prog 47 = true := by kernel_rfl
theorem ok48 : callOk Try.prog 48 = true := by kernel_rfl
theorem ok49 : callOk Try.prog 49 = true := by kernel_rfl
theorem ok50 : callOk Try.prog 50 = true := by kernel_rfl
theorem ok51 : callOk Try.prog 51 = true := by kernel_rfl
theorem ok52 : callOk Try.prog 52 = true := by kernel_rfl
theorem ok53 : callOk Try.prog 53 = true := by kernel_rfl
theorem ok54 : callOk Try.prog 54 = true := by kernel_rfl
theorem ok55 : callOk Try.prog 55 = true := by kernel_rfl
theorem ok56 : callOk Try.prog 56 = true := by kernel_rfl
theorem ok57 : callOk Try.prog 57 = true := by kernel_rfl
theorem ok58 : callOk Try.prog 58 = true := by kernel_rfl
theorem ok59 : callOk Try.prog 59 = true := by kernel_rfl
theorem ok60 : callOk Try.prog 60 = true := by kernel_rfl
theorem ok61 : callOk Try.prog 61 = true := by kernel_rfl
theorem ok62 : callOk Try.prog 62 = true := by kernel_rfl
theorem ok63 : callOk Try.prog 63 = true := by kernel_rfl
theorem ok64 : callOk Try.prog 64 = true := by kernel_rfl
theorem ok65 : callOk Try.prog 65 = true := by kernel_rfl
theorem ok66 : callOk Try.prog 66 = true := by kernel_rfl
theorem ok67 : callOk Try.prog 67 = true := by kernel_rfl
theorem ok68 : callOk Try.prog 68 = true := by kernel_rfl
theorem ok69 : callOk Try.prog 69 = true := by kernel_rfl
theorem ok70 : callOk Try.prog 70 = true := by kernel_rfl
theorem ok71 : callOk Try.prog 71 = true := by kernel_rfl
theorem ok72 : callOk Try.prog 72 = true := by kernel_rfl
theorem ok73 : callOk Try.prog 73 = true := by kernel_rfl
theorem ok74 : callOk Try.prog 74 = true := by kernel_rfl
theorem ok75 : callOk Try.prog 75 = true := by kernel_rfl
theorem ok76 : callOk Try.prog 76 = true := by kernel_rfl
theorem ok77 : callOk Try.prog 77 = true := by kernel_rfl
theorem ok78 : callOk Try.prog 78 = true := by kernel_rfl
theorem ok79 : callOk Try.prog 79 = true := by kernel_rfl
theorem ok80 : callOk Try.prog 80 = true := by kernel_rfl
theorem ok81 : callOk Try.prog 81 = true := by kernel_rfl
theorem ok82 : callOk Try.prog 82 = true := by kernel_rfl
theorem ok83 : callOk Try.prog 83 = true := by kernel_rfl
theorem ok84 : callOk Try.prog 84 = true := by kernel_rfl
theorem ok85 : callOk Try.prog 85 = true := by kernel_rfl
theorem ok86 : callOk Try.prog 86 = true := by kernel_rfl
theorem ok87 : callOk Try.prog 87 = true := by kernel_rfl
theorem ok88 : callOk Try.prog 88 = true := by kernel_rfl
theorem ok89 : callOk Try.prog 89 = true := by kernel_rfl
theorem ok90 : callOk Try.prog 90 = true := by kernel_rfl
theorem ok91 : callOk Try.prog 91 = true := by kernel_rfl
theorem ok92 : callOk Try.prog 92 = true := by kernel_rfl
attribute [go_sem] z2 l2 s2 z3 l3 s3 z4 l4 s4 z5 l5 s5 z9 l9 s9 z22 l22 s22 x22 v22 z23 l23 s23 x23 v23 z25 l25 s25 f25_0 f25_1 z26 l26 s26 x26 v26 z27 l27 s27 x27 v27 z29 l29 s29 f29_0 f29_1 f29_2 f29_3 z30 l30 s30 x30 v30 z32 l32 s32 f32_0 f32_1 f32_2 z35 l35 s35 f35_0 f35_1 z39 l39 s39 x39 n39 slo39 shi39 z41 l41 s41 x41 n41 slo41 shi41 z61 l61 s61 z63 l63 s63 z66 l66 s66 z73 l73 s73 x73 v73 z88 l88 s88 z92 l92 s92 z101 l101 s101 z103 l103 s103 z106 l106 s106 z107 l107 s107 z111 l111 s111 z115 l115 s115 k2_5 k3_88 k3_107 k5_2 k5_3 k88_3 k88_101 k101_5 k103_5 b39_0 b39_1 b41_0 b41_1 b41_2 b41_3 b41_6 d27_ d27_0 d29_0_1 d29_0_1_3 d32_ d32_0_1 d73_
end Go.Proofs.Ytbenllhoofoahaa

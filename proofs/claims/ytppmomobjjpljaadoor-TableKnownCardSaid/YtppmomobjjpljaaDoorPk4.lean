/- Own texts of the claims of this seat, one behind the other: KF, KT0, KT1, C1, A1, KBits, A2, A3, A4, A5, A6, A7: what a call comes to, and contracts of functions. -/
import Derived.Test.YtppmomobjjpljaaDoorPk3
import Derived.Test.YtppmomobjjpljaaDoorProg
import Derived.KernelRfl
import Derived.IntWalk
import Derived.Laws.BitsAllLaws
import Derived.Laws.Bits64
/- Part KF. -/
section
/- Of the seat YtppmomobjjpljaaDoor: what types are, as the calculus over an abstract memory asks it (closed facts). Written by a program of this session. -/
namespace Go.Proofs.YtppmomobjjpljaaDoor.E
open Go Go.RowKit
theorem sz2 : szP Tryd.prog 2 = some (false, 1) := by kernel_rfl
theorem z2 : zeroP Tryd.prog 2 = some (.int .i64 0) := by kernel_rfl
theorem kd2 : kdP Tryd.prog 2 = some (.int .i64) := by kernel_rfl
theorem sz3 : szP Tryd.prog 3 = some (false, 1) := by kernel_rfl
theorem z3 : zeroP Tryd.prog 3 = some (.int .i64 0) := by kernel_rfl
theorem kd3 : kdP Tryd.prog 3 = some (.int .i64) := by kernel_rfl
theorem sz4 : szP Tryd.prog 4 = some (false, 1) := by kernel_rfl
theorem z4 : zeroP Tryd.prog 4 = some (.bool false) := by kernel_rfl
theorem kd4 : kdP Tryd.prog 4 = some .bool := by kernel_rfl
theorem sz5 : szP Tryd.prog 5 = some (false, 1) := by kernel_rfl
theorem z5 : zeroP Tryd.prog 5 = some (.int .u8 0) := by kernel_rfl
theorem kd5 : kdP Tryd.prog 5 = some (.int .u8) := by kernel_rfl
theorem sz6 : szP Tryd.prog 6 = some (false, 1) := by kernel_rfl
theorem z6 : zeroP Tryd.prog 6 = some (.int .u8 0) := by kernel_rfl
theorem kd6 : kdP Tryd.prog 6 = some (.int .u8) := by kernel_rfl
theorem sz7 : szP Tryd.prog 7 = some (true, 4) := by kernel_rfl
theorem z7 : zeroP Tryd.prog 7 = some (.agg [.int .i64 0, .int .i64 0, .bool false, .int .u8 0]) := by kernel_rfl
theorem kd7 : kdP Tryd.prog 7 = some .struct := by kernel_rfl
theorem fl7_0 : fldP Tryd.prog 7 0 = some (0, false, 1) := by kernel_rfl
theorem fl7_1 : fldP Tryd.prog 7 1 = some (1, false, 1) := by kernel_rfl
theorem fl7_2 : fldP Tryd.prog 7 2 = some (2, false, 1) := by kernel_rfl
theorem fl7_3 : fldP Tryd.prog 7 3 = some (3, false, 1) := by kernel_rfl
theorem sz8 : szP Tryd.prog 8 = some (true, 4) := by kernel_rfl
theorem z8 : zeroP Tryd.prog 8 = some (.agg [.int .i64 0, .int .i64 0, .bool false, .int .u8 0]) := by kernel_rfl
theorem kd8 : kdP Tryd.prog 8 = some .struct := by kernel_rfl
theorem fl8_0 : fldP Tryd.prog 8 0 = some (0, false, 1) := by kernel_rfl
theorem fl8_1 : fldP Tryd.prog 8 1 = some (1, false, 1) := by kernel_rfl
theorem fl8_2 : fldP Tryd.prog 8 2 = some (2, false, 1) := by kernel_rfl
theorem fl8_3 : fldP Tryd.prog 8 3 = some (3, false, 1) := by kernel_rfl
theorem sz9 : szP Tryd.prog 9 = some (false, 1) := by kernel_rfl
theorem z9 : zeroP Tryd.prog 9 = some (.str ⟨#[]⟩) := by kernel_rfl
theorem kd9 : kdP Tryd.prog 9 = some .str := by kernel_rfl
theorem sz10 : szP Tryd.prog 10 = some (false, 1) := by kernel_rfl
theorem z10 : zeroP Tryd.prog 10 = some (.str ⟨#[]⟩) := by kernel_rfl
theorem kd10 : kdP Tryd.prog 10 = some .str := by kernel_rfl
theorem sz11 : szP Tryd.prog 11 = some (false, 1) := by kernel_rfl
theorem z11 : zeroP Tryd.prog 11 = some (.str ⟨#[]⟩) := by kernel_rfl
theorem kd11 : kdP Tryd.prog 11 = some .str := by kernel_rfl
theorem sz12 : szP Tryd.prog 12 = some (false, 1) := by kernel_rfl
theorem z12 : zeroP Tryd.prog 12 = some (.int .u64 0) := by kernel_rfl
theorem kd12 : kdP Tryd.prog 12 = some (.int .u64) := by kernel_rfl
theorem sz13 : szP Tryd.prog 13 = some (true, 2) := by kernel_rfl
theorem z13 : zeroP Tryd.prog 13 = some (.agg [.str ⟨#[]⟩, .int .u64 0]) := by kernel_rfl
theorem kd13 : kdP Tryd.prog 13 = some .struct := by kernel_rfl
theorem fl13_0 : fldP Tryd.prog 13 0 = some (0, false, 1) := by kernel_rfl
theorem fl13_1 : fldP Tryd.prog 13 1 = some (1, false, 1) := by kernel_rfl
theorem sz14 : szP Tryd.prog 14 = some (true, 2) := by kernel_rfl
theorem z14 : zeroP Tryd.prog 14 = some (.agg [.str ⟨#[]⟩, .int .u64 0]) := by kernel_rfl
theorem kd14 : kdP Tryd.prog 14 = some .struct := by kernel_rfl
theorem fl14_0 : fldP Tryd.prog 14 0 = some (0, false, 1) := by kernel_rfl
theorem fl14_1 : fldP Tryd.prog 14 1 = some (1, false, 1) := by kernel_rfl
theorem sz15 : szP Tryd.prog 15 = some (false, 1) := by kernel_rfl
theorem z15 : zeroP Tryd.prog 15 = some (.sc (.pointer none)) := by kernel_rfl
theorem sz16 : szP Tryd.prog 16 = some (false, 1) := by kernel_rfl
theorem z16 : zeroP Tryd.prog 16 = some (.sc (.pointer none)) := by kernel_rfl
theorem sz17 : szP Tryd.prog 17 = some (false, 1) := by kernel_rfl
theorem z17 : zeroP Tryd.prog 17 = some (.sc (.pointer none)) := by kernel_rfl
theorem sz18 : szP Tryd.prog 18 = some (true, 1) := by kernel_rfl
theorem z18 : zeroP Tryd.prog 18 = some (.agg [.sc (.pointer none)]) := by kernel_rfl
theorem kd18 : kdP Tryd.prog 18 = some .struct := by kernel_rfl
theorem fl18_0 : fldP Tryd.prog 18 0 = some (0, false, 1) := by kernel_rfl
theorem sz19 : szP Tryd.prog 19 = some (true, 1) := by kernel_rfl
theorem z19 : zeroP Tryd.prog 19 = some (.agg [.sc (.pointer none)]) := by kernel_rfl
theorem kd19 : kdP Tryd.prog 19 = some .struct := by kernel_rfl
theorem fl19_0 : fldP Tryd.prog 19 0 = some (0, false, 1) := by kernel_rfl
theorem sz21 : szP Tryd.prog 21 = some (false, 1) := by kernel_rfl
theorem z21 : zeroP Tryd.prog 21 = some (.int .i32 0) := by kernel_rfl
theorem kd21 : kdP Tryd.prog 21 = some (.int .i32) := by kernel_rfl
theorem sz22 : szP Tryd.prog 22 = some (false, 1) := by kernel_rfl
theorem z22 : zeroP Tryd.prog 22 = some (.nil) := by kernel_rfl
theorem kd22 : kdP Tryd.prog 22 = some (.slice 3 1 8 (.int .i64 0)) := by kernel_rfl
theorem sz23 : szP Tryd.prog 23 = some (false, 1) := by kernel_rfl
theorem z23 : zeroP Tryd.prog 23 = some (.nil) := by kernel_rfl
theorem kd23 : kdP Tryd.prog 23 = some (.slice 66 1 8 (.int .u64 0)) := by kernel_rfl
theorem sz24 : szP Tryd.prog 24 = some (true, 3) := by kernel_rfl
theorem z24 : zeroP Tryd.prog 24 = some (.agg [.int .i64 0, .nil, .nil]) := by kernel_rfl
theorem kd24 : kdP Tryd.prog 24 = some .struct := by kernel_rfl
theorem fl24_0 : fldP Tryd.prog 24 0 = some (0, false, 1) := by kernel_rfl
theorem fl24_1 : fldP Tryd.prog 24 1 = some (1, false, 1) := by kernel_rfl
theorem fl24_2 : fldP Tryd.prog 24 2 = some (2, false, 1) := by kernel_rfl
theorem sz25 : szP Tryd.prog 25 = some (true, 3) := by kernel_rfl
theorem z25 : zeroP Tryd.prog 25 = some (.agg [.int .i64 0, .nil, .nil]) := by kernel_rfl
theorem kd25 : kdP Tryd.prog 25 = some .struct := by kernel_rfl
theorem fl25_0 : fldP Tryd.prog 25 0 = some (0, false, 1) := by kernel_rfl
theorem fl25_1 : fldP Tryd.prog 25 1 = some (1, false, 1) := by kernel_rfl
theorem fl25_2 : fldP Tryd.prog 25 2 = some (2, false, 1) := by kernel_rfl
theorem sz29 : szP Tryd.prog 29 = some (false, 1) := by kernel_rfl
theorem z29 : zeroP Tryd.prog 29 = some (.int .i64 0) := by kernel_rfl
theorem kd29 : kdP Tryd.prog 29 = some (.int .i64) := by kernel_rfl
theorem sz34 : szP Tryd.prog 34 = some (true, 5) := by kernel_rfl
theorem z34 : zeroP Tryd.prog 34 = some (.agg [.int .i64 0, .int .i64 0, .bool false, .bool false, .bool false]) := by kernel_rfl
theorem kd34 : kdP Tryd.prog 34 = some .struct := by kernel_rfl
theorem fl34_0 : fldP Tryd.prog 34 0 = some (0, false, 1) := by kernel_rfl
theorem fl34_1 : fldP Tryd.prog 34 1 = some (1, false, 1) := by kernel_rfl
theorem fl34_2 : fldP Tryd.prog 34 2 = some (2, false, 1) := by kernel_rfl
theorem fl34_3 : fldP Tryd.prog 34 3 = some (3, false, 1) := by kernel_rfl
theorem fl34_4 : fldP Tryd.prog 34 4 = some (4, false, 1) := by kernel_rfl
theorem sz35 : szP Tryd.prog 35 = some (true, 5) := by kernel_rfl
theorem z35 : zeroP Tryd.prog 35 = some (.agg [.int .i64 0, .int .i64 0, .bool false, .bool false, .bool false]) := by kernel_rfl
theorem kd35 : kdP Tryd.prog 35 = some .struct := by kernel_rfl
theorem fl35_0 : fldP Tryd.prog 35 0 = some (0, false, 1) := by kernel_rfl
theorem fl35_1 : fldP Tryd.prog 35 1 = some (1, false, 1) := by kernel_rfl
theorem fl35_2 : fldP Tryd.prog 35 2 = some (2, false, 1) := by kernel_rfl
theorem fl35_3 : fldP Tryd.prog 35 3 = some (3, false, 1) := by kernel_rfl
theorem fl35_4 : fldP Tryd.prog 35 4 = some (4, false, 1) := by kernel_rfl
theorem sz66 : szP Tryd.prog 66 = some (false, 1) := by kernel_rfl
theorem z66 : zeroP Tryd.prog 66 = some (.int .u64 0) := by kernel_rfl
theorem kd66 : kdP Tryd.prog 66 = some (.int .u64) := by kernel_rfl
theorem sz80 : szP Tryd.prog 80 = some (false, 1) := by kernel_rfl
theorem z80 : zeroP Tryd.prog 80 = some (.int .u64 0) := by kernel_rfl
theorem kd80 : kdP Tryd.prog 80 = some (.int .u64) := by kernel_rfl
theorem sz84 : szP Tryd.prog 84 = some (false, 1) := by kernel_rfl
theorem z84 : zeroP Tryd.prog 84 = some (.int .u64 0) := by kernel_rfl
theorem kd84 : kdP Tryd.prog 84 = some (.int .u64) := by kernel_rfl
theorem sz85 : szP Tryd.prog 85 = some (false, 1) := by kernel_rfl
theorem z85 : zeroP Tryd.prog 85 = some (.nil) := by kernel_rfl
theorem kd85 : kdP Tryd.prog 85 = some (.slice 88 1 8 (.sc (.pointer none))) := by kernel_rfl
theorem sz87 : szP Tryd.prog 87 = some (false, 1) := by kernel_rfl
theorem z87 : zeroP Tryd.prog 87 = some (.sc (.pointer none)) := by kernel_rfl
theorem sz88 : szP Tryd.prog 88 = some (false, 1) := by kernel_rfl
theorem z88 : zeroP Tryd.prog 88 = some (.sc (.pointer none)) := by kernel_rfl
theorem sz90 : szP Tryd.prog 90 = some (true, 3) := by kernel_rfl
theorem z90 : zeroP Tryd.prog 90 = some (.agg [.int .u64 0, .int .u64 0, .int .u64 0]) := by kernel_rfl
theorem kd90 : kdP Tryd.prog 90 = some (.array 3 false 1) := by kernel_rfl
theorem sz95 : szP Tryd.prog 95 = some (true, 8) := by kernel_rfl
theorem z95 : zeroP Tryd.prog 95 = some (.agg [.int .u64 0, .int .u64 0, .int .u64 0, .int .u64 0, .int .u64 0, .int .u64 0, .int .u64 0, .int .u64 0]) := by kernel_rfl
theorem kd95 : kdP Tryd.prog 95 = some (.array 8 false 1) := by kernel_rfl
theorem sz99 : szP Tryd.prog 99 = some (false, 1) := by kernel_rfl
theorem z99 : zeroP Tryd.prog 99 = some (.int .u32 0) := by kernel_rfl
theorem kd99 : kdP Tryd.prog 99 = some (.int .u32) := by kernel_rfl
theorem sz104 : szP Tryd.prog 104 = some (false, 1) := by kernel_rfl
theorem z104 : zeroP Tryd.prog 104 = some (.nil) := by kernel_rfl
theorem kd104 : kdP Tryd.prog 104 = some (.slice 84 1 8 (.int .u64 0)) := by kernel_rfl
theorem sz106 : szP Tryd.prog 106 = some (true, 4) := by kernel_rfl
theorem z106 : zeroP Tryd.prog 106 = some (.agg [.sc (.pointer none), .sc (.pointer none), .sc (.pointer none), .str ⟨#[]⟩]) := by kernel_rfl
theorem kd106 : kdP Tryd.prog 106 = some .struct := by kernel_rfl
theorem fl106_0 : fldP Tryd.prog 106 0 = some (0, false, 1) := by kernel_rfl
theorem fl106_1 : fldP Tryd.prog 106 1 = some (1, false, 1) := by kernel_rfl
theorem fl106_2 : fldP Tryd.prog 106 2 = some (2, false, 1) := by kernel_rfl
theorem fl106_3 : fldP Tryd.prog 106 3 = some (3, false, 1) := by kernel_rfl
theorem sz107 : szP Tryd.prog 107 = some (true, 4) := by kernel_rfl
theorem z107 : zeroP Tryd.prog 107 = some (.agg [.sc (.pointer none), .sc (.pointer none), .sc (.pointer none), .str ⟨#[]⟩]) := by kernel_rfl
theorem kd107 : kdP Tryd.prog 107 = some .struct := by kernel_rfl
theorem fl107_0 : fldP Tryd.prog 107 0 = some (0, false, 1) := by kernel_rfl
theorem fl107_1 : fldP Tryd.prog 107 1 = some (1, false, 1) := by kernel_rfl
theorem fl107_2 : fldP Tryd.prog 107 2 = some (2, false, 1) := by kernel_rfl
theorem fl107_3 : fldP Tryd.prog 107 3 = some (3, false, 1) := by kernel_rfl
theorem sz108 : szP Tryd.prog 108 = some (true, 0) := by kernel_rfl
theorem z108 : zeroP Tryd.prog 108 = some (.agg []) := by kernel_rfl
theorem kd108 : kdP Tryd.prog 108 = some (.array 0 false 1) := by kernel_rfl
theorem sz109 : szP Tryd.prog 109 = some (true, 0) := by kernel_rfl
theorem z109 : zeroP Tryd.prog 109 = some (.agg []) := by kernel_rfl
theorem kd109 : kdP Tryd.prog 109 = some .struct := by kernel_rfl
theorem sz110 : szP Tryd.prog 110 = some (true, 0) := by kernel_rfl
theorem z110 : zeroP Tryd.prog 110 = some (.agg []) := by kernel_rfl
theorem kd110 : kdP Tryd.prog 110 = some .struct := by kernel_rfl
theorem sz112 : szP Tryd.prog 112 = some (false, 1) := by kernel_rfl
theorem z112 : zeroP Tryd.prog 112 = some (.int .u8 0) := by kernel_rfl
theorem kd112 : kdP Tryd.prog 112 = some (.int .u8) := by kernel_rfl
theorem sz113 : szP Tryd.prog 113 = some (false, 1) := by kernel_rfl
theorem z113 : zeroP Tryd.prog 113 = some (.int .u8 0) := by kernel_rfl
theorem kd113 : kdP Tryd.prog 113 = some (.int .u8) := by kernel_rfl
theorem sz115 : szP Tryd.prog 115 = some (false, 1) := by kernel_rfl
theorem z115 : zeroP Tryd.prog 115 = some (.sc (.pointer none)) := by kernel_rfl
theorem sz116 : szP Tryd.prog 116 = some (false, 1) := by kernel_rfl
theorem z116 : zeroP Tryd.prog 116 = some (.int .i32 0) := by kernel_rfl
theorem kd116 : kdP Tryd.prog 116 = some (.int .i32) := by kernel_rfl
theorem sz117 : szP Tryd.prog 117 = some (false, 1) := by kernel_rfl
theorem z117 : zeroP Tryd.prog 117 = some (.int .i32 0) := by kernel_rfl
theorem kd117 : kdP Tryd.prog 117 = some (.int .i32) := by kernel_rfl
theorem sz118 : szP Tryd.prog 118 = some (true, 11) := by kernel_rfl
theorem kd118 : kdP Tryd.prog 118 = some .struct := by kernel_rfl
theorem fl118_0 : fldP Tryd.prog 118 0 = some (0, false, 1) := by kernel_rfl
theorem fl118_1 : fldP Tryd.prog 118 1 = some (1, false, 1) := by kernel_rfl
theorem fl118_2 : fldP Tryd.prog 118 2 = some (2, false, 1) := by kernel_rfl
theorem fl118_3 : fldP Tryd.prog 118 3 = some (3, false, 1) := by kernel_rfl
theorem fl118_4 : fldP Tryd.prog 118 4 = some (4, false, 1) := by kernel_rfl
theorem fl118_5 : fldP Tryd.prog 118 5 = some (5, false, 1) := by kernel_rfl
theorem fl118_6 : fldP Tryd.prog 118 6 = some (6, false, 1) := by kernel_rfl
theorem sz119 : szP Tryd.prog 119 = some (true, 11) := by kernel_rfl
theorem kd119 : kdP Tryd.prog 119 = some .struct := by kernel_rfl
theorem fl119_0 : fldP Tryd.prog 119 0 = some (0, false, 1) := by kernel_rfl
theorem fl119_1 : fldP Tryd.prog 119 1 = some (1, false, 1) := by kernel_rfl
theorem fl119_2 : fldP Tryd.prog 119 2 = some (2, false, 1) := by kernel_rfl
theorem fl119_3 : fldP Tryd.prog 119 3 = some (3, false, 1) := by kernel_rfl
theorem fl119_4 : fldP Tryd.prog 119 4 = some (4, false, 1) := by kernel_rfl
theorem fl119_5 : fldP Tryd.prog 119 5 = some (5, false, 1) := by kernel_rfl
theorem fl119_6 : fldP Tryd.prog 119 6 = some (6, false, 1) := by kernel_rfl
theorem sz120 : szP Tryd.prog 120 = some (false, 1) := by kernel_rfl
/-- What the calculus asks of the program's types. -/
def tys : Tr :=
  (Tr.node (Tr.node (Tr.node (Tr.node (Tr.node (Tr.node Tr.leaf 2 ⟨false, 1, some (.int .i64 0), some (.int .i64), []⟩ Tr.leaf) 3 ⟨false, 1, some (.int .i64 0), some (.int .i64), []⟩ (Tr.node Tr.leaf 4 ⟨false, 1, some (.bool false), some .bool, []⟩ Tr.leaf)) 5 ⟨false, 1, some (.int .u8 0), some (.int .u8), []⟩ (Tr.node (Tr.node Tr.leaf 6 ⟨false, 1, some (.int .u8 0), some (.int .u8), []⟩ Tr.leaf) 7 ⟨true, 4, some (.agg [.int .i64 0, .int .i64 0, .bool false, .int .u8 0]), some .struct, [(0, false, 1), (1, false, 1), (2, false, 1), (3, false, 1)]⟩ Tr.leaf)) 8 ⟨true, 4, some (.agg [.int .i64 0, .int .i64 0, .bool false, .int .u8 0]), some .struct, [(0, false, 1), (1, false, 1), (2, false, 1), (3, false, 1)]⟩ (Tr.node (Tr.node (Tr.node Tr.leaf 9 ⟨false, 1, some (.str ⟨#[]⟩), some .str, []⟩ Tr.leaf) 10 ⟨false, 1, some (.str ⟨#[]⟩), some .str, []⟩ Tr.leaf) 11 ⟨false, 1, some (.str ⟨#[]⟩), some .str, []⟩ (Tr.node (Tr.node Tr.leaf 12 ⟨false, 1, some (.int .u64 0), some (.int .u64), []⟩ Tr.leaf) 13 ⟨true, 2, some (.agg [.str ⟨#[]⟩, .int .u64 0]), some .struct, [(0, false, 1), (1, false, 1)]⟩ Tr.leaf))) 14 ⟨true, 2, some (.agg [.str ⟨#[]⟩, .int .u64 0]), some .struct, [(0, false, 1), (1, false, 1)]⟩ (Tr.node (Tr.node (Tr.node (Tr.node Tr.leaf 15 ⟨false, 1, some (.sc (.pointer none)), none, []⟩ Tr.leaf) 16 ⟨false, 1, some (.sc (.pointer none)), none, []⟩ Tr.leaf) 17 ⟨false, 1, some (.sc (.pointer none)), none, []⟩ (Tr.node (Tr.node Tr.leaf 18 ⟨true, 1, some (.agg [.sc (.pointer none)]), some .struct, [(0, false, 1)]⟩ Tr.leaf) 19 ⟨true, 1, some (.agg [.sc (.pointer none)]), some .struct, [(0, false, 1)]⟩ Tr.leaf)) 21 ⟨false, 1, some (.int .i32 0), some (.int .i32), []⟩ (Tr.node (Tr.node (Tr.node Tr.leaf 22 ⟨false, 1, some (.nil), some (.slice 3 1 8 (.int .i64 0)), []⟩ Tr.leaf) 23 ⟨false, 1, some (.nil), some (.slice 66 1 8 (.int .u64 0)), []⟩ Tr.leaf) 24 ⟨true, 3, some (.agg [.int .i64 0, .nil, .nil]), some .struct, [(0, false, 1), (1, false, 1), (2, false, 1)]⟩ (Tr.node (Tr.node Tr.leaf 25 ⟨true, 3, some (.agg [.int .i64 0, .nil, .nil]), some .struct, [(0, false, 1), (1, false, 1), (2, false, 1)]⟩ Tr.leaf) 29 ⟨false, 1, some (.int .i64 0), some (.int .i64), []⟩ Tr.leaf)))) 34 ⟨true, 5, some (.agg [.int .i64 0, .int .i64 0, .bool false, .bool false, .bool false]), some .struct, [(0, false, 1), (1, false, 1), (2, false, 1), (3, false, 1), (4, false, 1)]⟩ (Tr.node (Tr.node (Tr.node (Tr.node (Tr.node Tr.leaf 35 ⟨true, 5, some (.agg [.int .i64 0, .int .i64 0, .bool false, .bool false, .bool false]), some .struct, [(0, false, 1), (1, false, 1), (2, false, 1), (3, false, 1), (4, false, 1)]⟩ Tr.leaf) 66 ⟨false, 1, some (.int .u64 0), some (.int .u64), []⟩ (Tr.node Tr.leaf 80 ⟨false, 1, some (.int .u64 0), some (.int .u64), []⟩ Tr.leaf)) 84 ⟨false, 1, some (.int .u64 0), some (.int .u64), []⟩ (Tr.node (Tr.node Tr.leaf 85 ⟨false, 1, some (.nil), some (.slice 88 1 8 (.sc (.pointer none))), []⟩ Tr.leaf) 87 ⟨false, 1, some (.sc (.pointer none)), none, []⟩ Tr.leaf)) 88 ⟨false, 1, some (.sc (.pointer none)), none, []⟩ (Tr.node (Tr.node (Tr.node Tr.leaf 90 ⟨true, 3, some (.agg [.int .u64 0, .int .u64 0, .int .u64 0]), some (.array 3 false 1), []⟩ Tr.leaf) 95 ⟨true, 8, some (.agg [.int .u64 0, .int .u64 0, .int .u64 0, .int .u64 0, .int .u64 0, .int .u64 0, .int .u64 0, .int .u64 0]), some (.array 8 false 1), []⟩ Tr.leaf) 99 ⟨false, 1, some (.int .u32 0), some (.int .u32), []⟩ (Tr.node (Tr.node Tr.leaf 104 ⟨false, 1, some (.nil), some (.slice 84 1 8 (.int .u64 0)), []⟩ Tr.leaf) 106 ⟨true, 4, some (.agg [.sc (.pointer none), .sc (.pointer none), .sc (.pointer none), .str ⟨#[]⟩]), some .struct, [(0, false, 1), (1, false, 1), (2, false, 1), (3, false, 1)]⟩ Tr.leaf))) 107 ⟨true, 4, some (.agg [.sc (.pointer none), .sc (.pointer none), .sc (.pointer none), .str ⟨#[]⟩]), some .struct, [(0, false, 1), (1, false, 1), (2, false, 1), (3, false, 1)]⟩ (Tr.node (Tr.node (Tr.node (Tr.node Tr.leaf 108 ⟨true, 0, some (.agg []), some (.array 0 false 1), []⟩ Tr.leaf) 109 ⟨true, 0, some (.agg []), some .struct, []⟩ Tr.leaf) 110 ⟨true, 0, some (.agg []), some .struct, []⟩ (Tr.node (Tr.node Tr.leaf 112 ⟨false, 1, some (.int .u8 0), some (.int .u8), []⟩ Tr.leaf) 113 ⟨false, 1, some (.int .u8 0), some (.int .u8), []⟩ Tr.leaf)) 115 ⟨false, 1, some (.sc (.pointer none)), none, []⟩ (Tr.node (Tr.node (Tr.node Tr.leaf 116 ⟨false, 1, some (.int .i32 0), some (.int .i32), []⟩ Tr.leaf) 117 ⟨false, 1, some (.int .i32 0), some (.int .i32), []⟩ Tr.leaf) 118 ⟨true, 11, none, some .struct, [(0, false, 1), (1, false, 1), (2, false, 1), (3, false, 1), (4, false, 1), (5, false, 1), (6, false, 1)]⟩ (Tr.node (Tr.node Tr.leaf 119 ⟨true, 11, none, some .struct, [(0, false, 1), (1, false, 1), (2, false, 1), (3, false, 1), (4, false, 1), (5, false, 1), (6, false, 1)]⟩ Tr.leaf) 120 ⟨false, 1, none, none, []⟩ Tr.leaf)))))
theorem tys_ok : tys.ok Tryd.prog :=
  ⟨⟨⟨⟨⟨⟨trivial, ⟨sz2, (fun _ h => by cases h; exact z2), (fun _ h => by cases h; exact kd2), fun f y h => by simpa using (fld_nil (P := Tryd.prog) (T := 2) (i := 0)) f (y := y) h⟩, trivial⟩, ⟨sz3, (fun _ h => by cases h; exact z3), (fun _ h => by cases h; exact kd3), fun f y h => by simpa using (fld_nil (P := Tryd.prog) (T := 3) (i := 0)) f (y := y) h⟩, ⟨trivial, ⟨sz4, (fun _ h => by cases h; exact z4), (fun _ h => by cases h; exact kd4), fun f y h => by simpa using (fld_nil (P := Tryd.prog) (T := 4) (i := 0)) f (y := y) h⟩, trivial⟩⟩, ⟨sz5, (fun _ h => by cases h; exact z5), (fun _ h => by cases h; exact kd5), fun f y h => by simpa using (fld_nil (P := Tryd.prog) (T := 5) (i := 0)) f (y := y) h⟩, ⟨⟨trivial, ⟨sz6, (fun _ h => by cases h; exact z6), (fun _ h => by cases h; exact kd6), fun f y h => by simpa using (fld_nil (P := Tryd.prog) (T := 6) (i := 0)) f (y := y) h⟩, trivial⟩, ⟨sz7, (fun _ h => by cases h; exact z7), (fun _ h => by cases h; exact kd7), fun f y h => by simpa using (fld_cons' (i := 0) fl7_0 (fld_cons' (i := 1) fl7_1 (fld_cons' (i := 2) fl7_2 (fld_cons' (i := 3) fl7_3 (fld_nil (P := Tryd.prog) (T := 7) (i := 4)))))) f (y := y) h⟩, trivial⟩⟩, ⟨sz8, (fun _ h => by cases h; exact z8), (fun _ h => by cases h; exact kd8), fun f y h => by simpa using (fld_cons' (i := 0) fl8_0 (fld_cons' (i := 1) fl8_1 (fld_cons' (i := 2) fl8_2 (fld_cons' (i := 3) fl8_3 (fld_nil (P := Tryd.prog) (T := 8) (i := 4)))))) f (y := y) h⟩, ⟨⟨⟨trivial, ⟨sz9, (fun _ h => by cases h; exact z9), (fun _ h => by cases h; exact kd9), fun f y h => by simpa using (fld_nil (P := Tryd.prog) (T := 9) (i := 0)) f (y := y) h⟩, trivial⟩, ⟨sz10, (fun _ h => by cases h; exact z10), (fun _ h => by cases h; exact kd10), fun f y h => by simpa using (fld_nil (P := Tryd.prog) (T := 10) (i := 0)) f (y := y) h⟩, trivial⟩, ⟨sz11, (fun _ h => by cases h; exact z11), (fun _ h => by cases h; exact kd11), fun f y h => by simpa using (fld_nil (P := Tryd.prog) (T := 11) (i := 0)) f (y := y) h⟩, ⟨⟨trivial, ⟨sz12, (fun _ h => by cases h; exact z12), (fun _ h => by cases h; exact kd12), fun f y h => by simpa using (fld_nil (P := Tryd.prog) (T := 12) (i := 0)) f (y := y) h⟩, trivial⟩, ⟨sz13, (fun _ h => by cases h; exact z13), (fun _ h => by cases h; exact kd13), fun f y h => by simpa using (fld_cons' (i := 0) fl13_0 (fld_cons' (i := 1) fl13_1 (fld_nil (P := Tryd.prog) (T := 13) (i := 2)))) f (y := y) h⟩, trivial⟩⟩⟩, ⟨sz14, (fun _ h => by cases h; exact z14), (fun _ h => by cases h; exact kd14), fun f y h => by simpa using (fld_cons' (i := 0) fl14_0 (fld_cons' (i := 1) fl14_1 (fld_nil (P := Tryd.prog) (T := 14) (i := 2)))) f (y := y) h⟩, ⟨⟨⟨⟨trivial, ⟨sz15, (fun _ h => by cases h; exact z15), (fun _ h => by cases h), fun f y h => by simpa using (fld_nil (P := Tryd.prog) (T := 15) (i := 0)) f (y := y) h⟩, trivial⟩, ⟨sz16, (fun _ h => by cases h; exact z16), (fun _ h => by cases h), fun f y h => by simpa using (fld_nil (P := Tryd.prog) (T := 16) (i := 0)) f (y := y) h⟩, trivial⟩, ⟨sz17, (fun _ h => by cases h; exact z17), (fun _ h => by cases h), fun f y h => by simpa using (fld_nil (P := Tryd.prog) (T := 17) (i := 0)) f (y := y) h⟩, ⟨⟨trivial, ⟨sz18, (fun _ h => by cases h; exact z18), (fun _ h => by cases h; exact kd18), fun f y h => by simpa using (fld_cons' (i := 0) fl18_0 (fld_nil (P := Tryd.prog) (T := 18) (i := 1))) f (y := y) h⟩, trivial⟩, ⟨sz19, (fun _ h => by cases h; exact z19), (fun _ h => by cases h; exact kd19), fun f y h => by simpa using (fld_cons' (i := 0) fl19_0 (fld_nil (P := Tryd.prog) (T := 19) (i := 1))) f (y := y) h⟩, trivial⟩⟩, ⟨sz21, (fun _ h => by cases h; exact z21), (fun _ h => by cases h; exact kd21), fun f y h => by simpa using (fld_nil (P := Tryd.prog) (T := 21) (i := 0)) f (y := y) h⟩, ⟨⟨⟨trivial, ⟨sz22, (fun _ h => by cases h; exact z22), (fun _ h => by cases h; exact kd22), fun f y h => by simpa using (fld_nil (P := Tryd.prog) (T := 22) (i := 0)) f (y := y) h⟩, trivial⟩, ⟨sz23, (fun _ h => by cases h; exact z23), (fun _ h => by cases h; exact kd23), fun f y h => by simpa using (fld_nil (P := Tryd.prog) (T := 23) (i := 0)) f (y := y) h⟩, trivial⟩, ⟨sz24, (fun _ h => by cases h; exact z24), (fun _ h => by cases h; exact kd24), fun f y h => by simpa using (fld_cons' (i := 0) fl24_0 (fld_cons' (i := 1) fl24_1 (fld_cons' (i := 2) fl24_2 (fld_nil (P := Tryd.prog) (T := 24) (i := 3))))) f (y := y) h⟩, ⟨⟨trivial, ⟨sz25, (fun _ h => by cases h; exact z25), (fun _ h => by cases h; exact kd25), fun f y h => by simpa using (fld_cons' (i := 0) fl25_0 (fld_cons' (i := 1) fl25_1 (fld_cons' (i := 2) fl25_2 (fld_nil (P := Tryd.prog) (T := 25) (i := 3))))) f (y := y) h⟩, trivial⟩, ⟨sz29, (fun _ h => by cases h; exact z29), (fun _ h => by cases h; exact kd29), fun f y h => by simpa using (fld_nil (P := Tryd.prog) (T := 29) (i := 0)) f (y := y) h⟩, trivial⟩⟩⟩⟩, ⟨sz34, (fun _ h => by cases h; exact z34), (fun _ h => by cases h; exact kd34), fun f y h => by simpa using (fld_cons' (i := 0) fl34_0 (fld_cons' (i := 1) fl34_1 (fld_cons' (i := 2) fl34_2 (fld_cons' (i := 3) fl34_3 (fld_cons' (i := 4) fl34_4 (fld_nil (P := Tryd.prog) (T := 34) (i := 5))))))) f (y := y) h⟩, ⟨⟨⟨⟨⟨trivial, ⟨sz35, (fun _ h => by cases h; exact z35), (fun _ h => by cases h; exact kd35), fun f y h => by simpa using (fld_cons' (i := 0) fl35_0 (fld_cons' (i := 1) fl35_1 (fld_cons' (i := 2) fl35_2 (fld_cons' (i := 3) fl35_3 (fld_cons' (i := 4) fl35_4 (fld_nil (P := Tryd.prog) (T := 35) (i := 5))))))) f (y := y) h⟩, trivial⟩, ⟨sz66, (fun _ h => by cases h; exact z66), (fun _ h => by cases h; exact kd66), fun f y h => by simpa using (fld_nil (P := Tryd.prog) (T := 66) (i := 0)) f (y := y) h⟩, ⟨trivial, ⟨sz80, (fun _ h => by cases h; exact z80), (fun _ h => by cases h; exact kd80), fun f y h => by simpa using (fld_nil (P := Tryd.prog) (T := 80) (i := 0)) f (y := y) h⟩, trivial⟩⟩, ⟨sz84, (fun _ h => by cases h; exact z84), (fun _ h => by cases h; exact kd84), fun f y h => by simpa using (fld_nil (P := Tryd.prog) (T := 84) (i := 0)) f (y := y) h⟩, ⟨⟨trivial, ⟨sz85, (fun _ h => by cases h; exact z85), (fun _ h => by cases h; exact kd85), fun f y h => by simpa using (fld_nil (P := Tryd.prog) (T := 85) (i := 0)) f (y := y) h⟩, trivial⟩, ⟨sz87, (fun _ h => by cases h; exact z87), (fun _ h => by cases h), fun f y h => by simpa using (fld_nil (P := Tryd.prog) (T := 87) (i := 0)) f (y := y) h⟩, trivial⟩⟩, ⟨sz88, (fun _ h => by cases h; exact z88), (fun _ h => by cases h), fun f y h => by simpa using (fld_nil (P := Tryd.prog) (T := 88) (i := 0)) f (y := y) h⟩, ⟨⟨⟨trivial, ⟨sz90, (fun _ h => by cases h; exact z90), (fun _ h => by cases h; exact kd90), fun f y h => by simpa using (fld_nil (P := Tryd.prog) (T := 90) (i := 0)) f (y := y) h⟩, trivial⟩, ⟨sz95, (fun _ h => by cases h; exact z95), (fun _ h => by cases h; exact kd95), fun f y h => by simpa using (fld_nil (P := Tryd.prog) (T := 95) (i := 0)) f (y := y) h⟩, trivial⟩, ⟨sz99, (fun _ h => by cases h; exact z99), (fun _ h => by cases h; exact kd99), fun f y h => by simpa using (fld_nil (P := Tryd.prog) (T := 99) (i := 0)) f (y := y) h⟩, ⟨⟨trivial, ⟨sz104, (fun _ h => by cases h; exact z104), (fun _ h => by cases h; exact kd104), fun f y h => by simpa using (fld_nil (P := Tryd.prog) (T := 104) (i := 0)) f (y := y) h⟩, trivial⟩, ⟨sz106, (fun _ h => by cases h; exact z106), (fun _ h => by cases h; exact kd106), fun f y h => by simpa using (fld_cons' (i := 0) fl106_0 (fld_cons' (i := 1) fl106_1 (fld_cons' (i := 2) fl106_2 (fld_cons' (i := 3) fl106_3 (fld_nil (P := Tryd.prog) (T := 106) (i := 4)))))) f (y := y) h⟩, trivial⟩⟩⟩, ⟨sz107, (fun _ h => by cases h; exact z107), (fun _ h => by cases h; exact kd107), fun f y h => by simpa using (fld_cons' (i := 0) fl107_0 (fld_cons' (i := 1) fl107_1 (fld_cons' (i := 2) fl107_2 (fld_cons' (i := 3) fl107_3 (fld_nil (P := Tryd.prog) (T := 107) (i := 4)))))) f (y := y) h⟩, ⟨⟨⟨⟨trivial, ⟨sz108, (fun _ h => by cases h; exact z108), (fun _ h => by cases h; exact kd108), fun f y h => by simpa using (fld_nil (P := Tryd.prog) (T := 108) (i := 0)) f (y := y) h⟩, trivial⟩, ⟨sz109, (fun _ h => by cases h; exact z109), (fun _ h => by cases h; exact kd109), fun f y h => by simpa using (fld_nil (P := Tryd.prog) (T := 109) (i := 0)) f (y := y) h⟩, trivial⟩, ⟨sz110, (fun _ h => by cases h; exact z110), (fun _ h => by cases h; exact kd110), fun f y h => by simpa using (fld_nil (P := Tryd.prog) (T := 110) (i := 0)) f (y := y) h⟩, ⟨⟨trivial, ⟨sz112, (fun _ h => by cases h; exact z112), (fun _ h => by cases h; exact kd112), fun f y h => by simpa using (fld_nil (P := Tryd.prog) (T := 112) (i := 0)) f (y := y) h⟩, trivial⟩, ⟨sz113, (fun _ h => by cases h; exact z113), (fun _ h => by cases h; exact kd113), fun f y h => by simpa using (fld_nil (P := Tryd.prog) (T := 113) (i := 0)) f (y := y) h⟩, trivial⟩⟩, ⟨sz115, (fun _ h => by cases h; exact z115), (fun _ h => by cases h), fun f y h => by simpa using (fld_nil (P := Tryd.prog) (T := 115) (i := 0)) f (y := y) h⟩, ⟨⟨⟨trivial, ⟨sz116, (fun _ h => by cases h; exact z116), (fun _ h => by cases h; exact kd116), fun f y h => by simpa using (fld_nil (P := Tryd.prog) (T := 116) (i := 0)) f (y := y) h⟩, trivial⟩, ⟨sz117, (fun _ h => by cases h; exact z117), (fun _ h => by cases h; exact kd117), fun f y h => by simpa using (fld_nil (P := Tryd.prog) (T := 117) (i := 0)) f (y := y) h⟩, trivial⟩, ⟨sz118, (fun _ h => by cases h), (fun _ h => by cases h; exact kd118), fun f y h => by simpa using (fld_cons' (i := 0) fl118_0 (fld_cons' (i := 1) fl118_1 (fld_cons' (i := 2) fl118_2 (fld_cons' (i := 3) fl118_3 (fld_cons' (i := 4) fl118_4 (fld_cons' (i := 5) fl118_5 (fld_cons' (i := 6) fl118_6 (fld_nil (P := Tryd.prog) (T := 118) (i := 7))))))))) f (y := y) h⟩, ⟨⟨trivial, ⟨sz119, (fun _ h => by cases h), (fun _ h => by cases h; exact kd119), fun f y h => by simpa using (fld_cons' (i := 0) fl119_0 (fld_cons' (i := 1) fl119_1 (fld_cons' (i := 2) fl119_2 (fld_cons' (i := 3) fl119_3 (fld_cons' (i := 4) fl119_4 (fld_cons' (i := 5) fl119_5 (fld_cons' (i := 6) fl119_6 (fld_nil (P := Tryd.prog) (T := 119) (i := 7))))))))) f (y := y) h⟩, trivial⟩, ⟨sz120, (fun _ h => by cases h), (fun _ h => by cases h), fun f y h => by simpa using (fld_nil (P := Tryd.prog) (T := 120) (i := 0)) f (y := y) h⟩, trivial⟩⟩⟩⟩⟩
end Go.Proofs.YtppmomobjjpljaaDoor.E
end

/- Part KT0. -/
section
/- Tactics and names for proofs by the calculus. -/
namespace Go.Proofs.YtppmomobjjpljaaDoor.E
open Go Go.RowKit
theorem mixed : Tryd.prog.follows .mixedOrders = true := by kernel_rfl
def ints (l : List Int) : List D := l.map (.int .i64)
def u64s (l : List Int) : List D := l.map (.int .u64)
theorem ints_len (l : List Int) : (ints l).length = l.length := by simp [ints]
theorem u64s_len (l : List Int) : (u64s l).length = l.length := by simp [u64s]
theorem ints_cells (l : List Int) : ∀ d, d ∈ ints l → d.cells.length = 1 := by
  intro d hd
  simp only [ints, List.mem_map] at hd
  obtain ⟨x, _, rfl⟩ := hd
  rfl
theorem u64s_cells (l : List Int) : ∀ d, d ∈ u64s l → d.cells.length = 1 := by
  intro d hd
  simp only [u64s, List.mem_map] at hd
  obtain ⟨x, _, rfl⟩ := hd
  rfl
theorem ints_at (l : List Int) : ∀ (k : Nat) (x : Int), l[k]? = some x → (ints l)[k]? = some (D.int .i64 x) := fun k x h => by simp [ints, h]
theorem u64s_at (l : List Int) : ∀ (k : Nat) (x : Int), l[k]? = some x → (u64s l)[k]? = some (D.int .u64 x) := fun k x h => by simp [u64s, h]
end Go.Proofs.YtppmomobjjpljaaDoor.E
end

/- Part KT1. -/
section
/- Lists that grow in a loop: nil at first, then a row of the call's own. -/
namespace Go.Proofs.YtppmomobjjpljaaDoor.E
open Go Go.RowKit
set_option linter.unusedVariables false
set_option linter.unusedSimpArgs false
def lenD (l : List D) : Nat := l.length
def gv (b z : Nat) (l : List D) : D := match l with
  | [] => .nil
  | _ :: _ => .sl b z 0 l.length
def gh (b z ty : Nat) (l : List D) (r : List (Nat × Blk)) : List (Nat × Blk) := match l with
  | [] => r
  | _ :: _ => (b, ⟨z, ty, l, true, false⟩) :: r
theorem gv_nil (b z : Nat) : gv b z [] = .nil := rfl
theorem gh_nil (b z ty : Nat) (r : List (Nat × Blk)) : gh b z ty [] r = r := rfl
theorem gv_ne {b z : Nat} {l : List D} (h : l ≠ []) : gv b z l = .sl b z 0 (lenD l) := by
  cases l with
  | nil => exact absurd rfl h
  | cons a l => rfl
theorem gh_ne {b z ty : Nat} {l : List D} {r : List (Nat × Blk)} (h : l ≠ []) : gh b z ty l r = (b, ⟨z, ty, l, true, false⟩) :: r := by
  cases l with
  | nil => exact absurd rfl h
  | cons a l => rfl
theorem gv_snoc (b z : Nat) (l : List D) (x : D) : gv b z (l ++ [x]) = .sl b z 0 (l.length + 1) := by rw [gv_ne (by simp)]; simp [lenD]
theorem gh_snoc (b z ty : Nat) (l : List D) (x : D) (r : List (Nat × Blk)) : gh b z ty (l ++ [x]) r = (b, ⟨z, ty, l ++ [x], true, false⟩) :: r := by rw [gh_ne (by simp)]
theorem gv_one (b z : Nat) (x : D) : gv b z [x] = .sl b z 0 1 := rfl
theorem gh_one (b z ty : Nat) (x : D) (r : List (Nat × Blk)) : gh b z ty [x] r = (b, ⟨z, ty, [x], true, false⟩) :: r := rfl
theorem subL_one (x : D) : subL [x] 0 1 = [x] := by simp [subL]
theorem subL_all (l : List D) (n : Nat) (h : n = l.length) : subL l 0 n = l := by simp [subL, h]
theorem lt_gv {b z n : Nat} {l : List D} (h : b < n) : D.lt n (gv b z l) = true := by cases l <;> simp [gv, D.lt, h]
theorem ren_gv (π : Nat → Nat) (b z : Nat) (l : List D) : D.ren π (gv b z l) = gv (π b) z l := by cases l <;> simp [gv, D.ren]
theorem lk_gh (b z ty : Nat) (l : List D) (r : List (Nat × Blk)) (k : Nat) : lk (gh b z ty l r) k = if b = k ∧ l ≠ [] then some ⟨z, ty, l, true, false⟩ else lk r k := by cases l <;> simp [gh, lk]
theorem renH_gh (π : Nat → Nat) (n : Nat) (H : List (Nat × Blk)) (b z ty : Nat) (l : List D) (r : List (Nat × Blk)) :
    renH π n H (gh b z ty l r) ↔ (l ≠ [] → (match lk H (π b) with
      | some B => renB π n B ⟨z, ty, l, true, false⟩
      | none => False) ∧ b < n) ∧ renH π n H r := by
  cases l with
  | nil => simp [gh]
  | cons a l => rw [gh, renH, ← and_assoc]; simp only [ne_eq, reduceCtorEq, not_false_eq_true, forall_const]; exact Iff.rfl
theorem mem_gh (b z ty : Nat) (l : List D) (r : List (Nat × Blk)) (x : Nat × Blk) : x ∈ gh b z ty l r ↔ (l ≠ [] ∧ x = (b, ⟨z, ty, l, true, false⟩)) ∨ x ∈ r := by cases l <;> simp [gh]
theorem injK_gh (π : Nat → Nat) (k b z ty : Nat) (l : List D) (r : List (Nat × Blk)) : injK π k (gh b z ty l r) ↔ (l ≠ [] → π b = π k → b = k) ∧ injK π k r := by cases l <;> simp [gh, injK]
theorem injH_gh (π : Nat → Nat) (b z ty : Nat) (l : List D) (r : List (Nat × Blk)) : injH π (gh b z ty l r) ↔ (l ≠ [] → injK π b r) ∧ injH π r := by cases l <;> simp [gh, injH]
theorem ints_nil : ints [] = [] := rfl
theorem ints_app (l m : List Int) : ints (l ++ m) = ints l ++ ints m := by simp [ints]
theorem ints_one (x : Int) : ints [x] = [.int .i64 x] := rfl
theorem ints_cons (x : Int) (l : List Int) : ints (x :: l) = .int .i64 x :: ints l := rfl
theorem ints_ne {l : List Int} (h : l ≠ []) : ints l ≠ [] := by simpa [ints] using h
theorem ints_free (l : List Int) : ∀ d, d ∈ ints l → d.free = true := by
  intro d hd
  simp only [ints, List.mem_map] at hd
  obtain ⟨x, _, rfl⟩ := hd
  rfl
theorem take_at {α : Type} {l : List α} {k : Nat} {x : α} (h : l[k]? = some x) : l.take (k + 1) = l.take k ++ [x] := by
  rw [List.take_add_one, h]; rfl
theorem drop_at {l : List Int} {k : Nat} {x : Int} (h : l[k]? = some x) : l.drop k = x :: l.drop (k + 1) := by
  obtain ⟨h1, h2⟩ := List.getElem?_eq_some_iff.1 h
  rw [List.drop_eq_getElem_cons h1, h2]
/-- The first k elements of A, behind them those of B. -/
def mixL {α : Type} (A B : List α) (k : Nat) : List α := A.take k ++ B.drop k
theorem mix_zero {α : Type} (A B : List α) : mixL A B 0 = B := by simp [mixL]
theorem mix_len {α : Type} {A B : List α} {k : Nat} (hA : A.length ≤ k) (hB : B.length ≤ k) : mixL A B k = A := by simp [mixL, List.take_of_length_le hA, List.drop_of_length_le hB]
theorem mix_length {α : Type} {A B : List α} {k : Nat} (h : A.length = B.length) : (mixL A B k).length = B.length := by simp [mixL]; omega
theorem mix_keep {α : Type} {A B : List α} {k : Nat} {x : α} (hA : A[k]? = some x) (hB : B[k]? = some x) : mixL A B (k + 1) = mixL A B k := by
  obtain ⟨h1, h2⟩ := List.getElem?_eq_some_iff.1 hB
  rw [mixL, mixL, take_at hA, List.drop_eq_getElem_cons h1, h2]; simp
theorem mix_set {α : Type} {A B : List α} {k : Nat} {x y : α} (hA : A[k]? = some x) (hB : B[k]? = some y) : (mixL A B k).set k x = mixL A B (k + 1) := by
  obtain ⟨h1, h2⟩ := List.getElem?_eq_some_iff.1 hB
  have h3 := (List.getElem?_eq_some_iff.1 hA).1
  rw [mixL, mixL, take_at hA, List.drop_eq_getElem_cons h1, List.set_append_right _ _ (by simp; omega), show k - (A.take k).length = 0 by simp; omega, List.append_assoc]
  rfl
theorem mix_at {α : Type} {A B : List α} {k j : Nat} (h : k ≤ j) (hk : k ≤ A.length) : (mixL A B k)[j]? = B[j]? := by
  rw [mixL, List.getElem?_append_right (by simp; omega), List.getElem?_drop]
  congr 1; simp; omega
theorem u64s_nil : u64s [] = [] := rfl
theorem u64s_app (l m : List Int) : u64s (l ++ m) = u64s l ++ u64s m := by simp [u64s]
theorem u64s_one (x : Int) : u64s [x] = [.int .u64 x] := rfl
theorem u64s_ne {l : List Int} (h : l ≠ []) : u64s l ≠ [] := by simpa [u64s] using h
theorem ints_set (l : List Int) (k : Nat) (x : Int) : (ints l).set k (.int .i64 x) = ints (l.set k x) := by simp [ints, List.map_set]
theorem u64s_set (l : List Int) (k : Nat) (x : Int) : (u64s l).set k (.int .u64 x) = u64s (l.set k x) := by simp [u64s, List.map_set]
theorem i64_nat {k : Nat} (h : k < 4611686018427387904) : IntKind.i64.wrap (Int.ofNat k + 1) = ((k + 1 : Nat) : Int) := IntWalk.i64_in _ (by simp; omega)
/-- The words of these texts, as functions of which nothing is known but what follows. -/
theorem vocab : ∃ (ints_ u64s_ : List Int → List D) (gv_ : Nat → Nat → List D → D) (gh_ : Nat → Nat → Nat → List D → List (Nat × Blk) → List (Nat × Blk)) (lenF : List D → Nat),
    ints_ = ints ∧ u64s_ = u64s ∧ gv_ = gv ∧ gh_ = gh ∧ lenF = lenD ∧ (∀ l, lenF l = l.length) ∧
    (∀ (l : List Int), (ints_ l).length = l.length) ∧
    (∀ (l : List Int), (u64s_ l).length = l.length) ∧
    (∀ (l : List Int), ∀ d, d ∈ ints_ l → d.cells.length = 1) ∧
    (∀ (l : List Int), ∀ d, d ∈ u64s_ l → d.cells.length = 1) ∧
    (∀ (l : List Int), ∀ (k : Nat) (x : Int), l[k]? = some x → (ints_ l)[k]? = some (D.int .i64 x)) ∧
    (∀ (l : List Int), ∀ (k : Nat) (x : Int), l[k]? = some x → (u64s_ l)[k]? = some (D.int .u64 x)) ∧
    (∀ (b z : Nat), gv_ b z [] = .nil) ∧
    (∀ (b z ty : Nat) (r : List (Nat × Blk)), gh_ b z ty [] r = r) ∧
    (∀ {b z : Nat} {l : List D} (h : l ≠ []), gv_ b z l = .sl b z 0 (lenF l)) ∧
    (∀ {b z ty : Nat} {l : List D} {r : List (Nat × Blk)} (h : l ≠ []), gh_ b z ty l r = (b, ⟨z, ty, l, true, false⟩) :: r) ∧
    (∀ (b z : Nat) (l : List D) (x : D), gv_ b z (l ++ [x]) = .sl b z 0 (l.length + 1)) ∧
    (∀ (b z ty : Nat) (l : List D) (x : D) (r : List (Nat × Blk)), gh_ b z ty (l ++ [x]) r = (b, ⟨z, ty, l ++ [x], true, false⟩) :: r) ∧
    (∀ (b z : Nat) (x : D), gv_ b z [x] = .sl b z 0 1) ∧
    (∀ (b z ty : Nat) (x : D) (r : List (Nat × Blk)), gh_ b z ty [x] r = (b, ⟨z, ty, [x], true, false⟩) :: r) ∧
    (∀ {b z n : Nat} {l : List D} (h : b < n), D.lt n (gv_ b z l) = true) ∧
    (∀ (π : Nat → Nat) (b z : Nat) (l : List D), D.ren π (gv_ b z l) = gv_ (π b) z l) ∧
    (∀ (b z ty : Nat) (l : List D) (r : List (Nat × Blk)) (k : Nat), lk (gh_ b z ty l r) k = if b = k ∧ l ≠ [] then some ⟨z, ty, l, true, false⟩ else lk r k) ∧
    (∀ (π : Nat → Nat) (n : Nat) (H : List (Nat × Blk)) (b z ty : Nat) (l : List D) (r : List (Nat × Blk)), renH π n H (gh_ b z ty l r) ↔ (l ≠ [] → (match lk H (π b) with       | some B => renB π n B ⟨z, ty, l, true, false⟩       | none => False) ∧ b < n) ∧ renH π n H r) ∧
    (∀ (b z ty : Nat) (l : List D) (r : List (Nat × Blk)) (x : Nat × Blk), x ∈ gh_ b z ty l r ↔ (l ≠ [] ∧ x = (b, ⟨z, ty, l, true, false⟩)) ∨ x ∈ r) ∧
    (∀ (π : Nat → Nat) (k b z ty : Nat) (l : List D) (r : List (Nat × Blk)), injK π k (gh_ b z ty l r) ↔ (l ≠ [] → π b = π k → b = k) ∧ injK π k r) ∧
    (∀ (π : Nat → Nat) (b z ty : Nat) (l : List D) (r : List (Nat × Blk)), injH π (gh_ b z ty l r) ↔ (l ≠ [] → injK π b r) ∧ injH π r) ∧
    (ints_ [] = []) ∧
    (∀ (l m : List Int), ints_ (l ++ m) = ints_ l ++ ints_ m) ∧
    (∀ (x : Int), ints_ [x] = [.int .i64 x]) ∧
    (∀ (x : Int) (l : List Int), ints_ (x :: l) = .int .i64 x :: ints_ l) ∧
    (∀ {l : List Int} (h : l ≠ []), ints_ l ≠ []) ∧
    (u64s_ [] = []) ∧
    (∀ (l m : List Int), u64s_ (l ++ m) = u64s_ l ++ u64s_ m) ∧
    (∀ (x : Int), u64s_ [x] = [.int .u64 x]) ∧
    (∀ {l : List Int} (h : l ≠ []), u64s_ l ≠ []) ∧
    (∀ (l : List Int) (k : Nat) (x : Int), (ints_ l).set k (.int .i64 x) = ints_ (l.set k x)) ∧
    (∀ (l : List Int) (k : Nat) (x : Int), (u64s_ l).set k (.int .u64 x) = u64s_ (l.set k x)) :=
  ⟨ints, u64s, gv, gh, lenD, rfl, rfl, rfl, rfl, rfl, fun _ => rfl, ints_len, u64s_len, ints_cells, u64s_cells, ints_at, u64s_at, gv_nil, gh_nil, gv_ne, gh_ne, gv_snoc, gh_snoc, gv_one, gh_one, lt_gv, ren_gv, lk_gh, renH_gh, mem_gh, injK_gh, injH_gh, ints_nil, ints_app, ints_one, ints_cons, ints_ne, u64s_nil, u64s_app, u64s_one, u64s_ne, ints_set, u64s_set⟩
end Go.Proofs.YtppmomobjjpljaaDoor.E
end

/- Part C1. -/
section
/- Contracts: Go's slices package, as the program calls it. -/
namespace Go.Proofs.YtppmomobjjpljaaDoor.E
open Go Go.RowKit
set_option linter.unusedVariables false
set_option linter.unusedSimpArgs false
set_option maxRecDepth 100000
variable {G : List (Nat × D)}
theorem clone_ints (L : List D) (h1 : ∀ d, d ∈ L → d.cells.length = 1) (h2 : L ≠ []) (h3 : L.length < 1000000) : Contract Tryd.prog G 51 [.ro L] (.sl 0 1 0 L.length) [⟨1, 3, L, true, false⟩] := by
  refine funOwn tys_ok mixed (n := 8) (rs := [.tmp 2]) ⟨Tryd.func51, by kernel_rfl, rfl⟩ [0] rfl rfl (by simp) fun F d0 e0 hF hd he => ?_
  obtain ⟨ints, u64s, gv, gh, lenF, hVi, hVu, hVg, hVh, hVl, lenD, ints_len, u64s_len, ints_cells, u64s_cells, ints_at, u64s_at, gv_nil, gh_nil, gv_ne, gh_ne, gv_snoc, gh_snoc, gv_one, gh_one, lt_gv, ren_gv, lk_gh, renH_gh, mem_gh, injK_gh, injH_gh, ints_nil, ints_app, ints_one, ints_cons, ints_ne, u64s_nil, u64s_app, u64s_one, u64s_ne, ints_set, u64s_set⟩ := vocab
  ((try rewrite [← hVi]); (try rewrite [← hVu]); (try rewrite [← hVg]); (try rewrite [← hVh]); conv => cbv)
  refine ⟨fun _ => ?_, fun h => absurd h h2⟩
  ((try rewrite [← hVi]); (try rewrite [← hVu]); (try rewrite [← hVg]); (try rewrite [← hVh]); conv => cbv)
  refine ⟨by subst hF hVi hVu hVg hVh hVl; exact ⟨trivial, h1⟩, by subst hF hVi hVu hVg hVh hVl; simp only [fns]; omega, fun h => absurd h h2, fun _ => ?_⟩
  ((try rewrite [← hVi]); (try rewrite [← hVu]); (try rewrite [← hVg]); (try rewrite [← hVh]); conv => cbv)
  subst hF hVi hVu hVg hVh hVl; subst hd; subst he
  simp only [fns]
  refine ⟨by simp [D.ren], by simp [D.lt], by decide, rfl, fun k B hB => ?_⟩
  match k, hB with
  | 0, hB => simp at hB; subst hB; simp [lk]
  | k + 1, hB => simp at hB
theorem clone_u64s (L : List D) (h1 : ∀ d, d ∈ L → d.cells.length = 1) (h2 : L ≠ []) (h3 : L.length < 1000000) : Contract Tryd.prog G 74 [.ro L] (.sl 0 1 0 L.length) [⟨1, 66, L, true, false⟩] := by
  refine funOwn tys_ok mixed (n := 8) (rs := [.tmp 2]) ⟨Tryd.func74, by kernel_rfl, rfl⟩ [0] rfl rfl (by simp) fun F d0 e0 hF hd he => ?_
  obtain ⟨ints, u64s, gv, gh, lenF, hVi, hVu, hVg, hVh, hVl, lenD, ints_len, u64s_len, ints_cells, u64s_cells, ints_at, u64s_at, gv_nil, gh_nil, gv_ne, gh_ne, gv_snoc, gh_snoc, gv_one, gh_one, lt_gv, ren_gv, lk_gh, renH_gh, mem_gh, injK_gh, injH_gh, ints_nil, ints_app, ints_one, ints_cons, ints_ne, u64s_nil, u64s_app, u64s_one, u64s_ne, ints_set, u64s_set⟩ := vocab
  ((try rewrite [← hVi]); (try rewrite [← hVu]); (try rewrite [← hVg]); (try rewrite [← hVh]); conv => cbv)
  refine ⟨fun _ => ?_, fun h => absurd h h2⟩
  ((try rewrite [← hVi]); (try rewrite [← hVu]); (try rewrite [← hVg]); (try rewrite [← hVh]); conv => cbv)
  refine ⟨by subst hF hVi hVu hVg hVh hVl; exact ⟨trivial, h1⟩, by subst hF hVi hVu hVg hVh hVl; simp only [fns]; omega, fun h => absurd h h2, fun _ => ?_⟩
  ((try rewrite [← hVi]); (try rewrite [← hVu]); (try rewrite [← hVg]); (try rewrite [← hVh]); conv => cbv)
  subst hF hVi hVu hVg hVh hVl; subst hd; subst he
  simp only [fns]
  refine ⟨by simp [D.ren], by simp [D.lt], by decide, rfl, fun k B hB => ?_⟩
  match k, hB with
  | 0, hB => simp at hB; subst hB; simp [lk]
  | k + 1, hB => simp at hB
theorem subL_take (l : List D) (n : Nat) (h : n ≤ l.length) : subL l 0 n = l.take n := by
  rw [subL]
  split
  · rename_i h2; rw [List.take_of_length_le (by omega)]
  · simp
theorem ints_take (l : List Int) (n : Nat) : (ints l).take n = ints (l.take n) := by simp [ints, List.map_take]
/-- Where the first element with a property stands, or -1. -/
def idxP (p : Int → Bool) : Nat → List Int → Int
  | _, [] => -1
  | k, y :: l => if p y = true then k else idxP p (k + 1) l
theorem idxP_pos (p : Int → Bool) : ∀ (l : List Int) (k : Nat), 0 ≤ idxP p k l ↔ l.any p = true
  | [], k => by simp [idxP]
  | y :: l, k => by
    rw [idxP]
    split
    · rename_i h; simp [h]
    · rename_i h; rw [idxP_pos p l (k + 1)]; simp [h]
theorem index_c (l : List Int) (x : Int) (hl : l.length < 1000000) : Contract Tryd.prog G 76 [.ro (ints l), .int .i64 x] (.int .i64 (idxP (fun y => x == y) 0 l)) [] := by
  refine fun0 tys_ok mixed (n := 19) (rs := [.tmp 4]) ⟨Tryd.func76, by kernel_rfl, rfl⟩ rfl rfl (by simp) fun F d0 hF hd => ?_
  obtain ⟨ints, u64s, gv, gh, lenF, hVi, hVu, hVg, hVh, hVl, lenD, ints_len, u64s_len, ints_cells, u64s_cells, ints_at, u64s_at, gv_nil, gh_nil, gv_ne, gh_ne, gv_snoc, gh_snoc, gv_one, gh_one, lt_gv, ren_gv, lk_gh, renH_gh, mem_gh, injK_gh, injH_gh, ints_nil, ints_app, ints_one, ints_cons, ints_ne, u64s_nil, u64s_app, u64s_one, u64s_ne, ints_set, u64s_set⟩ := vocab
  obtain ⟨f_idxP, o_idxP⟩ : ∃ f, f = idxP := ⟨_, rfl⟩
  have hl1 := ints_len l
  generalize hP : idxP (fun y => x == y) 0 l = X at hd
  ((try rewrite [← hVi]); (try rewrite [← hVu]); (try rewrite [← hVg]); (try rewrite [← hVh]); (try rewrite [← o_idxP]); conv => cbv)
  refine loop_inv hF ((Nat)) (fun st_ => st_ ≤ l.length ∧ X = idxP (fun y => x == y) st_ (l.drop st_)) (fun st_ => { tm := [(0, .ro (ints l)), (1, .int .i64 x), (7, .int .i64 (F.nat (F.len (ints l)))), (8, .int .i64 st_)], hp := [], nx := 0, nt := 19, fr := [], df := [] }) (fun st_ => l.length - st_) ⟨0, by exact ⟨by simp, hP.symm⟩, wk_of hF (weakR (pie []) (by first | (simp +contextual [renT, renH, renB, renF, renDf, injH, pie, lk, D.ren, D.renL, D.lt, D.ltL, lt_gv, ren_gv, lk_gh, renH_gh, mem_gh, injH_gh, injK, injK_gh, lenD, gv_one, gh_one, subL_one, gv_nil, gh_nil, gv_snoc, gh_snoc, ints_nil, ints_app, ints_one, ints_cons, u64s_nil, u64s_app, u64s_one, ints_set, u64s_set, ints_len, u64s_len, List.nil_append, List.length_append, List.length_cons, List.length_nil]; done) | (subst hF hVi hVu hVg hVh hVl; (try subst o_idxP); simp only [fns, arI, cmI]; rw [IntWalk.i64_in _ (by simp; omega)]; simp +contextual [renT, renH, renB, renF, renDf, injH, pie, lk, D.ren, D.renL, D.lt, D.ltL, lt_gv, ren_gv, lk_gh, renH_gh, mem_gh, injH_gh, injK, injK_gh, lenD, gv_one, gh_one, subL_one, gv_nil, gh_nil, gv_snoc, gh_snoc, ints_nil, ints_app, ints_one, ints_cons, u64s_nil, u64s_app, u64s_one, ints_set, u64s_set, ints_len, u64s_len, List.nil_append, List.length_append, List.length_cons, List.length_nil]; done) | (subst hF hVi hVu hVg hVh hVl; (try subst o_idxP); simp +contextual [fns, arI, cmI, renT, renH, renB, renF, renDf, injH, pie, lk, D.ren, D.renL, D.lt, D.ltL, lt_gv, ren_gv, lk_gh, renH_gh, mem_gh, injH_gh, injK, injK_gh, lenD, gv_one, gh_one, subL_one, gv_nil, gh_nil, gv_snoc, gh_snoc, ints_nil, ints_app, ints_one, ints_cons, u64s_nil, u64s_app, u64s_one, ints_set, u64s_set, ints_len, u64s_len, List.nil_append, List.length_append, List.length_cons, List.length_nil])) (by first | (simp +contextual [renT, renH, renB, renF, renDf, injH, pie, lk, D.ren, D.renL, D.lt, D.ltL, lt_gv, ren_gv, lk_gh, renH_gh, mem_gh, injH_gh, injK, injK_gh, lenD, gv_one, gh_one, subL_one, gv_nil, gh_nil, gv_snoc, gh_snoc, ints_nil, ints_app, ints_one, ints_cons, u64s_nil, u64s_app, u64s_one, ints_set, u64s_set, ints_len, u64s_len, List.nil_append, List.length_append, List.length_cons, List.length_nil]; done) | (subst hF hVi hVu hVg hVh hVl; (try subst o_idxP); simp +contextual [fns, renT, renH, renB, renF, renDf, injH, pie, lk, D.ren, D.renL, D.lt, D.ltL, lt_gv, ren_gv, lk_gh, renH_gh, mem_gh, injH_gh, injK, injK_gh, lenD, gv_one, gh_one, subL_one, gv_nil, gh_nil, gv_snoc, gh_snoc, ints_nil, ints_app, ints_one, ints_cons, u64s_nil, u64s_app, u64s_one, ints_set, u64s_set, ints_len, u64s_len, List.nil_append, List.length_append, List.length_cons, List.length_nil])) (by simp +contextual [renT, renH, renB, renF, renDf, injH, pie, lk, D.ren, D.renL, D.lt, D.ltL, lt_gv, ren_gv, lk_gh, renH_gh, mem_gh, injH_gh, injK, injK_gh, lenD, gv_one, gh_one, subL_one, gv_nil, gh_nil, gv_snoc, gh_snoc, ints_nil, ints_app, ints_one, ints_cons, u64s_nil, u64s_app, u64s_one, ints_set, u64s_set, ints_len, u64s_len, List.nil_append, List.length_append, List.length_cons, List.length_nil]) rfl (by simp [renF, renT, lk, D.ren, D.renL, D.lt, D.ltL]) (by simp [renDf]))⟩ ?_
  rintro k hk
  try simp only at hk
  ((try rewrite [← hVi]); (try rewrite [← hVu]); (try rewrite [← hVg]); (try rewrite [← hVh]); (try rewrite [← o_idxP]); conv => cbv)
  split <;> rename_i h <;> (try rw [h]) <;> (((try rewrite [← hVi]); (try rewrite [← hVu]); (try rewrite [← hVg]); (try rewrite [← hVh]); (try rewrite [← o_idxP]); conv => cbv)) <;> (try simp only [hF, fns, cmI, decide_eq_true_eq, decide_eq_false_iff_not, beq_iff_eq, bne_iff_ne, beq_eq_false_iff_ne, bne_eq_false_iff_eq, ne_eq, Int.not_lt, Int.not_le, Classical.not_not, ge_iff_le, gt_iff_lt, Bool.not_eq_true] at h)
  · have hlt : k < l.length := by simp [hl1] at h; omega
    obtain ⟨y, hy⟩ : ∃ y, l[k]? = some y := ⟨_, List.getElem?_eq_getElem hlt⟩
    have hS := hk.2
    rw [drop_at hy, idxP] at hS
    refine ⟨by subst hF hVi hVu hVg hVh hVl; (try subst o_idxP); simp [fns], .int .i64 y, ints_at _ _ _ hy, rfl, ?_⟩
    ((try rewrite [← hVi]); (try rewrite [← hVu]); (try rewrite [← hVg]); (try rewrite [← hVh]); (try rewrite [← o_idxP]); conv => cbv)
    split <;> rename_i h2 <;> (try rw [h2]) <;> (((try rewrite [← hVi]); (try rewrite [← hVu]); (try rewrite [← hVg]); (try rewrite [← hVh]); (try rewrite [← o_idxP]); conv => cbv)) <;> (try simp only [hF, fns, cmI, decide_eq_true_eq, decide_eq_false_iff_not, beq_iff_eq, bne_iff_ne, beq_eq_false_iff_ne, bne_eq_false_iff_eq, ne_eq, Int.not_lt, Int.not_le, Classical.not_not, ge_iff_le, gt_iff_lt, Bool.not_eq_true] at h2)
    · subst hF hVi hVu hVg hVh hVl; (try subst o_idxP); subst hd
      simp only [fns]
      refine ⟨by simp [inRows, inRowsL, lk, lenD], ?_⟩
      rw [if_pos (by simp [h2])] at hS
      simp [reify, hS]
    · refine ⟨(k + 1), ?_, by first | omega | (simp; omega) | (simp only; omega), wk_of hF (weakR (pie []) (by first | (simp +contextual [renT, renH, renB, renF, renDf, injH, pie, lk, D.ren, D.renL, D.lt, D.ltL, lt_gv, ren_gv, lk_gh, renH_gh, mem_gh, injH_gh, injK, injK_gh, lenD, gv_one, gh_one, subL_one, gv_nil, gh_nil, gv_snoc, gh_snoc, ints_nil, ints_app, ints_one, ints_cons, u64s_nil, u64s_app, u64s_one, ints_set, u64s_set, ints_len, u64s_len, List.nil_append, List.length_append, List.length_cons, List.length_nil]; done) | (subst hF hVi hVu hVg hVh hVl; (try subst o_idxP); simp only [fns, arI, cmI]; rw [IntWalk.i64_in _ (by simp; omega)]; simp +contextual [renT, renH, renB, renF, renDf, injH, pie, lk, D.ren, D.renL, D.lt, D.ltL, lt_gv, ren_gv, lk_gh, renH_gh, mem_gh, injH_gh, injK, injK_gh, lenD, gv_one, gh_one, subL_one, gv_nil, gh_nil, gv_snoc, gh_snoc, ints_nil, ints_app, ints_one, ints_cons, u64s_nil, u64s_app, u64s_one, ints_set, u64s_set, ints_len, u64s_len, List.nil_append, List.length_append, List.length_cons, List.length_nil]; done) | (subst hF hVi hVu hVg hVh hVl; (try subst o_idxP); simp +contextual [fns, arI, cmI, renT, renH, renB, renF, renDf, injH, pie, lk, D.ren, D.renL, D.lt, D.ltL, lt_gv, ren_gv, lk_gh, renH_gh, mem_gh, injH_gh, injK, injK_gh, lenD, gv_one, gh_one, subL_one, gv_nil, gh_nil, gv_snoc, gh_snoc, ints_nil, ints_app, ints_one, ints_cons, u64s_nil, u64s_app, u64s_one, ints_set, u64s_set, ints_len, u64s_len, List.nil_append, List.length_append, List.length_cons, List.length_nil])) (by first | (simp +contextual [renT, renH, renB, renF, renDf, injH, pie, lk, D.ren, D.renL, D.lt, D.ltL, lt_gv, ren_gv, lk_gh, renH_gh, mem_gh, injH_gh, injK, injK_gh, lenD, gv_one, gh_one, subL_one, gv_nil, gh_nil, gv_snoc, gh_snoc, ints_nil, ints_app, ints_one, ints_cons, u64s_nil, u64s_app, u64s_one, ints_set, u64s_set, ints_len, u64s_len, List.nil_append, List.length_append, List.length_cons, List.length_nil]; done) | (subst hF hVi hVu hVg hVh hVl; (try subst o_idxP); simp +contextual [fns, renT, renH, renB, renF, renDf, injH, pie, lk, D.ren, D.renL, D.lt, D.ltL, lt_gv, ren_gv, lk_gh, renH_gh, mem_gh, injH_gh, injK, injK_gh, lenD, gv_one, gh_one, subL_one, gv_nil, gh_nil, gv_snoc, gh_snoc, ints_nil, ints_app, ints_one, ints_cons, u64s_nil, u64s_app, u64s_one, ints_set, u64s_set, ints_len, u64s_len, List.nil_append, List.length_append, List.length_cons, List.length_nil])) (by simp +contextual [renT, renH, renB, renF, renDf, injH, pie, lk, D.ren, D.renL, D.lt, D.ltL, lt_gv, ren_gv, lk_gh, renH_gh, mem_gh, injH_gh, injK, injK_gh, lenD, gv_one, gh_one, subL_one, gv_nil, gh_nil, gv_snoc, gh_snoc, ints_nil, ints_app, ints_one, ints_cons, u64s_nil, u64s_app, u64s_one, ints_set, u64s_set, ints_len, u64s_len, List.nil_append, List.length_append, List.length_cons, List.length_nil]) rfl (by simp [renF, renT, lk, D.ren, D.renL, D.lt, D.ltL]) (by simp [renDf]))⟩ <;> (skip; (try subst o_idxP))
      rw [if_neg (by simp [h2])] at hS
      exact ⟨by omega, hS⟩
  · have hge : k = l.length := by simp [hl1] at h; omega
    have hS := hk.2
    rw [List.drop_of_length_le (by omega)] at hS
    subst hF hVi hVu hVg hVh hVl; (try subst o_idxP); subst hd
    simp only [fns]
    refine ⟨by simp [inRows, inRowsL, lk, lenD], ?_⟩
    simp [reify, hS, idxP]
theorem contains_c (l : List Int) (x : Int) (hl : l.length < 1000000) : Contract Tryd.prog G 61 [.ro (ints l), .int .i64 x] (.bool (l.contains x)) [] := by
  refine fun0 tys_ok mixed (n := 9) (rs := [.tmp 4]) ⟨Tryd.func61, by kernel_rfl, rfl⟩ rfl rfl (by simp) fun F d0 hF hd => ?_
  obtain ⟨ints, u64s, gv, gh, lenF, hVi, hVu, hVg, hVh, hVl, lenD, ints_len, u64s_len, ints_cells, u64s_cells, ints_at, u64s_at, gv_nil, gh_nil, gv_ne, gh_ne, gv_snoc, gh_snoc, gv_one, gh_one, lt_gv, ren_gv, lk_gh, renH_gh, mem_gh, injK_gh, injH_gh, ints_nil, ints_app, ints_one, ints_cons, ints_ne, u64s_nil, u64s_app, u64s_one, u64s_ne, ints_set, u64s_set⟩ := vocab
  obtain ⟨f_idxP, o_idxP⟩ : ∃ f, f = idxP := ⟨_, rfl⟩
  have c1 := index_c (G := G) l x hl
  have hi := idxP_pos (fun y => x == y) l 0
  generalize idxP (fun y => x == y) 0 l = X at c1 hi
  generalize hc : l.contains x = c at hd
  ((try rewrite [← hVi]); (try rewrite [← hVu]); (try rewrite [← hVg]); (try rewrite [← hVh]); (try rewrite [← o_idxP]); conv => cbv)
  refine .inl ⟨_, _, by subst hF hVi hVu hVg hVh hVl; (try subst o_idxP); exact c1, by subst hF hVi hVu hVg hVh hVl; (try subst o_idxP); exact ⟨by simp [inRowsL, inRows, lk], by first | exact .inl rfl | exact .inr ⟨rfl, fun B h => nomatch h⟩⟩, ?_⟩ <;> ((try rewrite [← hVi]); (try rewrite [← hVu]); (try rewrite [← hVg]); (try rewrite [← hVh]); (try rewrite [← o_idxP]); conv => cbv)
  subst hF hVi hVu hVg hVh hVl; (try subst o_idxP); subst hd
  simp only [fns]
  refine ⟨by simp [inRows, inRowsL, lk, lenD], ?_⟩
  simp [reify, cmI]
  rw [← hc, List.contains_eq_any_beq, Bool.eq_iff_iff, decide_eq_true_eq, hi]
theorem indexFunc_c (f : FuncId) (p : Int → Bool) (hf : ∀ x, Contract Tryd.prog G f [.int .i64 x] (.bool (p x)) []) (l : List Int) (hl : l.length < 1000000) : Contract Tryd.prog G 71 [.ro (ints l), .fn f []] (.int .i64 (idxP p 0 l)) [] := by
  refine fun0 tys_ok mixed (n := 19) (rs := [.tmp 4]) ⟨Tryd.func71, by kernel_rfl, rfl⟩ rfl rfl (by simp) fun F d0 hF hd => ?_
  obtain ⟨ints, u64s, gv, gh, lenF, hVi, hVu, hVg, hVh, hVl, lenD, ints_len, u64s_len, ints_cells, u64s_cells, ints_at, u64s_at, gv_nil, gh_nil, gv_ne, gh_ne, gv_snoc, gh_snoc, gv_one, gh_one, lt_gv, ren_gv, lk_gh, renH_gh, mem_gh, injK_gh, injH_gh, ints_nil, ints_app, ints_one, ints_cons, ints_ne, u64s_nil, u64s_app, u64s_one, u64s_ne, ints_set, u64s_set⟩ := vocab
  obtain ⟨f_idxP, o_idxP⟩ : ∃ f, f = idxP := ⟨_, rfl⟩
  have hl1 := ints_len l
  generalize hP : idxP p 0 l = X at hd
  ((try rewrite [← hVi]); (try rewrite [← hVu]); (try rewrite [← hVg]); (try rewrite [← hVh]); (try rewrite [← o_idxP]); conv => cbv)
  refine loop_inv hF ((Nat)) (fun st_ => st_ ≤ l.length ∧ X = idxP p st_ (l.drop st_)) (fun st_ => { tm := [(0, .ro (ints l)), (1, .fn f []), (7, .int .i64 (F.nat (F.len (ints l)))), (8, .int .i64 st_)], hp := [], nx := 0, nt := 19, fr := [], df := [] }) (fun st_ => l.length - st_) ⟨0, by exact ⟨by simp, hP.symm⟩, wk_of hF (weakR (pie []) (by first | (simp +contextual [renT, renH, renB, renF, renDf, injH, pie, lk, D.ren, D.renL, D.lt, D.ltL, lt_gv, ren_gv, lk_gh, renH_gh, mem_gh, injH_gh, injK, injK_gh, lenD, gv_one, gh_one, subL_one, gv_nil, gh_nil, gv_snoc, gh_snoc, ints_nil, ints_app, ints_one, ints_cons, u64s_nil, u64s_app, u64s_one, ints_set, u64s_set, ints_len, u64s_len, List.nil_append, List.length_append, List.length_cons, List.length_nil]; done) | (subst hF hVi hVu hVg hVh hVl; (try subst o_idxP); simp only [fns, arI, cmI]; rw [IntWalk.i64_in _ (by simp; omega)]; simp +contextual [renT, renH, renB, renF, renDf, injH, pie, lk, D.ren, D.renL, D.lt, D.ltL, lt_gv, ren_gv, lk_gh, renH_gh, mem_gh, injH_gh, injK, injK_gh, lenD, gv_one, gh_one, subL_one, gv_nil, gh_nil, gv_snoc, gh_snoc, ints_nil, ints_app, ints_one, ints_cons, u64s_nil, u64s_app, u64s_one, ints_set, u64s_set, ints_len, u64s_len, List.nil_append, List.length_append, List.length_cons, List.length_nil]; done) | (subst hF hVi hVu hVg hVh hVl; (try subst o_idxP); simp +contextual [fns, arI, cmI, renT, renH, renB, renF, renDf, injH, pie, lk, D.ren, D.renL, D.lt, D.ltL, lt_gv, ren_gv, lk_gh, renH_gh, mem_gh, injH_gh, injK, injK_gh, lenD, gv_one, gh_one, subL_one, gv_nil, gh_nil, gv_snoc, gh_snoc, ints_nil, ints_app, ints_one, ints_cons, u64s_nil, u64s_app, u64s_one, ints_set, u64s_set, ints_len, u64s_len, List.nil_append, List.length_append, List.length_cons, List.length_nil])) (by first | (simp +contextual [renT, renH, renB, renF, renDf, injH, pie, lk, D.ren, D.renL, D.lt, D.ltL, lt_gv, ren_gv, lk_gh, renH_gh, mem_gh, injH_gh, injK, injK_gh, lenD, gv_one, gh_one, subL_one, gv_nil, gh_nil, gv_snoc, gh_snoc, ints_nil, ints_app, ints_one, ints_cons, u64s_nil, u64s_app, u64s_one, ints_set, u64s_set, ints_len, u64s_len, List.nil_append, List.length_append, List.length_cons, List.length_nil]; done) | (subst hF hVi hVu hVg hVh hVl; (try subst o_idxP); simp +contextual [fns, renT, renH, renB, renF, renDf, injH, pie, lk, D.ren, D.renL, D.lt, D.ltL, lt_gv, ren_gv, lk_gh, renH_gh, mem_gh, injH_gh, injK, injK_gh, lenD, gv_one, gh_one, subL_one, gv_nil, gh_nil, gv_snoc, gh_snoc, ints_nil, ints_app, ints_one, ints_cons, u64s_nil, u64s_app, u64s_one, ints_set, u64s_set, ints_len, u64s_len, List.nil_append, List.length_append, List.length_cons, List.length_nil])) (by simp +contextual [renT, renH, renB, renF, renDf, injH, pie, lk, D.ren, D.renL, D.lt, D.ltL, lt_gv, ren_gv, lk_gh, renH_gh, mem_gh, injH_gh, injK, injK_gh, lenD, gv_one, gh_one, subL_one, gv_nil, gh_nil, gv_snoc, gh_snoc, ints_nil, ints_app, ints_one, ints_cons, u64s_nil, u64s_app, u64s_one, ints_set, u64s_set, ints_len, u64s_len, List.nil_append, List.length_append, List.length_cons, List.length_nil]) rfl (by simp [renF, renT, lk, D.ren, D.renL, D.lt, D.ltL]) (by simp [renDf]))⟩ ?_
  rintro k hk
  try simp only at hk
  ((try rewrite [← hVi]); (try rewrite [← hVu]); (try rewrite [← hVg]); (try rewrite [← hVh]); (try rewrite [← o_idxP]); conv => cbv)
  split <;> rename_i h <;> (try rw [h]) <;> (((try rewrite [← hVi]); (try rewrite [← hVu]); (try rewrite [← hVg]); (try rewrite [← hVh]); (try rewrite [← o_idxP]); conv => cbv)) <;> (try simp only [hF, fns, cmI, decide_eq_true_eq, decide_eq_false_iff_not, beq_iff_eq, bne_iff_ne, beq_eq_false_iff_ne, bne_eq_false_iff_eq, ne_eq, Int.not_lt, Int.not_le, Classical.not_not, ge_iff_le, gt_iff_lt, Bool.not_eq_true] at h)
  · have hlt : k < l.length := by simp [hl1] at h; omega
    obtain ⟨y, hy⟩ : ∃ y, l[k]? = some y := ⟨_, List.getElem?_eq_getElem hlt⟩
    have hS := hk.2
    rw [drop_at hy, idxP] at hS
    refine ⟨by subst hF hVi hVu hVg hVh hVl; (try subst o_idxP); simp [fns], .int .i64 y, ints_at _ _ _ hy, rfl, ?_⟩
    ((try rewrite [← hVi]); (try rewrite [← hVu]); (try rewrite [← hVg]); (try rewrite [← hVh]); (try rewrite [← o_idxP]); conv => cbv)
    have c1 := hf y
    generalize p y = b at c1 hS
    refine .inl ⟨_, _, by subst hF hVi hVu hVg hVh hVl; (try subst o_idxP); exact c1, by subst hF hVi hVu hVg hVh hVl; (try subst o_idxP); exact ⟨by simp [inRowsL, inRows, lk], by first | exact .inl rfl | exact .inr ⟨rfl, fun B h => nomatch h⟩⟩, ?_⟩ <;> ((try rewrite [← hVi]); (try rewrite [← hVu]); (try rewrite [← hVg]); (try rewrite [← hVh]); (try rewrite [← o_idxP]); conv => cbv)
    cases b
    · ((try rewrite [← hVi]); (try rewrite [← hVu]); (try rewrite [← hVg]); (try rewrite [← hVh]); (try rewrite [← o_idxP]); conv => cbv)
      refine ⟨(k + 1), ?_, by first | omega | (simp; omega) | (simp only; omega), wk_of hF (weakR (pie []) (by first | (simp +contextual [renT, renH, renB, renF, renDf, injH, pie, lk, D.ren, D.renL, D.lt, D.ltL, lt_gv, ren_gv, lk_gh, renH_gh, mem_gh, injH_gh, injK, injK_gh, lenD, gv_one, gh_one, subL_one, gv_nil, gh_nil, gv_snoc, gh_snoc, ints_nil, ints_app, ints_one, ints_cons, u64s_nil, u64s_app, u64s_one, ints_set, u64s_set, ints_len, u64s_len, List.nil_append, List.length_append, List.length_cons, List.length_nil]; done) | (subst hF hVi hVu hVg hVh hVl; (try subst o_idxP); simp only [fns, arI, cmI]; rw [IntWalk.i64_in _ (by simp; omega)]; simp +contextual [renT, renH, renB, renF, renDf, injH, pie, lk, D.ren, D.renL, D.lt, D.ltL, lt_gv, ren_gv, lk_gh, renH_gh, mem_gh, injH_gh, injK, injK_gh, lenD, gv_one, gh_one, subL_one, gv_nil, gh_nil, gv_snoc, gh_snoc, ints_nil, ints_app, ints_one, ints_cons, u64s_nil, u64s_app, u64s_one, ints_set, u64s_set, ints_len, u64s_len, List.nil_append, List.length_append, List.length_cons, List.length_nil]; done) | (subst hF hVi hVu hVg hVh hVl; (try subst o_idxP); simp +contextual [fns, arI, cmI, renT, renH, renB, renF, renDf, injH, pie, lk, D.ren, D.renL, D.lt, D.ltL, lt_gv, ren_gv, lk_gh, renH_gh, mem_gh, injH_gh, injK, injK_gh, lenD, gv_one, gh_one, subL_one, gv_nil, gh_nil, gv_snoc, gh_snoc, ints_nil, ints_app, ints_one, ints_cons, u64s_nil, u64s_app, u64s_one, ints_set, u64s_set, ints_len, u64s_len, List.nil_append, List.length_append, List.length_cons, List.length_nil])) (by first | (simp +contextual [renT, renH, renB, renF, renDf, injH, pie, lk, D.ren, D.renL, D.lt, D.ltL, lt_gv, ren_gv, lk_gh, renH_gh, mem_gh, injH_gh, injK, injK_gh, lenD, gv_one, gh_one, subL_one, gv_nil, gh_nil, gv_snoc, gh_snoc, ints_nil, ints_app, ints_one, ints_cons, u64s_nil, u64s_app, u64s_one, ints_set, u64s_set, ints_len, u64s_len, List.nil_append, List.length_append, List.length_cons, List.length_nil]; done) | (subst hF hVi hVu hVg hVh hVl; (try subst o_idxP); simp +contextual [fns, renT, renH, renB, renF, renDf, injH, pie, lk, D.ren, D.renL, D.lt, D.ltL, lt_gv, ren_gv, lk_gh, renH_gh, mem_gh, injH_gh, injK, injK_gh, lenD, gv_one, gh_one, subL_one, gv_nil, gh_nil, gv_snoc, gh_snoc, ints_nil, ints_app, ints_one, ints_cons, u64s_nil, u64s_app, u64s_one, ints_set, u64s_set, ints_len, u64s_len, List.nil_append, List.length_append, List.length_cons, List.length_nil])) (by simp +contextual [renT, renH, renB, renF, renDf, injH, pie, lk, D.ren, D.renL, D.lt, D.ltL, lt_gv, ren_gv, lk_gh, renH_gh, mem_gh, injH_gh, injK, injK_gh, lenD, gv_one, gh_one, subL_one, gv_nil, gh_nil, gv_snoc, gh_snoc, ints_nil, ints_app, ints_one, ints_cons, u64s_nil, u64s_app, u64s_one, ints_set, u64s_set, ints_len, u64s_len, List.nil_append, List.length_append, List.length_cons, List.length_nil]) rfl (by simp [renF, renT, lk, D.ren, D.renL, D.lt, D.ltL]) (by simp [renDf]))⟩ <;> (skip; (try subst o_idxP))
      rw [if_neg (by simp)] at hS
      exact ⟨by omega, hS⟩
    · ((try rewrite [← hVi]); (try rewrite [← hVu]); (try rewrite [← hVg]); (try rewrite [← hVh]); (try rewrite [← o_idxP]); conv => cbv)
      subst hF hVi hVu hVg hVh hVl; (try subst o_idxP); subst hd
      simp only [fns]
      refine ⟨by simp [inRows, inRowsL, lk, lenD], ?_⟩
      rw [if_pos rfl] at hS
      simp [reify, hS]
  · have hge : k = l.length := by simp [hl1] at h; omega
    have hS := hk.2
    rw [List.drop_of_length_le (by omega)] at hS
    subst hF hVi hVu hVg hVh hVl; (try subst o_idxP); subst hd
    simp only [fns]
    refine ⟨by simp [inRows, inRowsL, lk, lenD], ?_⟩
    simp [reify, hS, idxP]
theorem containsFunc_c (f : FuncId) (p : Int → Bool) (hf : ∀ x, Contract Tryd.prog G f [.int .i64 x] (.bool (p x)) []) (l : List Int) (hl : l.length < 1000000) : Contract Tryd.prog G 65 [.ro (ints l), .fn f []] (.bool (l.any p)) [] := by
  refine fun0 tys_ok mixed (n := 9) (rs := [.tmp 4]) ⟨Tryd.func65, by kernel_rfl, rfl⟩ rfl rfl (by simp) fun F d0 hF hd => ?_
  obtain ⟨ints, u64s, gv, gh, lenF, hVi, hVu, hVg, hVh, hVl, lenD, ints_len, u64s_len, ints_cells, u64s_cells, ints_at, u64s_at, gv_nil, gh_nil, gv_ne, gh_ne, gv_snoc, gh_snoc, gv_one, gh_one, lt_gv, ren_gv, lk_gh, renH_gh, mem_gh, injK_gh, injH_gh, ints_nil, ints_app, ints_one, ints_cons, ints_ne, u64s_nil, u64s_app, u64s_one, u64s_ne, ints_set, u64s_set⟩ := vocab
  obtain ⟨f_idxP, o_idxP⟩ : ∃ f, f = idxP := ⟨_, rfl⟩
  have c1 := indexFunc_c f p hf l hl
  have hi := idxP_pos p l 0
  generalize idxP p 0 l = X at c1 hi
  generalize hc : l.any p = c at hd hi
  ((try rewrite [← hVi]); (try rewrite [← hVu]); (try rewrite [← hVg]); (try rewrite [← hVh]); (try rewrite [← o_idxP]); conv => cbv)
  refine .inl ⟨_, _, by subst hF hVi hVu hVg hVh hVl; (try subst o_idxP); exact c1, by subst hF hVi hVu hVg hVh hVl; (try subst o_idxP); exact ⟨by simp [inRowsL, inRows, lk], by first | exact .inl rfl | exact .inr ⟨rfl, fun B h => nomatch h⟩⟩, ?_⟩ <;> ((try rewrite [← hVi]); (try rewrite [← hVu]); (try rewrite [← hVg]); (try rewrite [← hVh]); (try rewrite [← o_idxP]); conv => cbv)
  subst hF hVi hVu hVg hVh hVl; (try subst o_idxP); subst hd
  simp only [fns]
  refine ⟨by simp [inRows, inRowsL, lk, lenD], ?_⟩
  simp [reify, cmI]
  rw [Bool.eq_iff_iff, decide_eq_true_eq, hi]
end Go.Proofs.YtppmomobjjpljaaDoor.E
end

/- Part A1. -/
section
/- Contracts of small functions. -/
namespace Go.Proofs.YtppmomobjjpljaaDoor.E
open Go Go.RowKit
set_option linter.unusedVariables false
set_option linter.unusedSimpArgs false
set_option maxRecDepth 100000
def G0 : List (Nat × D) := [(0, .agg [.int .u64 4, .int .u64 8, .int .u64 16])]
def tblD (r : Int) (L E : List Int) : D := .agg [.int .i64 r, .ro (ints L), .ro (u64s E)]
def lightS (L E : List Int) : Bool := decide (L.length ≤ 10) && decide (E.length ≤ 70)
theorem light_c (r : Int) (L E : List Int) : Contract Tryd.prog G0 9 [tblD r L E] (.bool (lightS L E)) [] := by
  refine fun0 tys_ok mixed (n := 13) (rs := [.tmp 2]) ⟨Tryd.func9, by kernel_rfl, rfl⟩ rfl rfl (by simp) fun F d0 hF hd => ?_
  unfold tblD
  generalize hL : ints L = L'
  generalize hU : u64s E = U'
  conv => cbv
  split <;> rename_i h <;> (try rw [h]) <;> conv => cbv
  all_goals
    subst hF; subst hd; subst hL; subst hU
    simp only [fns, cmI, ints_len, u64s_len] at h ⊢
    refine ⟨trivial, ?_⟩
    simp at h
    simp [reify, lightS, h]
    try rw [Bool.eq_iff_iff]
    try simp
    omega
theorem beq_of {l m : List Int} (h1 : l.length = m.length) (h2 : ∀ j, j < l.length → l[j]? = m[j]?) : (l == m) = true := by
  rw [beq_iff_eq]
  refine List.ext_getElem? fun j => ?_
  rcases Nat.lt_or_ge j l.length with h | h
  · exact h2 j h
  · rw [List.getElem?_eq_none h, List.getElem?_eq_none (by omega)]
theorem sameInts_c (l m : List Int) (hl : l.length < 4611686018427387904) : Contract Tryd.prog G0 25 [.ro (ints l), .ro (ints m)] (.bool (l == m)) [] := by
  refine fun0 tys_ok mixed (n := 26) (rs := [.tmp 4]) ⟨Tryd.func25, by kernel_rfl, rfl⟩ rfl rfl (by simp) fun F d0 hF hd => ?_
  have hLl := ints_len l
  have hMl := ints_len m
  generalize hL : ints l = L at hLl ⊢
  generalize hM : ints m = M at hMl ⊢
  conv => cbv
  split <;> rename_i h <;> (try rw [h]) <;> conv => cbv
  · subst hF; subst hd
    simp only [fns, cmI] at h ⊢
    refine ⟨trivial, ?_⟩
    simp [hLl, hMl] at h
    simp [reify]
    intro e; subst e; omega
  · have hlen : l.length = m.length := by
      subst hF; simp [fns, cmI, hLl, hMl] at h; omega
    refine loop_inv hF Nat (fun k => k ≤ l.length ∧ ∀ j, j < k → l[j]? = m[j]?) (fun k => { tm := [(0, .ro L), (1, .ro M), (4, .bool false), (5, .int .i64 k)], hp := [], nx := 0, nt := 26, fr := [], df := [] }) (fun k => l.length - k) ⟨0, ⟨Nat.zero_le _, fun j hj => absurd hj (Nat.not_lt_zero j)⟩, wk_of hF (weak0 ?_ ?_ (Nat.zero_le _) rfl rfl rfl rfl rfl)⟩ fun k hk => ?_
    · simp [subT, lk, D.lt]
    · trivial
    · conv => cbv
      split <;> rename_i h2 <;> (try rw [h2]) <;> conv => cbv
      · have hlt : k < l.length := by subst hF; simp [fns, cmI, hLl] at h2; omega
        have hltm : k < m.length := by omega
        obtain ⟨x, hx⟩ : ∃ x, l[k]? = some x := ⟨_, List.getElem?_eq_getElem hlt⟩
        obtain ⟨y, hy⟩ : ∃ y, m[k]? = some y := ⟨_, List.getElem?_eq_getElem hltm⟩
        refine ⟨by subst hF; simp [fns], .int .i64 x, by subst hL; simp [ints, hx], rfl, ?_⟩
        conv => cbv
        refine ⟨by subst hF; simp [fns], .int .i64 y, by subst hM; simp [ints, hy], rfl, ?_⟩
        conv => cbv
        split <;> rename_i h3 <;> (try rw [h3]) <;> conv => cbv
        · subst hF; subst hd
          simp only [fns, cmI] at h3 ⊢
          refine ⟨trivial, ?_⟩
          simp at h3
          simp [reify]
          intro e; subst e; rw [hx] at hy; cases hy; exact h3 rfl
        · refine ⟨k + 1, ⟨by omega, fun j hj => ?_⟩, by omega, wk_of hF (weak0 ?_ ?_ (Nat.zero_le _) rfl rfl rfl rfl rfl)⟩
          · subst hF; simp [fns, cmI] at h3
            rcases Nat.lt_succ_iff_lt_or_eq.1 hj with h4 | h4
            · exact hk.2 j h4
            · subst h4; rw [hx, hy, h3]
          · subst hF
            simp only [fns, arI]
            rw [IntWalk.i64_in _ (by simp; omega)]
            simp [subT, lk, D.lt]
          · trivial
      · have hge : k = l.length := by subst hF; simp [fns, cmI, hLl] at h2; omega
        subst hF; subst hd
        simp only [fns]
        refine ⟨trivial, ?_⟩
        rw [beq_of hlen (fun j hj => hk.2 j (by omega))]
        simp [reify]
theorem sameWords_c (l m : List Int) (hl : l.length < 4611686018427387904) : Contract Tryd.prog G0 44 [.ro (u64s l), .ro (u64s m)] (.bool (l == m)) [] := by
  refine fun0 tys_ok mixed (n := 26) (rs := [.tmp 4]) ⟨Tryd.func44, by kernel_rfl, rfl⟩ rfl rfl (by simp) fun F d0 hF hd => ?_
  have hLl := u64s_len l
  have hMl := u64s_len m
  generalize hL : u64s l = L at hLl ⊢
  generalize hM : u64s m = M at hMl ⊢
  conv => cbv
  split <;> rename_i h <;> (try rw [h]) <;> conv => cbv
  · subst hF; subst hd
    simp only [fns, cmI] at h ⊢
    refine ⟨trivial, ?_⟩
    simp [hLl, hMl] at h
    simp [reify]
    intro e; subst e; omega
  · have hlen : l.length = m.length := by
      subst hF; simp [fns, cmI, hLl, hMl] at h; omega
    refine loop_inv hF Nat (fun k => k ≤ l.length ∧ ∀ j, j < k → l[j]? = m[j]?) (fun k => { tm := [(0, .ro L), (1, .ro M), (4, .bool false), (5, .int .i64 k)], hp := [], nx := 0, nt := 26, fr := [], df := [] }) (fun k => l.length - k) ⟨0, ⟨Nat.zero_le _, fun j hj => absurd hj (Nat.not_lt_zero j)⟩, wk_of hF (weak0 ?_ ?_ (Nat.zero_le _) rfl rfl rfl rfl rfl)⟩ fun k hk => ?_
    · simp [subT, lk, D.lt]
    · trivial
    · conv => cbv
      split <;> rename_i h2 <;> (try rw [h2]) <;> conv => cbv
      · have hlt : k < l.length := by subst hF; simp [fns, cmI, hLl] at h2; omega
        have hltm : k < m.length := by omega
        obtain ⟨x, hx⟩ : ∃ x, l[k]? = some x := ⟨_, List.getElem?_eq_getElem hlt⟩
        obtain ⟨y, hy⟩ : ∃ y, m[k]? = some y := ⟨_, List.getElem?_eq_getElem hltm⟩
        refine ⟨by subst hF; simp [fns], .int .u64 x, by subst hL; simp [u64s, hx], rfl, ?_⟩
        conv => cbv
        refine ⟨by subst hF; simp [fns], .int .u64 y, by subst hM; simp [u64s, hy], rfl, ?_⟩
        conv => cbv
        split <;> rename_i h3 <;> (try rw [h3]) <;> conv => cbv
        · subst hF; subst hd
          simp only [fns, cmI] at h3 ⊢
          refine ⟨trivial, ?_⟩
          simp at h3
          simp [reify]
          intro e; subst e; rw [hx] at hy; cases hy; exact h3 rfl
        · refine ⟨k + 1, ⟨by omega, fun j hj => ?_⟩, by omega, wk_of hF (weak0 ?_ ?_ (Nat.zero_le _) rfl rfl rfl rfl rfl)⟩
          · subst hF; simp [fns, cmI] at h3
            rcases Nat.lt_succ_iff_lt_or_eq.1 hj with h4 | h4
            · exact hk.2 j h4
            · subst h4; rw [hx, hy, h3]
          · subst hF
            simp only [fns, arI]
            rw [IntWalk.i64_in _ (by simp; omega)]
            simp [subT, lk, D.lt]
          · trivial
      · have hge : k = l.length := by subst hF; simp [fns, cmI, hLl] at h2; omega
        subst hF; subst hd
        simp only [fns]
        refine ⟨trivial, ?_⟩
        rw [beq_of hlen (fun j hj => hk.2 j (by omega))]
        simp [reify]
theorem sameTable_c (r r' : Int) (L L' E E' : List Int) (hL : L.length < 4611686018427387904) (hE : E.length < 4611686018427387904) : Contract Tryd.prog G0 14 [tblD r L E, tblD r' L' E'] (.bool (r == r' && L == L' && E == E')) [] := by
  refine fun0 tys_ok mixed (n := 24) (rs := [.tmp 4]) ⟨Tryd.func14, by kernel_rfl, rfl⟩ rfl rfl (by simp) fun F d0 hF hd => ?_
  have c1 := sameInts_c L L' hL
  have c2 := sameWords_c E E' hE
  unfold tblD
  generalize ints L = A1 at c1 ⊢
  generalize ints L' = A2 at c1 ⊢
  generalize u64s E = A3 at c2 ⊢
  generalize u64s E' = A4 at c2 ⊢
  generalize (L == L') = b1 at c1 hd ⊢
  generalize (E == E') = b2 at c2 hd ⊢
  conv => cbv
  split <;> rename_i h <;> (try rw [h]) <;> conv => cbv
  · refine .inl ⟨_, _, by subst hF; exact c1, by subst hF; exact ⟨by simp [inRowsL, inRows, lk], by first | exact .inl rfl | exact .inr ⟨rfl, fun B h => nomatch h⟩⟩, ?_⟩ <;> conv => cbv
    split <;> rename_i h1 <;> (try rw [h1]) <;> conv => cbv
    · refine .inl ⟨_, _, by subst hF; exact c2, by subst hF; exact ⟨by simp [inRowsL, inRows, lk], by first | exact .inl rfl | exact .inr ⟨rfl, fun B h => nomatch h⟩⟩, ?_⟩ <;> conv => cbv
      subst hF; subst hd
      simp [fns, cmI] at h ⊢
      simp [reify, h, inRows]
    · subst hF; subst hd
      simp [fns, cmI] at h ⊢
      simp [reify, h, inRows]
  · subst hF; subst hd
    simp [fns, cmI] at h ⊢
    simp [reify, h, inRows]
theorem ownTable_c (r : Int) (L E : List Int) (hL : L.length < 100) (hE : E.length < 100) : Contract Tryd.prog G0 11 [tblD r L E] (tblD r L E) [] := by
  refine fun0 tys_ok mixed (n := 14) (rs := [.cell 2 25]) ⟨Tryd.func11, by kernel_rfl, rfl⟩ rfl rfl (by simp) fun F d0 hF hd => ?_
  unfold tblD at *
  have hLl := ints_len L
  have hMl := u64s_len E
  have hLc := ints_cells L
  have hMc := u64s_cells E
  generalize ints L = L' at hLl hLc hd ⊢
  generalize u64s E = E' at hMl hMc hd ⊢
  conv => cbv
  refine ⟨by subst hF; exact ⟨trivial, hLc⟩, by subst hF; simp only [fns]; omega, fun h => ?_, fun h => ?_⟩ <;> conv => cbv
  all_goals (refine ⟨by subst hF; exact ⟨trivial, hMc⟩, by subst hF; simp only [fns]; omega, fun h2 => ?_, fun h2 => ?_⟩ <;> conv => cbv)
  all_goals subst hF; subst hd; simp only [fns]
  all_goals simp [inRows, inRowsL, reify, reifyL, lk, subL, h, h2]
def usesS (r : Int) (L : List Int) (n : Int) (f : Int) : Bool := r == f || (L.take n.toNat).contains f
theorem uses_c (r : Int) (L E : List Int) (n f : Int) (hL : L.length < 100) (hn : n ≤ L.length) : Contract Tryd.prog G0 47 [tblD r L E, .int .i64 n, .int .i64 f] (.bool (usesS r L n f)) [] := by
  refine fun0 tys_ok mixed (n := 24) (rs := [.tmp 6]) ⟨Tryd.func47, by kernel_rfl, rfl⟩ rfl rfl (by simp) fun F d0 hF hd => ?_
  unfold tblD at *
  have hLl := ints_len L
  have hg := ints_at L
  generalize ints L = L' at hLl hg hd ⊢
  generalize u64s E = E' at hd ⊢
  conv => cbv
  split <;> rename_i h <;> (try rw [h]) <;> conv => cbv
  · subst hF; subst hd
    simp [fns, cmI] at h ⊢
    simp [inRows, reify, usesS, h]
  · refine loop_inv hF Nat (fun k => k ≤ L.length ∧ ∀ j, j < k → L[j]? ≠ some f) (fun k => { tm := [(1, .int .i64 n), (2, .int .i64 f), (3, .ptr 0 3 0 0), (6, .bool false), (7, .int .i64 k)], hp := [(0, ⟨3, 25, [.agg [.int .i64 r, .ro L', .ro E']], true, true⟩)], nx := 1, nt := 24, fr := [], df := [] }) (fun k => L.length - k) ⟨0, ⟨Nat.zero_le _, fun j hj => absurd hj (Nat.not_lt_zero j)⟩, wk_of hF (weak0 ?_ ?_ (by simp) rfl rfl rfl rfl rfl)⟩ fun k hk => ?_
    · simp [subT, lk, D.lt]
    · simp [subH, lk]
    · conv => cbv
      split <;> rename_i h2 <;> (try rw [h2]) <;> conv => cbv
      · have hlt : k < L.length := by subst hF; simp [fns, cmI] at h2; omega
        obtain ⟨x, hx⟩ : ∃ x, L[k]? = some x := ⟨_, List.getElem?_eq_getElem hlt⟩
        refine ⟨by subst hF; simp [fns], .int .i64 x, hg _ _ hx, rfl, ?_⟩
        conv => cbv
        split <;> rename_i h3 <;> (try rw [h3]) <;> conv => cbv
        · subst hF; subst hd
          simp [fns, cmI] at h2 h3 ⊢
          simp [inRows, reify, usesS]
          subst h3
          exact .inr (List.mem_of_getElem? (i := k) (by rw [List.getElem?_take_of_lt (by omega)]; exact hx))
        · refine ⟨k + 1, ⟨by omega, fun j hj => ?_⟩, by omega, wk_of hF (weak0 ?_ ?_ (by simp) rfl rfl rfl rfl rfl)⟩
          · subst hF; simp [fns, cmI] at h3
            rcases Nat.lt_succ_iff_lt_or_eq.1 hj with h4 | h4
            · exact hk.2 j h4
            · subst h4; rw [hx]; simpa using h3
          · subst hF
            simp only [fns, arI]
            rw [IntWalk.i64_in _ (by simp; omega)]
            simp [subT, lk, D.lt]
          · simp [subH, lk]
      · subst hF; subst hd
        simp [fns, cmI] at h h2 ⊢
        simp [inRows, reify, usesS]
        refine ⟨h, fun hm => ?_⟩
        obtain ⟨j, hj⟩ := List.mem_iff_getElem?.1 hm
        rw [List.getElem?_take] at hj
        split at hj
        · exact hk.2 j (by omega) hj
        · cases hj
def modS (n m : Int) : Int := if m < 1 then 0 else n % m
theorem mod_c (n m : Int) (hn : -9223372036854775808 ≤ n ∧ n ≤ 9223372036854775807) (hm : m < 4611686018427387904) : Contract Tryd.prog G0 29 [.int .i64 n, .int .i64 m] (.int .i64 (modS n m)) [] := by
  refine fun0 tys_ok mixed (n := 16) (rs := [.tmp 4]) ⟨Tryd.func29, by kernel_rfl, rfl⟩ rfl rfl (by simp) fun F d0 hF hd => ?_
  conv => cbv
  split <;> rename_i h <;> (try rw [h]) <;> conv => cbv
  · subst hF; subst hd
    simp [fns, cmI] at h ⊢
    simp [inRows, reify, modS]
    omega
  · refine ⟨by subst hF; simp [fns, cmI] at h ⊢; omega, ?_⟩
    conv => cbv
    split <;> rename_i h2 <;> (try rw [h2]) <;> conv => cbv
    all_goals
      subst hF; subst hd
      simp [fns, cmI, arI] at h h2 ⊢
      simp [inRows, reify, modS]
      have h3 := Int.tmod_eq_emod (a := n) (b := m)
      have h4 := Int.emod_nonneg n (show m ≠ 0 by omega)
      have h5 := Int.emod_lt_of_pos n (show 0 < m by omega)
      rw [if_neg (by omega)]
      have h6 : (m.natAbs : Int) = m := by omega
    · split at h3
      · omega
      · rw [IntWalk.i64_in _ (by omega)]
        omega
    · split at h3
      · simpa using h3
      · omega
end Go.Proofs.YtppmomobjjpljaaDoor.E
end

/- Part KBits. -/
section
/- Lemmas on the bits of words, in arithmetic. No condition beyond each lemma's own. -/
namespace Go.Proofs.YtppmomobjjpljaaDoor.KBits
set_option linter.unusedVariables false

theorem land_div (a b i : Nat) : (a &&& b) / 2 ^ i = (a / 2 ^ i) &&& (b / 2 ^ i) := by
  rw [← Nat.shiftRight_eq_div_pow, ← Nat.shiftRight_eq_div_pow, ← Nat.shiftRight_eq_div_pow, Nat.shiftRight_and_distrib]
theorem land_mod (a b i : Nat) : (a &&& b) % 2 ^ i = (a % 2 ^ i) &&& (b % 2 ^ i) := by
  rw [Nat.and_mod_two_pow]
theorem land_low (a i : Nat) : a &&& (2 ^ i - 1) = a % 2 ^ i := Nat.and_two_pow_sub_one_eq_mod a i
/-- One bit. -/
theorem land_bit (a i : Nat) : a &&& 2 ^ i = a / 2 ^ i % 2 * 2 ^ i := by
  have h0 : (a &&& 2 ^ i) % 2 ^ i = 0 := by rw [land_mod, Nat.mod_self, Nat.and_zero]
  have h1 : (a &&& 2 ^ i) / 2 ^ i = a / 2 ^ i % 2 := by
    rw [land_div, Nat.div_self (Nat.two_pow_pos i)]
    exact land_low (a / 2 ^ i) 1
  have h2 := Nat.div_add_mod (a &&& 2 ^ i) (2 ^ i)
  rw [h0, h1, Nat.add_zero, Nat.mul_comm] at h2
  exact h2.symm

section
variable {x : Int} (h0 : 0 ≤ x) (h1 : x < 18446744073709551616)
include h0 h1
theorem and_low (i : Nat) (hi : i < 64) (m : Int) (hm : m = 2 ^ i - 1) : bits .and .u64 x m = x % 2 ^ i := by
  obtain ⟨n, rfl⟩ := Int.eq_ofNat_of_zero_le h0
  have hp : (2 : Nat) ^ i < 18446744073709551616 := Nat.lt_of_lt_of_eq (Nat.pow_lt_pow_right (by omega) hi : (2 : Nat) ^ i < 2 ^ 64) (by decide)
  have hq := Nat.two_pow_pos i
  have hm' : m = ((2 ^ i - 1 : Nat) : Int) := by rw [hm, Int.natCast_sub hq]; simp
  rw [hm', u64_and _ _ h0 h1 (by omega) (by omega)]
  simp only [Int.toNat_natCast]
  rw [land_low]
  simp
theorem and_bit (i : Nat) (hi : i < 64) (m : Int) (hm : m = 2 ^ i) : bits .and .u64 x m = x / 2 ^ i % 2 * 2 ^ i := by
  obtain ⟨n, rfl⟩ := Int.eq_ofNat_of_zero_le h0
  have hp : (2 : Nat) ^ i < 18446744073709551616 := Nat.lt_of_lt_of_eq (Nat.pow_lt_pow_right (by omega) hi : (2 : Nat) ^ i < 2 ^ 64) (by decide)
  have hm' : m = ((2 ^ i : Nat) : Int) := by rw [hm]; simp
  rw [hm', u64_and _ _ h0 h1 (Int.natCast_nonneg _) (Int.ofNat_lt.2 hp)]
  simp only [Int.toNat_natCast]
  rw [land_bit]
  simp
/-- The bits of a word that no entry has. -/
theorem and_unused : bits .and .u64 x 18446744073709486304 = 0 ↔ x / 32 % 8 = 0 ∧ x / 65536 = 0 := by
  obtain ⟨n, rfl⟩ := Int.eq_ofNat_of_zero_le h0
  have hn : n < 2 ^ 64 := by omega
  rw [u64_and _ _ h0 h1 (by omega) (by omega)]
  simp only [Int.toNat_natCast]
  have e : (18446744073709486304 : Int).toNat = 18446744073709486304 := rfl
  rw [e]
  have a1 : (n &&& 18446744073709486304) / 2 ^ 16 = n / 2 ^ 16 := by
    rw [land_div]
    have : (18446744073709486304 : Nat) / 2 ^ 16 = 2 ^ 48 - 1 := by decide
    rw [this, land_low, Nat.mod_eq_of_lt (by omega)]
  have a2 : (n &&& 18446744073709486304) % 2 ^ 16 / 2 ^ 5 = n / 2 ^ 5 % 2 ^ 3 := by
    rw [land_mod, land_div]
    have : (18446744073709486304 : Nat) % 2 ^ 16 / 2 ^ 5 = 2 ^ 3 - 1 := by decide
    rw [this, land_low]
    omega
  have a3 : (n &&& 18446744073709486304) % 2 ^ 5 = 0 := by
    rw [land_mod]
    have : (18446744073709486304 : Nat) % 2 ^ 5 = 0 := by decide
    rw [this, Nat.and_zero]
  generalize n &&& 18446744073709486304 = z at *
  omega
end
end Go.Proofs.YtppmomobjjpljaaDoor.KBits
end

/- Part A2. -/
section
/- Contracts of entries' functions. -/
namespace Go.Proofs.YtppmomobjjpljaaDoor.E
open Go Go.RowKit
set_option linter.unusedVariables false
set_option linter.unusedSimpArgs false
set_option maxRecDepth 100000
structure En where
  k : Int
  n : Int
  w : Bool
  c : Bool
  r : Bool
deriving DecidableEq
def En.d (e : En) : D := .agg [.int .i64 e.k, .int .i64 e.n, .bool e.w, .bool e.c, .bool e.r]
def enZ : En := ⟨0, 0, false, false, false⟩
def chkS (e : En) : Int :=
  if e.k < 0 ∨ e.k > 2 then 16
  else if e.n < 0 ∨ e.n > 255 ∨ (e.k = 0 ∧ e.n ≠ 0) then 2
  else if e.k = 1 then (if e.w = e.c then 3 else 0)
  else if e.w ∨ e.c ∨ e.r then 3 else 0
theorem echeck_c (e : En) : Contract Tryd.prog G0 69 [e.d] (.int .i64 (chkS e)) [] := by
  refine fun0 tys_ok mixed (n := 51) (rs := [.tmp 2]) ⟨Tryd.func69, by kernel_rfl, rfl⟩ rfl rfl (by simp) fun F d0 hF hd => ?_
  obtain ⟨k, n, w, c, r⟩ := e
  unfold En.d
  generalize hs : chkS ⟨k, n, w, c, r⟩ = S at hd
  conv => cbv
  repeat' (split <;> rename_i h <;> (try rw [h]) <;> conv => cbv)
  all_goals
    subst hF; subst hd; subst hs
    simp only [fns]
    refine ⟨trivial, ?_⟩
    try simp only [fns, cmI, decide_eq_true_eq, decide_eq_false_iff_not, beq_iff_eq, bne_iff_ne, beq_eq_false_iff_ne, bne_eq_false_iff_eq] at *
    simp only [reify, chkS]
    grind
theorem rcheck_c (e : En) : Contract Tryd.prog G0 70 [e.d] (.int .i64 (chkS e)) [] := by
  refine fun0 tys_ok mixed (n := 48) (rs := [.tmp 2]) ⟨Tryd.func70, by kernel_rfl, rfl⟩ rfl rfl (by simp) fun F d0 hF hd => ?_
  obtain ⟨k, n, w, c, r⟩ := e
  unfold En.d
  generalize hs : chkS ⟨k, n, w, c, r⟩ = S at hd
  conv => cbv
  repeat' (split <;> rename_i h <;> (try rw [h]) <;> conv => cbv)
  all_goals
    subst hF; subst hd; subst hs
    simp only [fns]
    refine ⟨trivial, ?_⟩
    try simp only [fns, cmI, decide_eq_true_eq, decide_eq_false_iff_not, beq_iff_eq, bne_iff_ne, beq_eq_false_iff_ne, bne_eq_false_iff_eq] at *
    simp only [reify, chkS]
    grind
def bitS (b : Bool) (p : Int) : Int := if b then arI .shl .u64 1 p else 0
theorem bit_c (b : Bool) (p : Int) (hp : 0 ≤ p) : Contract Tryd.prog G0 75 [.bool b, .int .u64 p] (.int .u64 (bitS b p)) [] := by
  refine fun0 tys_ok mixed (n := 8) (rs := [.tmp 4]) ⟨Tryd.func75, by kernel_rfl, rfl⟩ rfl rfl (by simp) fun F d0 hF hd => ?_
  cases b
  · conv => cbv
    all_goals
      subst hF; subst hd
      simp only [fns]
      refine ⟨by simp [inRows, inRowsL, lk], ?_⟩
      try simp only [fns, cmI, decide_eq_true_eq, decide_eq_false_iff_not, beq_iff_eq, bne_iff_ne, beq_eq_false_iff_ne, bne_eq_false_iff_eq] at *
      simp only [reify, reifyL, bitS, if_false, Bool.false_eq_true]
      first | done | grind
  · conv => cbv
    refine ⟨by subst hF; exact hp, ?_⟩
    conv => cbv
    all_goals
      subst hF; subst hd
      simp only [fns]
      refine ⟨by simp [inRows, inRowsL, lk], ?_⟩
      try simp only [fns, cmI, decide_eq_true_eq, decide_eq_false_iff_not, beq_iff_eq, bne_iff_ne, beq_eq_false_iff_ne, bne_eq_false_iff_eq] at *
      simp only [reify, reifyL, bitS, if_true]
      first | done | grind
def hasS (x m : Int) : Bool := arI .and .u64 x m != 0
theorem has_c (x m : Int) : Contract Tryd.prog G0 68 [.int .u64 x, .int .u64 m] (.bool (hasS x m)) [] := by
  refine fun0 tys_ok mixed (n := 9) (rs := [.tmp 4]) ⟨Tryd.func68, by kernel_rfl, rfl⟩ rfl rfl (by simp) fun F d0 hF hd => ?_
  conv => cbv
  all_goals
    subst hF; subst hd
    simp only [fns]
    refine ⟨by simp [inRows, inRowsL, lk], ?_⟩
    try simp only [fns, cmI, decide_eq_true_eq, decide_eq_false_iff_not, beq_iff_eq, bne_iff_ne, beq_eq_false_iff_ne, bne_eq_false_iff_eq] at *
    simp only [reify, reifyL, cmI, hasS]
    first | done | grind
def wth (a b : Int) (c : Bool) : Int := if c then Go.bits .or .u64 a b else Go.bits .andNot .u64 a b
theorem with_c (x m : Int) (b : Bool) : Contract Tryd.prog G0 72 [.int .u64 x, .int .u64 m, .bool b] (.int .u64 (wth x m b)) [] := by
  refine fun0 tys_ok mixed (n := 14) (rs := [.tmp 6]) ⟨Tryd.func72, by kernel_rfl, rfl⟩ rfl rfl (by simp) fun F d0 hF hd => ?_
  cases b
  · conv => cbv
    all_goals
      subst hF; subst hd
      simp only [fns]
      refine ⟨by simp [inRows, inRowsL, lk], ?_⟩
      try simp only [fns, cmI, decide_eq_true_eq, decide_eq_false_iff_not, beq_iff_eq, bne_iff_ne, beq_eq_false_iff_ne, bne_eq_false_iff_eq] at *
      simp only [reify, reifyL, wth, if_false, Bool.false_eq_true, arI, bits]
      first | done | grind
  · conv => cbv
    all_goals
      subst hF; subst hd
      simp only [fns]
      refine ⟨by simp [inRows, inRowsL, lk], ?_⟩
      try simp only [fns, cmI, decide_eq_true_eq, decide_eq_false_iff_not, beq_iff_eq, bne_iff_ne, beq_eq_false_iff_ne, bne_eq_false_iff_eq] at *
      simp only [reify, reifyL, wth, if_true, arI, bits]
      first | done | grind
def kindS (w : Int) : Int × Int := if w % 4 = 3 then (0, 16) else (w % 4, 0)
theorem kind_c (w : Int) (h0 : 0 ≤ w) (h1 : w < 18446744073709551616) : Contract Tryd.prog G0 54 [.int .u64 w] (.tup [.int .i64 (kindS w).1, .int .i64 (kindS w).2]) [] := by
  refine fun0 tys_ok mixed (n := 11) (rs := [.tmp 2, .tmp 3]) ⟨Tryd.func54, by kernel_rfl, rfl⟩ rfl rfl (by simp) fun F d0 hF hd => ?_
  have ha : arI .and .u64 w 3 = w % 4 := KBits.and_low h0 h1 2 (by omega) 3 (by decide)
  conv => cbv
  repeat' (split <;> rename_i h <;> (try rw [h]) <;> conv => cbv)
  all_goals
    subst hF; subst hd
    simp only [fns] at *
    refine ⟨by simp [inRows, inRowsL, lk], ?_⟩
    simp only [cmI, ha, beq_iff_eq, beq_eq_false_iff_ne] at *
    simp [reify, reifyL, kindS, h]
  all_goals exact IntWalk.i64_in _ (by omega)
def orsS : List Int → Int → Int
  | [], x => x
  | y :: l, x => orsS l (arI .or .u64 x y)
theorem together_c (x y z : Int) : Contract Tryd.prog G0 73 [.ro [.int .u64 x, .int .u64 y, .int .u64 z]] (.int .u64 (arI .or .u64 (arI .or .u64 (arI .or .u64 0 x) y) z)) [] := by
  refine fun0 tys_ok mixed (n := 17) (rs := [.tmp 2]) ⟨Tryd.func73, by kernel_rfl, rfl⟩ rfl rfl (by simp) fun F d0 hF hd => ?_
  conv => cbv
  iterate 3
    refine loop_step hF ?_
    conv => cbv
    split <;> rename_i h <;> (try rw [h]) <;> conv => cbv
    rotate_left
    · exfalso; subst hF; revert h; simp [fns, cmI, arI]; try decide
    refine ⟨by subst hF; simp [fns, arI]; try decide, _, by subst hF; rfl, rfl, ?_⟩
    conv => cbv
  refine loop_step hF ?_
  conv => cbv
  split <;> rename_i h <;> (try rw [h]) <;> conv => cbv
  · exfalso; subst hF; revert h; simp [fns, cmI, arI]; try decide
  all_goals
    subst hF; subst hd
    simp only [fns]
    refine ⟨by simp [inRows, inRowsL, lk], ?_⟩
    try simp only [fns, cmI, decide_eq_true_eq, decide_eq_false_iff_not, beq_iff_eq, bne_iff_ne, beq_eq_false_iff_ne, bne_eq_false_iff_eq] at *
    simp only [reify, reifyL, arI]
    first | done | grind
end Go.Proofs.YtppmomobjjpljaaDoor.E
end

/- Part A3. -/
section
/- Contracts: entries and words. -/
namespace Go.Proofs.YtppmomobjjpljaaDoor.E
open Go Go.RowKit
set_option linter.unusedVariables false
set_option linter.unusedSimpArgs false
set_option maxRecDepth 100000
def packW (kind num : Int) (w c r : Bool) : Int := kind + (if w then 4 else 0) + (if c then 8 else 0) + (if r then 16 else 0) + 256 * num
theorem packW_bits {kind num : Int} (w c r : Bool) (h0 : 0 ≤ kind) (h1 : kind ≤ 2) (h2 : 0 ≤ num) (h3 : num ≤ 255) :
    Go.bits .or .u64 (Go.bits .or .u64 (Go.bits .or .u64 0 kind) (wth (wth (wth 0 4 w) 8 c) 16 r)) (num * 256) = packW kind num w c r := by
  obtain ⟨k, rfl⟩ := Int.eq_ofNat_of_zero_le h0
  obtain ⟨n, rfl⟩ := Int.eq_ofNat_of_zero_le h2
  have h : ∀ (k : Fin 3) (n : Fin 256) (w c r : Bool), Go.bits .or .u64 (Go.bits .or .u64 (Go.bits .or .u64 0 ((k.val : Nat) : Int)) (wth (wth (wth 0 4 w) 8 c) 16 r)) (((n.val : Nat) : Int) * 256) = packW ((k.val : Nat) : Int) ((n.val : Nat) : Int) w c r := by decide +kernel
  exact h ⟨k, by omega⟩ ⟨n, by omega⟩ w c r


open Go.Proofs.YtppmomobjjpljaaDoor.KBits in
theorem has_bit {x : Int} (h0 : 0 ≤ x) (h1 : x < 18446744073709551616) (i : Nat) (hi : i < 64) (m : Int) (hm : m = 2 ^ i) : (bits .and .u64 x m != 0) = (x / 2 ^ i % 2 == 1) := by
  rw [and_bit h0 h1 i hi m hm]
  have hp : (0 : Int) < 2 ^ i := Int.pow_pos (by omega)
  have h2 : x / 2 ^ i % 2 = 0 ∨ x / 2 ^ i % 2 = 1 := by omega
  rcases h2 with h2 | h2
  · rw [h2]; simp
  · rw [h2]
    have : (2 : Int) ^ i ≠ 0 := by omega
    simp [this]


def En.W (e : En) : Int := packW e.k e.n e.w e.c e.r
def packS (e : En) : Int × Int := if chkS e ≠ 0 then (0, chkS e) else (e.W, 0)
theorem pack_c (e : En) : Contract Tryd.prog G0 55 [e.d] (.tup [.int .u64 (packS e).1, .int .i64 (packS e).2]) [] := by
  refine fun0 tys_ok mixed (n := 40) (rs := [.tmp 2, .tmp 3]) ⟨Tryd.func55, by kernel_rfl, rfl⟩ rfl rfl (by simp) fun F d0 hF hd => ?_
  obtain ⟨ints, u64s, gv, gh, lenF, hVi, hVu, hVg, hVh, hVl, lenD, ints_len, u64s_len, ints_cells, u64s_cells, ints_at, u64s_at, gv_nil, gh_nil, gv_ne, gh_ne, gv_snoc, gh_snoc, gv_one, gh_one, lt_gv, ren_gv, lk_gh, renH_gh, mem_gh, injK_gh, injH_gh, ints_nil, ints_app, ints_one, ints_cons, ints_ne, u64s_nil, u64s_app, u64s_one, u64s_ne, ints_set, u64s_set⟩ := vocab
  obtain ⟨f_wth, o_wth⟩ : ∃ f, f = wth := ⟨_, rfl⟩
  have c1 := echeck_c e
  generalize hs : chkS e = S at c1
  generalize hp : packS e = X at hd
  obtain ⟨k, n, w, c, r⟩ := e
  unfold En.d at c1 ⊢
  ((try rewrite [← hVi]); (try rewrite [← hVu]); (try rewrite [← hVg]); (try rewrite [← hVh]); (try rewrite [← o_wth]); conv => cbv)
  refine .inl ⟨_, _, by subst hF hVi hVu hVg hVh hVl; (try subst o_wth); exact c1, by subst hF hVi hVu hVg hVh hVl; (try subst o_wth); exact ⟨by simp [inRowsL, inRows, lk], by first | exact .inl rfl | exact .inr ⟨rfl, fun B h => nomatch h⟩⟩, ?_⟩ <;> ((try rewrite [← hVi]); (try rewrite [← hVu]); (try rewrite [← hVg]); (try rewrite [← hVh]); (try rewrite [← o_wth]); conv => cbv)
  split <;> rename_i h <;> (try rw [h]) <;> ((try rewrite [← hVi]); (try rewrite [← hVu]); (try rewrite [← hVg]); (try rewrite [← hVh]); (try rewrite [← o_wth]); conv => cbv)
  · subst hF hVi hVu hVg hVh hVl; (try subst o_wth); subst hd
    simp only [fns, cmI] at *
    refine ⟨by simp [inRows, inRowsL, lk], ?_⟩
    have : S ≠ 0 := by simpa using h
    simp [reify, reifyL, ← hp, packS, hs, this]
  · refine .inr (inPlace tys_ok mixed hF (n := 13) (rs := [.tmp 2]) ⟨Tryd.func67, by kernel_rfl, rfl⟩ rfl rfl (by simp) rfl ?_)
    ((try rewrite [← hVi]); (try rewrite [← hVu]); (try rewrite [← hVg]); (try rewrite [← hVh]); (try rewrite [← o_wth]); conv => cbv)
    iterate 3
      refine loop_step hF ?_
      ((try rewrite [← hVi]); (try rewrite [← hVu]); (try rewrite [← hVg]); (try rewrite [← hVh]); (try rewrite [← o_wth]); conv => cbv)
      split <;> rename_i h2 <;> (try rw [h2]) <;> ((try rewrite [← hVi]); (try rewrite [← hVu]); (try rewrite [← hVg]); (try rewrite [← hVh]); (try rewrite [← o_wth]); conv => cbv)
      rotate_left
      · exfalso; subst hF hVi hVu hVg hVh hVl; (try subst o_wth); revert h2; simp [fns, cmI, arI]; try decide
      refine ⟨by subst hF hVi hVu hVg hVh hVl; (try subst o_wth); simp [fns, arI]; try decide, ?_⟩
      ((try rewrite [← hVi]); (try rewrite [← hVu]); (try rewrite [← hVg]); (try rewrite [← hVh]); (try rewrite [← o_wth]); conv => cbv)
      refine ⟨_, by subst hF hVi hVu hVg hVh hVl; (try subst o_wth); rfl, ?_⟩
      ((try rewrite [← hVi]); (try rewrite [← hVu]); (try rewrite [← hVg]); (try rewrite [← hVh]); (try rewrite [← o_wth]); conv => cbv)
      first
        | refine ⟨0, by subst hF hVi hVu hVg hVh hVl; (try subst o_wth); decide, by decide, ?_⟩
        | refine ⟨1, by subst hF hVi hVu hVg hVh hVl; (try subst o_wth); decide, by decide, ?_⟩
        | refine ⟨2, by subst hF hVi hVu hVg hVh hVl; (try subst o_wth); decide, by decide, ?_⟩
      ((try rewrite [← hVi]); (try rewrite [← hVu]); (try rewrite [← hVg]); (try rewrite [← hVh]); (try rewrite [← o_wth]); conv => cbv)
      refine .inl ⟨_, _, by subst hF hVi hVu hVg hVh hVl; (try subst o_wth); exact with_c _ _ _, by subst hF hVi hVu hVg hVh hVl; (try subst o_wth); exact ⟨by simp [inRowsL, inRows, lk], by first | exact .inl rfl | exact .inr ⟨rfl, fun B h => nomatch h⟩⟩, ?_⟩ <;> ((try rewrite [← hVi]); (try rewrite [← hVu]); (try rewrite [← hVg]); (try rewrite [← hVh]); (try rewrite [← o_wth]); conv => cbv)
    refine loop_step hF ?_
    ((try rewrite [← hVi]); (try rewrite [← hVu]); (try rewrite [← hVg]); (try rewrite [← hVh]); (try rewrite [← o_wth]); conv => cbv)
    split <;> rename_i h2 <;> (try rw [h2]) <;> ((try rewrite [← hVi]); (try rewrite [← hVu]); (try rewrite [← hVg]); (try rewrite [← hVh]); (try rewrite [← o_wth]); conv => cbv)
    · exfalso; subst hF hVi hVu hVg hVh hVl; (try subst o_wth); revert h2; simp [fns, cmI, arI]; try decide
    refine ⟨by subst hF hVi hVu hVg hVh hVl; (try subst o_wth); simp [fns], ?_⟩
    obtain ⟨v, hv⟩ : ∃ v : Int, v = arI .or .u64 (arI .or .u64 (arI .or .u64 0 (IntKind.u64.wrap k)) (wth (wth (wth 0 4 w) 8 c) 16 r)) (arI .shl .u64 (IntKind.u64.wrap (IntKind.u8.wrap n)) 8) := ⟨_, rfl⟩
    refine .inl ⟨.int .u64 v, [], by subst hF hVi hVu hVg hVh hVl; (try subst o_wth); rw [hv]; exact together_c _ _ _, by subst hF hVi hVu hVg hVh hVl; (try subst o_wth); exact ⟨by simp [inRowsL, inRows, lk], .inr ⟨rfl, fun B h => nomatch h⟩⟩, ?_⟩
    ((try rewrite [← hVi]); (try rewrite [← hVu]); (try rewrite [← hVg]); (try rewrite [← hVh]); (try rewrite [← o_wth]); conv => cbv)
    subst hF hVi hVu hVg hVh hVl; (try subst o_wth); subst hd
    simp only [fns]
    refine ⟨by simp [inRows, inRowsL, lk], ?_⟩
    simp only [fns, cmI] at h
    have hS : S = 0 := by simpa using h
    obtain ⟨hk0, hk2, hn0, hn1⟩ : 0 ≤ k ∧ k ≤ 2 ∧ 0 ≤ n ∧ n ≤ 255 := by
      rw [hS] at hs
      simp only [chkS] at hs
      grind
    have e1 : IntKind.u64.wrap k = k := IntWalk.u64_in _ (by omega)
    have e2 : IntKind.u8.wrap n = n := IntWalk.u8_in _ (by omega)
    have e3 : IntKind.u64.wrap n = n := IntWalk.u64_in _ (by omega)
    have e4 : arI .shl .u64 n 8 = n * 256 := by
      show IntKind.u64.wrap (n * 2 ^ (min (8 : Int).toNat 64)) = n * 256
      exact IntWalk.u64_in _ (by constructor <;> simp <;> omega)
    rw [e1, e2, e3, e4] at hv
    have hv : v = packW k n w c r := hv.trans (packW_bits w c r hk0 hk2 hn0 hn1)
    simp [reify, reifyL, ← hp, packS, hs, hS, hv, En.W]
theorem rpack_c (e : En) : Contract Tryd.prog G0 59 [e.d] (.tup [.int .u64 (packS e).1, .int .i64 (packS e).2]) [] := by
  refine fun0 tys_ok mixed (n := 30) (rs := [.tmp 2, .tmp 3]) ⟨Tryd.func59, by kernel_rfl, rfl⟩ rfl rfl (by simp) fun F d0 hF hd => ?_
  obtain ⟨ints, u64s, gv, gh, lenF, hVi, hVu, hVg, hVh, hVl, lenD, ints_len, u64s_len, ints_cells, u64s_cells, ints_at, u64s_at, gv_nil, gh_nil, gv_ne, gh_ne, gv_snoc, gh_snoc, gv_one, gh_one, lt_gv, ren_gv, lk_gh, renH_gh, mem_gh, injK_gh, injH_gh, ints_nil, ints_app, ints_one, ints_cons, ints_ne, u64s_nil, u64s_app, u64s_one, u64s_ne, ints_set, u64s_set⟩ := vocab
  obtain ⟨f_bitS, o_bitS⟩ : ∃ f, f = bitS := ⟨_, rfl⟩
  have c1 := rcheck_c e
  generalize hs : chkS e = S at c1
  generalize hp : packS e = X at hd
  obtain ⟨k, n, w, c, r⟩ := e
  unfold En.d at c1 ⊢
  ((try rewrite [← hVi]); (try rewrite [← hVu]); (try rewrite [← hVg]); (try rewrite [← hVh]); (try rewrite [← o_bitS]); conv => cbv)
  refine .inl ⟨_, _, by subst hF hVi hVu hVg hVh hVl; (try subst o_bitS); exact c1, by subst hF hVi hVu hVg hVh hVl; (try subst o_bitS); exact ⟨by simp [inRowsL, inRows, lk], by first | exact .inl rfl | exact .inr ⟨rfl, fun B h => nomatch h⟩⟩, ?_⟩ <;> ((try rewrite [← hVi]); (try rewrite [← hVu]); (try rewrite [← hVg]); (try rewrite [← hVh]); (try rewrite [← o_bitS]); conv => cbv)
  split <;> rename_i h <;> (try rw [h]) <;> ((try rewrite [← hVi]); (try rewrite [← hVu]); (try rewrite [← hVg]); (try rewrite [← hVh]); (try rewrite [← o_bitS]); conv => cbv)
  · subst hF hVi hVu hVg hVh hVl; (try subst o_bitS); subst hd
    simp only [fns, cmI] at *
    refine ⟨by simp [inRows, inRowsL, lk], ?_⟩
    have : S ≠ 0 := by simpa using h
    simp [reify, reifyL, ← hp, packS, hs, this]
  · refine ⟨_, [], by subst hF hVi hVu hVg hVh hVl; (try subst o_bitS); exact bit_c _ _ (by decide), by subst hF hVi hVu hVg hVh hVl; (try subst o_bitS); exact ⟨by simp [inRowsL, inRows, lk], by first | exact .inl rfl | exact .inr ⟨rfl, fun B h => nomatch h⟩⟩, ?_⟩ <;> (((try rewrite [← hVi]); (try rewrite [← hVu]); (try rewrite [← hVg]); (try rewrite [← hVh]); (try rewrite [← o_bitS]); conv => cbv)) <;> refine ⟨by subst hF hVi hVu hVg hVh hVl; (try subst o_bitS); rfl, ?_⟩
    refine ⟨_, [], by subst hF hVi hVu hVg hVh hVl; (try subst o_bitS); exact bit_c _ _ (by decide), by subst hF hVi hVu hVg hVh hVl; (try subst o_bitS); exact ⟨by simp [inRowsL, inRows, lk], by first | exact .inl rfl | exact .inr ⟨rfl, fun B h => nomatch h⟩⟩, ?_⟩ <;> (((try rewrite [← hVi]); (try rewrite [← hVu]); (try rewrite [← hVg]); (try rewrite [← hVh]); (try rewrite [← o_bitS]); conv => cbv)) <;> refine ⟨by subst hF hVi hVu hVg hVh hVl; (try subst o_bitS); rfl, ?_⟩
    refine ⟨_, [], by subst hF hVi hVu hVg hVh hVl; (try subst o_bitS); exact bit_c _ _ (by decide), by subst hF hVi hVu hVg hVh hVl; (try subst o_bitS); exact ⟨by simp [inRowsL, inRows, lk], by first | exact .inl rfl | exact .inr ⟨rfl, fun B h => nomatch h⟩⟩, ?_⟩ <;> (((try rewrite [← hVi]); (try rewrite [← hVu]); (try rewrite [← hVg]); (try rewrite [← hVh]); (try rewrite [← o_bitS]); conv => cbv)) <;> refine ⟨by subst hF hVi hVu hVg hVh hVl; (try subst o_bitS); rfl, ?_⟩
    subst hF hVi hVu hVg hVh hVl; (try subst o_bitS); subst hd
    simp only [fns, cmI] at *
    refine ⟨by decide, by simp [inRows, inRowsL, lk], ?_⟩
    have hS : S = 0 := by simpa using h
    obtain ⟨hk0, hk2, hn0, hn1⟩ : 0 ≤ k ∧ k ≤ 2 ∧ 0 ≤ n ∧ n ≤ 255 := by
      rw [hS] at hs
      simp only [chkS] at hs
      grind
    have e1 : IntKind.u64.wrap k = k := IntWalk.u64_in _ (by omega)
    have e3 : IntKind.u64.wrap n = n := IntWalk.u64_in _ (by omega)
    have e4 : arI .shl .u64 n 8 = n * 256 := by
      show IntKind.u64.wrap (n * 2 ^ (min (8 : Int).toNat 64)) = n * 256
      exact IntWalk.u64_in _ (by constructor <;> simp <;> omega)
    have ea : ∀ x y : Int, 0 ≤ x → x ≤ 100000 → 0 ≤ y → y ≤ 100000 → arI .add .u64 x y = x + y := fun x y h1 h2 h3 h4 => IntWalk.u64_in _ (by omega)
    have b2 : bitS w 2 = if w then 4 else 0 := by cases w <;> decide
    have b3 : bitS c 3 = if c then 8 else 0 := by cases c <;> decide
    have b4 : bitS r 4 = if r then 16 else 0 := by cases r <;> decide
    simp only [e1, e3, e4, b2, b3, b4]
    have h2 : 0 ≤ (if w then (4 : Int) else 0) ∧ (if w then (4 : Int) else 0) ≤ 4 := by cases w <;> simp
    have h3 : 0 ≤ (if c then (8 : Int) else 0) ∧ (if c then (8 : Int) else 0) ≤ 8 := by cases c <;> simp
    have h4 : 0 ≤ (if r then (16 : Int) else 0) ∧ (if r then (16 : Int) else 0) ≤ 16 := by cases r <;> simp
    simp [reify, reifyL, ← hp, packS, hs, hS, En.W, packW]
    generalize (if w then (4 : Int) else 0) = x at h2 ⊢
    generalize (if c then (8 : Int) else 0) = y at h3 ⊢
    generalize (if r then (16 : Int) else 0) = z at h4 ⊢
    rw [ea k x (by omega) (by omega) (by omega) (by omega), ea (k + x) y (by omega) (by omega) (by omega) (by omega), ea (k + x + y) z (by omega) (by omega) (by omega) (by omega), ea (k + x + y + z) (n * 256) (by omega) (by omega) (by omega) (by omega)]
    omega
end Go.Proofs.YtppmomobjjpljaaDoor.E
end

/- Part A4. -/
section
/- Contracts: words are opened. -/
namespace Go.Proofs.YtppmomobjjpljaaDoor.E
open Go Go.RowKit
set_option linter.unusedVariables false
set_option linter.unusedSimpArgs false
set_option maxRecDepth 100000
def unW (w : Int) : En := ⟨w % 4, w / 256, w / 4 % 2 == 1, w / 8 % 2 == 1, w / 16 % 2 == 1⟩
def unpackS (w : Int) : En × Int := if w % 4 = 3 then (enZ, 16) else if w / 32 % 8 ≠ 0 ∨ w / 65536 ≠ 0 then (enZ, 3) else if chkS (unW w) ≠ 0 then (enZ, chkS (unW w)) else (unW w, 0)
theorem unpack_c (w : Int) (h0 : 0 ≤ w) (h1 : w < 18446744073709551616) : Contract Tryd.prog G0 46 [.int .u64 w] (.tup [(unpackS w).1.d, .int .i64 (unpackS w).2]) [] := by
  refine fun0 tys_ok mixed (n := 48) (rs := [.cell 2 35, .tmp 3]) ⟨Tryd.func46, by kernel_rfl, rfl⟩ rfl rfl (by simp) fun F d0 hF hd => ?_
  obtain ⟨ints, u64s, gv, gh, lenF, hVi, hVu, hVg, hVh, hVl, lenD, ints_len, u64s_len, ints_cells, u64s_cells, ints_at, u64s_at, gv_nil, gh_nil, gv_ne, gh_ne, gv_snoc, gh_snoc, gv_one, gh_one, lt_gv, ren_gv, lk_gh, renH_gh, mem_gh, injK_gh, injH_gh, ints_nil, ints_app, ints_one, ints_cons, ints_ne, u64s_nil, u64s_app, u64s_one, u64s_ne, ints_set, u64s_set⟩ := vocab
  obtain ⟨f_hasS, o_hasS⟩ : ∃ f, f = hasS := ⟨_, rfl⟩
  have ha : arI .and .u64 w 3 = w % 4 := KBits.and_low h0 h1 2 (by omega) 3 (by decide)
  have hu : arI .and .u64 w 18446744073709486304 = 0 ↔ w / 32 % 8 = 0 ∧ w / 65536 = 0 := KBits.and_unused h0 h1
  generalize hp : unpackS w = X at hd
  ((try rewrite [← hVi]); (try rewrite [← hVu]); (try rewrite [← hVg]); (try rewrite [← hVh]); (try rewrite [← o_hasS]); conv => cbv)
  split <;> rename_i h <;> (try rw [h]) <;> ((try rewrite [← hVi]); (try rewrite [← hVu]); (try rewrite [← hVg]); (try rewrite [← hVh]); (try rewrite [← o_hasS]); conv => cbv)
  · subst hF hVi hVu hVg hVh hVl; (try subst o_hasS); subst hd
    simp only [fns, cmI, ha] at *
    refine ⟨by simp [inRows, inRowsL, lk], ?_⟩
    have h : w % 4 = 3 := by simpa using h
    simp [reify, reifyL, ← hp, unpackS, h, En.d, enZ]
  split <;> rename_i h3 <;> (try rw [h3]) <;> ((try rewrite [← hVi]); (try rewrite [← hVu]); (try rewrite [← hVg]); (try rewrite [← hVh]); (try rewrite [← o_hasS]); conv => cbv)
  · subst hF hVi hVu hVg hVh hVl; (try subst o_hasS); subst hd
    simp only [fns, cmI, ha] at *
    refine ⟨by simp [inRows, inRowsL, lk], ?_⟩
    have h : w % 4 ≠ 3 := by simpa using h
    have h3 : arI .and .u64 w 18446744073709486304 ≠ 0 := by simpa using h3
    rw [ne_eq, hu] at h3
    have h4 : w / 32 % 8 ≠ 0 ∨ w / 65536 ≠ 0 := by omega
    simp [reify, reifyL, ← hp, unpackS, h, h4, En.d, enZ]
  · refine ⟨by subst hF hVi hVu hVg hVh hVl; (try subst o_hasS); simp [fns], .inr (inPlace tys_ok mixed hF (n := 13) (rs := [.tmp 2]) ⟨Tryd.func67, by kernel_rfl, rfl⟩ rfl rfl (by simp) rfl ?_)⟩
    ((try rewrite [← hVi]); (try rewrite [← hVu]); (try rewrite [← hVg]); (try rewrite [← hVh]); (try rewrite [← o_hasS]); conv => cbv)
    iterate 3
      refine loop_step hF ?_
      ((try rewrite [← hVi]); (try rewrite [← hVu]); (try rewrite [← hVg]); (try rewrite [← hVh]); (try rewrite [← o_hasS]); conv => cbv)
      split <;> rename_i h2 <;> (try rw [h2]) <;> ((try rewrite [← hVi]); (try rewrite [← hVu]); (try rewrite [← hVg]); (try rewrite [← hVh]); (try rewrite [← o_hasS]); conv => cbv)
      rotate_left
      · exfalso; subst hF hVi hVu hVg hVh hVl; (try subst o_hasS); revert h2; simp [fns, cmI, arI]; try decide
      refine ⟨by subst hF hVi hVu hVg hVh hVl; (try subst o_hasS); simp [fns, arI]; try decide, ?_⟩
      ((try rewrite [← hVi]); (try rewrite [← hVu]); (try rewrite [← hVg]); (try rewrite [← hVh]); (try rewrite [← o_hasS]); conv => cbv)
      refine ⟨_, by subst hF hVi hVu hVg hVh hVl; (try subst o_hasS); rfl, ?_⟩
      ((try rewrite [← hVi]); (try rewrite [← hVu]); (try rewrite [← hVg]); (try rewrite [← hVh]); (try rewrite [← o_hasS]); conv => cbv)
      first
        | refine ⟨0, by subst hF hVi hVu hVg hVh hVl; (try subst o_hasS); decide, by decide, ?_⟩
        | refine ⟨1, by subst hF hVi hVu hVg hVh hVl; (try subst o_hasS); decide, by decide, ?_⟩
        | refine ⟨2, by subst hF hVi hVu hVg hVh hVl; (try subst o_hasS); decide, by decide, ?_⟩
      ((try rewrite [← hVi]); (try rewrite [← hVu]); (try rewrite [← hVg]); (try rewrite [← hVh]); (try rewrite [← o_hasS]); conv => cbv)
      refine .inl ⟨_, _, by subst hF hVi hVu hVg hVh hVl; (try subst o_hasS); exact has_c _ _, by subst hF hVi hVu hVg hVh hVl; (try subst o_hasS); exact ⟨by simp [inRowsL, inRows, lk], by first | exact .inl rfl | exact .inr ⟨rfl, fun B h => nomatch h⟩⟩, ?_⟩ <;> ((try rewrite [← hVi]); (try rewrite [← hVu]); (try rewrite [← hVg]); (try rewrite [← hVh]); (try rewrite [← o_hasS]); conv => cbv)
    refine loop_step hF ?_
    ((try rewrite [← hVi]); (try rewrite [← hVu]); (try rewrite [← hVg]); (try rewrite [← hVh]); (try rewrite [← o_hasS]); conv => cbv)
    split <;> rename_i h2 <;> (try rw [h2]) <;> ((try rewrite [← hVi]); (try rewrite [← hVu]); (try rewrite [← hVg]); (try rewrite [← hVh]); (try rewrite [← o_hasS]); conv => cbv)
    · exfalso; subst hF hVi hVu hVg hVh hVl; (try subst o_hasS); revert h2; simp [fns, cmI, arI]; try decide
    have hw : w % 4 ≠ 3 ∧ w / 32 % 8 = 0 ∧ w / 65536 = 0 := by
      subst hF hVi hVu hVg hVh hVl; (try subst o_hasS)
      simp only [fns, cmI, ha] at h h3
      refine ⟨by simpa using h, ?_⟩
      rw [← hu]
      simpa using h3
    have c1 := echeck_c ⟨F.cv .i64 (F.ar .and .u64 w 3), F.cv .i64 (F.cv .u8 (F.ar .shr .u64 w 8)), hasS w 4, hasS w 8, hasS w 16⟩
    have he : (⟨F.cv .i64 (F.ar .and .u64 w 3), F.cv .i64 (F.cv .u8 (F.ar .shr .u64 w 8)), hasS w 4, hasS w 8, hasS w 16⟩ : En) = unW w := by
      subst hF hVi hVu hVg hVh hVl; (try subst o_hasS)
      have e1 : arI .shr .u64 w 8 = w / 256 := by
        show w.fdiv (2 ^ (min (8 : Int).toNat 64)) = w / 256
        rw [Int.fdiv_eq_ediv_of_nonneg _ (by decide)]
        rfl
      simp only [fns, ha, e1, unW, En.mk.injEq]
      refine ⟨IntWalk.i64_in _ (by omega), ?_, has_bit h0 h1 2 (by omega) 4 (by decide), has_bit h0 h1 3 (by omega) 8 (by decide), has_bit h0 h1 4 (by omega) 16 (by decide)⟩
      rw [IntWalk.u8_in _ (by omega), IntWalk.i64_in _ (by omega)]
    generalize hs : chkS _ = S at c1
    rw [he] at hs
    unfold En.d at c1
    refine .inl ⟨_, _, by subst hF hVi hVu hVg hVh hVl; (try subst o_hasS); exact c1, by subst hF hVi hVu hVg hVh hVl; (try subst o_hasS); exact ⟨by simp [inRowsL, inRows, lk], by first | exact .inl rfl | exact .inr ⟨rfl, fun B h => nomatch h⟩⟩, ?_⟩ <;> ((try rewrite [← hVi]); (try rewrite [← hVu]); (try rewrite [← hVg]); (try rewrite [← hVh]); (try rewrite [← o_hasS]); conv => cbv)
    split <;> rename_i h4 <;> (try rw [h4]) <;> ((try rewrite [← hVi]); (try rewrite [← hVu]); (try rewrite [← hVg]); (try rewrite [← hVh]); (try rewrite [← o_hasS]); conv => cbv)
    · subst hF hVi hVu hVg hVh hVl; (try subst o_hasS); subst hd
      simp only [fns, cmI] at h4 ⊢
      refine ⟨by simp [inRows, inRowsL, lk], ?_⟩
      have h5 : S ≠ 0 := by simpa using h4
      simp [reify, reifyL, ← hp, unpackS, hw, hs, h5, En.d, enZ]
    · subst hF hVi hVu hVg hVh hVl; (try subst o_hasS); subst hd
      simp only [fns, cmI] at h4 ⊢
      refine ⟨by simp [inRows, inRowsL, lk], ?_⟩
      have h5 : S = 0 := by simpa using h4
      have hX : X = (unW w, 0) := by rw [← hp]; simp [unpackS, hw, hs, h5]
      rw [hX, ← he]
      simp [reify, reifyL, En.d, fns]
theorem runpack_c (w : Int) (h0 : 0 ≤ w) (h1 : w < 18446744073709551616) : Contract Tryd.prog G0 48 [.int .u64 w] (.tup [(unpackS w).1.d, .int .i64 (unpackS w).2]) [] := by
  refine fun0 tys_ok mixed (n := 46) (rs := [.cell 2 35, .tmp 3]) ⟨Tryd.func48, by kernel_rfl, rfl⟩ rfl rfl (by simp) fun F d0 hF hd => ?_
  obtain ⟨ints, u64s, gv, gh, lenF, hVi, hVu, hVg, hVh, hVl, lenD, ints_len, u64s_len, ints_cells, u64s_cells, ints_at, u64s_at, gv_nil, gh_nil, gv_ne, gh_ne, gv_snoc, gh_snoc, gv_one, gh_one, lt_gv, ren_gv, lk_gh, renH_gh, mem_gh, injK_gh, injH_gh, ints_nil, ints_app, ints_one, ints_cons, ints_ne, u64s_nil, u64s_app, u64s_one, u64s_ne, ints_set, u64s_set⟩ := vocab
  have hm : ∀ x m : Int, 0 ≤ x → 0 ≤ m → arI .rem .u64 x m = x % m := fun x m hx hm => Int.tmod_eq_emod_of_nonneg hx
  have s2 : arI .shr .u64 w 2 = w / 4 := by
    show w.fdiv (2 ^ (min (2 : Int).toNat 64)) = w / 4
    rw [Int.fdiv_eq_ediv_of_nonneg _ (by decide)]
    rfl
  have s3 : arI .shr .u64 w 3 = w / 8 := by
    show w.fdiv (2 ^ (min (3 : Int).toNat 64)) = w / 8
    rw [Int.fdiv_eq_ediv_of_nonneg _ (by decide)]
    rfl
  have s4 : arI .shr .u64 w 4 = w / 16 := by
    show w.fdiv (2 ^ (min (4 : Int).toNat 64)) = w / 16
    rw [Int.fdiv_eq_ediv_of_nonneg _ (by decide)]
    rfl
  have s5 : arI .shr .u64 w 5 = w / 32 := by
    show w.fdiv (2 ^ (min (5 : Int).toNat 64)) = w / 32
    rw [Int.fdiv_eq_ediv_of_nonneg _ (by decide)]
    rfl
  have s8 : arI .shr .u64 w 8 = w / 256 := by
    show w.fdiv (2 ^ (min (8 : Int).toNat 64)) = w / 256
    rw [Int.fdiv_eq_ediv_of_nonneg _ (by decide)]
    rfl
  have s16 : arI .shr .u64 w 16 = w / 65536 := by
    show w.fdiv (2 ^ (min (16 : Int).toNat 64)) = w / 65536
    rw [Int.fdiv_eq_ediv_of_nonneg _ (by decide)]
    rfl
  generalize hp : unpackS w = X at hd
  ((try rewrite [← hVi]); (try rewrite [← hVu]); (try rewrite [← hVg]); (try rewrite [← hVh]); conv => cbv)
  refine ⟨by subst hF hVi hVu hVg hVh hVl; simp [fns], ?_⟩
  split <;> rename_i h <;> (try rw [h]) <;> ((try rewrite [← hVi]); (try rewrite [← hVu]); (try rewrite [← hVg]); (try rewrite [← hVh]); conv => cbv)
  · subst hF hVi hVu hVg hVh hVl; subst hd
    simp only [fns, cmI] at *
    refine ⟨by simp [inRows, inRowsL, lk], ?_⟩
    rw [hm w 4 h0 (by decide)] at h
    have h : w % 4 = 3 := by simpa using h
    simp [reify, reifyL, ← hp, unpackS, h, En.d, enZ]
  have hw4 : w % 4 ≠ 3 := by
    subst hF hVi hVu hVg hVh hVl
    simp only [fns, cmI] at h
    rw [hm w 4 h0 (by decide)] at h
    simpa using h
  refine ⟨by subst hF hVi hVu hVg hVh hVl; simp [fns], by subst hF hVi hVu hVg hVh hVl; simp [fns], ?_⟩
  have e5 : arI .rem .u64 (arI .shr .u64 w 5) 8 = w / 32 % 8 := by rw [s5, hm _ 8 (by omega) (by decide)]
  split <;> rename_i h3 <;> (try rw [h3]) <;> ((try rewrite [← hVi]); (try rewrite [← hVu]); (try rewrite [← hVg]); (try rewrite [← hVh]); conv => cbv)
  · subst hF hVi hVu hVg hVh hVl; subst hd
    simp only [fns, cmI, e5] at *
    refine ⟨by simp [inRows, inRowsL, lk], ?_⟩
    have h3 : w / 32 % 8 ≠ 0 := by simpa using h3
    simp [reify, reifyL, ← hp, unpackS, hw4, h3, En.d, enZ]
  have hw5 : w / 32 % 8 = 0 := by
    subst hF hVi hVu hVg hVh hVl
    simp only [fns, cmI, e5] at h3
    simpa using h3
  refine ⟨by subst hF hVi hVu hVg hVh hVl; simp [fns], ?_⟩
  split <;> rename_i h6 <;> (try rw [h6]) <;> ((try rewrite [← hVi]); (try rewrite [← hVu]); (try rewrite [← hVg]); (try rewrite [← hVh]); conv => cbv)
  · subst hF hVi hVu hVg hVh hVl; subst hd
    simp only [fns, cmI, s16] at *
    refine ⟨by simp [inRows, inRowsL, lk], ?_⟩
    have h6 : w / 65536 ≠ 0 := by simpa using h6
    simp [reify, reifyL, ← hp, unpackS, hw4, h6, En.d, enZ]
  have hw6 : w / 65536 = 0 := by
    subst hF hVi hVu hVg hVh hVl
    simp only [fns, cmI, s16] at h6
    simpa using h6
  have c1 := rcheck_c ⟨F.cv .i64 (F.ar .rem .u64 w 4), F.cv .i64 (F.ar .shr .u64 w 8), F.cm .eql (F.ar .rem .u64 (F.ar .shr .u64 w 2) 2) 1, F.cm .eql (F.ar .rem .u64 (F.ar .shr .u64 w 3) 2) 1, F.cm .eql (F.ar .rem .u64 (F.ar .shr .u64 w 4) 2) 1⟩
  have he : (⟨F.cv .i64 (F.ar .rem .u64 w 4), F.cv .i64 (F.ar .shr .u64 w 8), F.cm .eql (F.ar .rem .u64 (F.ar .shr .u64 w 2) 2) 1, F.cm .eql (F.ar .rem .u64 (F.ar .shr .u64 w 3) 2) 1, F.cm .eql (F.ar .rem .u64 (F.ar .shr .u64 w 4) 2) 1⟩ : En) = unW w := by
    subst hF hVi hVu hVg hVh hVl
    simp only [fns, cmI, s2, s3, s4, s8, unW, En.mk.injEq]
    rw [hm w 4 h0 (by decide), hm _ 2 (by omega) (by decide), hm _ 2 (by omega) (by decide), hm _ 2 (by omega) (by decide), IntWalk.i64_in _ (by omega), IntWalk.i64_in _ (by omega)]
    exact ⟨rfl, rfl, rfl, rfl, rfl⟩
  generalize hs : chkS _ = S at c1
  rw [he] at hs
  unfold En.d at c1
  refine ⟨by subst hF hVi hVu hVg hVh hVl; simp [fns], by subst hF hVi hVu hVg hVh hVl; simp [fns], by subst hF hVi hVu hVg hVh hVl; simp [fns], by subst hF hVi hVu hVg hVh hVl; simp [fns], by subst hF hVi hVu hVg hVh hVl; simp [fns], by subst hF hVi hVu hVg hVh hVl; simp [fns], by subst hF hVi hVu hVg hVh hVl; simp [fns], by subst hF hVi hVu hVg hVh hVl; simp [fns], ?_⟩
  refine .inl ⟨_, _, by subst hF hVi hVu hVg hVh hVl; exact c1, by subst hF hVi hVu hVg hVh hVl; exact ⟨by simp [inRowsL, inRows, lk], by first | exact .inl rfl | exact .inr ⟨rfl, fun B h => nomatch h⟩⟩, ?_⟩ <;> ((try rewrite [← hVi]); (try rewrite [← hVu]); (try rewrite [← hVg]); (try rewrite [← hVh]); conv => cbv)
  split <;> rename_i h7 <;> (try rw [h7]) <;> ((try rewrite [← hVi]); (try rewrite [← hVu]); (try rewrite [← hVg]); (try rewrite [← hVh]); conv => cbv)
  · subst hF hVi hVu hVg hVh hVl; subst hd
    simp only [fns, cmI] at h7 ⊢
    refine ⟨by simp [inRows, inRowsL, lk], ?_⟩
    have h5 : S ≠ 0 := by simpa using h7
    simp [reify, reifyL, ← hp, unpackS, hw4, hw5, hw6, hs, h5, En.d, enZ]
  · subst hF hVi hVu hVg hVh hVl; subst hd
    simp only [fns, cmI] at h7 ⊢
    refine ⟨by simp [inRows, inRowsL, lk], ?_⟩
    have h5 : S = 0 := by simpa using h7
    have hX : X = (unW w, 0) := by rw [← hp]; simp [unpackS, hw4, hw5, hw6, hs, h5]
    rw [hX, ← he]
    simp [reify, reifyL, En.d, fns, cmI]
end Go.Proofs.YtppmomobjjpljaaDoor.E
end

/- Part A5. -/
section
/- Contracts: tables are checked (reference). -/
namespace Go.Proofs.YtppmomobjjpljaaDoor.E
open Go Go.RowKit
set_option linter.unusedVariables false
set_option linter.unusedSimpArgs false
set_option maxRecDepth 100000
def rngE : List Int → Int → Int
  | [], z => z
  | x :: l, z => if x < -1 ∨ x ≥ 256 then 2 else rngE l z
def dupE (r : Int) (L : List Int) : Nat → List Int → Int → Int
  | _, [], z => z
  | i, x :: l, z => if 0 ≤ x ∧ usesS r L i x = true then 7 else dupE r L (i + 1) l z
def stE (r : Int) : List Int → Int → Int
  | [], z => z
  | x :: l, z => if 0 ≤ x ∧ r < 0 then 9 else stE r l z
def wrdE (L : List Int) : Nat → List Int → Int
  | _, [] => 0
  | i, w :: l => if (unpackS w).2 ≠ 0 then (unpackS w).2 else if (unpackS w).1.k ≠ 0 ∧ L.getD (i / 8) 0 < 0 then 9 else wrdE L (i + 1) l
def chkT (r : Int) (L E : List Int) : Int :=
  if L.length ≠ 8 ∨ E.length ≠ 64 then 3 else if r < -1 ∨ r ≥ 256 then 2 else rngE L (dupE r L 0 L (stE r L (wrdE L 0 E)))
def wordsOk (E : List Int) : Prop := ∀ w, w ∈ E → 0 ≤ w ∧ w < 18446744073709551616
theorem rchkT_c (r : Int) (L E : List Int) (hL : L.length < 100) (hE : E.length < 100) (hw : wordsOk E) : Contract Tryd.prog G0 16 [tblD r L E] (.int .i64 (chkT r L E)) [] := by
  refine fun0 tys_ok mixed (n := 108) (rs := [.tmp 2]) ⟨Tryd.func16, by kernel_rfl, rfl⟩ rfl rfl (by simp) fun F d0 hF hd => ?_
  obtain ⟨ints, u64s, gv, gh, lenF, hVi, hVu, hVg, hVh, hVl, lenD, ints_len, u64s_len, ints_cells, u64s_cells, ints_at, u64s_at, gv_nil, gh_nil, gv_ne, gh_ne, gv_snoc, gh_snoc, gv_one, gh_one, lt_gv, ren_gv, lk_gh, renH_gh, mem_gh, injK_gh, injH_gh, ints_nil, ints_app, ints_one, ints_cons, ints_ne, u64s_nil, u64s_app, u64s_one, u64s_ne, ints_set, u64s_set⟩ := vocab
  obtain ⟨f_chkT, o_chkT⟩ : ∃ f, f = chkT := ⟨_, rfl⟩
  unfold tblD
  generalize hs : chkT r L E = S at hd
  have hl1 := ints_len L
  have hl2 := u64s_len E
  ((try rewrite [← hVi]); (try rewrite [← hVu]); (try rewrite [← hVg]); (try rewrite [← hVh]); (try rewrite [← o_chkT]); conv => cbv)
  have out3 : (L.length ≠ 8 ∨ E.length ≠ 64) → S = 3 := fun h => by rw [← hs, chkT, if_pos h]
  split <;> rename_i h1 <;> (try rw [h1]) <;> ((try rewrite [← hVi]); (try rewrite [← hVu]); (try rewrite [← hVg]); (try rewrite [← hVh]); (try rewrite [← o_chkT]); conv => cbv)
  · subst hF hVi hVu hVg hVh hVl; (try subst o_chkT); subst hd
    simp only [fns, cmI, hl1] at *
    refine ⟨by simp [inRows, inRowsL, lk], ?_⟩
    rw [out3 (.inl (by simp at h1; omega))]
    simp [reify]
  split <;> rename_i h2 <;> (try rw [h2]) <;> ((try rewrite [← hVi]); (try rewrite [← hVu]); (try rewrite [← hVg]); (try rewrite [← hVh]); (try rewrite [← o_chkT]); conv => cbv)
  · subst hF hVi hVu hVg hVh hVl; (try subst o_chkT); subst hd
    simp only [fns, cmI, hl2] at *
    refine ⟨by simp [inRows, inRowsL, lk], ?_⟩
    rw [out3 (.inr (by simp at h2; omega))]
    simp [reify]
  obtain ⟨hL8, hE64⟩ : L.length = 8 ∧ E.length = 64 := by
    subst hF hVi hVu hVg hVh hVl; (try subst o_chkT)
    simp only [fns, cmI, hl1, hl2] at h1 h2
    simp at h1 h2
    omega
  have out2 : (r < -1 ∨ r ≥ 256) → S = 2 := fun h => by rw [← hs, chkT, if_neg (by omega), if_pos h]
  split <;> rename_i h3 <;> (try rw [h3]) <;> ((try rewrite [← hVi]); (try rewrite [← hVu]); (try rewrite [← hVg]); (try rewrite [← hVh]); (try rewrite [← o_chkT]); conv => cbv)
  · subst hF hVi hVu hVg hVh hVl; (try subst o_chkT); subst hd
    simp only [fns, cmI] at *
    refine ⟨by simp [inRows, inRowsL, lk], ?_⟩
    rw [out2 (.inl (by simpa using h3))]
    simp [reify]
  split <;> rename_i h4 <;> (try rw [h4]) <;> ((try rewrite [← hVi]); (try rewrite [← hVu]); (try rewrite [← hVg]); (try rewrite [← hVh]); (try rewrite [← o_chkT]); conv => cbv)
  · subst hF hVi hVu hVg hVh hVl; (try subst o_chkT); subst hd
    simp only [fns, cmI] at *
    refine ⟨by simp [inRows, inRowsL, lk], ?_⟩
    rw [out2 (.inr (by simpa using h4))]
    simp [reify]
  have hs2 : S = rngE L (dupE r L 0 L (stE r L (wrdE L 0 E))) := by
    subst hF hVi hVu hVg hVh hVl; (try subst o_chkT)
    simp only [fns, cmI] at h3 h4
    rw [← hs, chkT, if_neg (by omega), if_neg (by simp at h3 h4; omega)]
  clear hs
  refine loop_inv hF Nat (fun k => k ≤ 8 ∧ S = rngE (L.drop k) (dupE r L 0 L (stE r L (wrdE L 0 E)))) (fun k => { tm := [(1, .ptr 0 3 0 0), (2, .int .i64 0), (3, .int .i64 k)], hp := [(0, ⟨3, 25, [.agg [.int .i64 r, .ro (ints L), .ro (u64s E)]], true, true⟩)], nx := 1, nt := 108, fr := [], df := [] }) (fun k => 8 - k) ⟨0, ⟨Nat.zero_le _, hs2⟩, wk_of hF (weak0 ?_ ?_ (by simp) rfl rfl rfl rfl rfl)⟩ fun k hk => ?_
  · simp [subT, lk, D.lt]
  · simp [subH, lk]
  clear hs2 out2 out3
  ((try rewrite [← hVi]); (try rewrite [← hVu]); (try rewrite [← hVg]); (try rewrite [← hVh]); (try rewrite [← o_chkT]); conv => cbv)
  split <;> rename_i h5 <;> (try rw [h5]) <;> ((try rewrite [← hVi]); (try rewrite [← hVu]); (try rewrite [← hVg]); (try rewrite [← hVh]); (try rewrite [← o_chkT]); conv => cbv)
  · have hlt : k < 8 := by subst hF hVi hVu hVg hVh hVl; (try subst o_chkT); simp [fns, cmI] at h5; omega
    obtain ⟨x, hx⟩ : ∃ x, L[k]? = some x := ⟨_, List.getElem?_eq_getElem (by omega)⟩
    have hd1 := drop_at hx
    refine ⟨by subst hF hVi hVu hVg hVh hVl; (try subst o_chkT); simp [fns], .int .i64 x, ints_at _ _ _ hx, rfl, ?_⟩
    ((try rewrite [← hVi]); (try rewrite [← hVu]); (try rewrite [← hVg]); (try rewrite [← hVh]); (try rewrite [← o_chkT]); conv => cbv)
    split <;> rename_i h6 <;> (try rw [h6]) <;> ((try rewrite [← hVi]); (try rewrite [← hVu]); (try rewrite [← hVg]); (try rewrite [← hVh]); (try rewrite [← o_chkT]); conv => cbv)
    · subst hF hVi hVu hVg hVh hVl; (try subst o_chkT); subst hd
      simp only [fns, cmI] at *
      refine ⟨by simp [inRows, inRowsL, lk], ?_⟩
      have h6 : x < -1 := by simpa using h6
      have : S = 2 := by rw [hk.2, hd1, rngE, if_pos (.inl h6)]
      simp [reify, this]
    refine ⟨by subst hF hVi hVu hVg hVh hVl; (try subst o_chkT); simp [fns], .int .i64 x, ints_at _ _ _ hx, rfl, ?_⟩
    ((try rewrite [← hVi]); (try rewrite [← hVu]); (try rewrite [← hVg]); (try rewrite [← hVh]); (try rewrite [← o_chkT]); conv => cbv)
    split <;> rename_i h7 <;> (try rw [h7]) <;> ((try rewrite [← hVi]); (try rewrite [← hVu]); (try rewrite [← hVg]); (try rewrite [← hVh]); (try rewrite [← o_chkT]); conv => cbv)
    · subst hF hVi hVu hVg hVh hVl; (try subst o_chkT); subst hd
      simp only [fns, cmI] at *
      refine ⟨by simp [inRows, inRowsL, lk], ?_⟩
      have h7 : x ≥ 256 := by simpa using h7
      have : S = 2 := by rw [hk.2, hd1, rngE, if_pos (.inr h7)]
      simp [reify, this]
    refine ⟨k + 1, ⟨by omega, ?_⟩, by omega, wk_of hF (weak0 ?_ ?_ (by simp) rfl rfl rfl rfl rfl)⟩
    · subst hF hVi hVu hVg hVh hVl; (try subst o_chkT)
      simp only [fns, cmI] at h6 h7
      rw [hk.2, hd1, rngE, if_neg (by simp at h6 h7; omega)]
    · subst hF hVi hVu hVg hVh hVl; (try subst o_chkT)
      simp only [fns, arI]
      rw [IntWalk.i64_in _ (by simp; omega)]
      simp [subT, lk, D.lt]
    · simp [subH, lk]
  have hk8 : k = 8 := by subst hF hVi hVu hVg hVh hVl; (try subst o_chkT); simp [fns, cmI] at h5; omega
  have hs3 : S = dupE r L 0 L (stE r L (wrdE L 0 E)) := by
    rw [hk.2, hk8, List.drop_of_length_le (by omega)]
    rfl
  clear hk hk8 h5
  refine loop_inv hF Nat (fun k => k ≤ 8 ∧ S = dupE r L k (L.drop k) (stE r L (wrdE L 0 E))) (fun k => { tm := [(1, .ptr 0 3 0 0), (2, .int .i64 0), (4, .int .i64 k)], hp := [(0, ⟨3, 25, [.agg [.int .i64 r, .ro (ints L), .ro (u64s E)]], true, true⟩)], nx := 1, nt := 108, fr := [], df := [] }) (fun k => 8 - k) ⟨0, ⟨Nat.zero_le _, hs3⟩, wk_of hF (weak0 ?_ ?_ (by simp) rfl rfl rfl rfl rfl)⟩ fun k hk => ?_
  · simp [subT, lk, D.lt]
  · simp [subH, lk]
  clear hs3
  ((try rewrite [← hVi]); (try rewrite [← hVu]); (try rewrite [← hVg]); (try rewrite [← hVh]); (try rewrite [← o_chkT]); conv => cbv)
  split <;> rename_i h5 <;> (try rw [h5]) <;> ((try rewrite [← hVi]); (try rewrite [← hVu]); (try rewrite [← hVg]); (try rewrite [← hVh]); (try rewrite [← o_chkT]); conv => cbv)
  · have hlt : k < 8 := by subst hF hVi hVu hVg hVh hVl; (try subst o_chkT); simp [fns, cmI] at h5; omega
    obtain ⟨x, hx⟩ : ∃ x, L[k]? = some x := ⟨_, List.getElem?_eq_getElem (by omega)⟩
    have hd1 := drop_at hx
    refine ⟨by subst hF hVi hVu hVg hVh hVl; (try subst o_chkT); simp [fns], .int .i64 x, ints_at _ _ _ hx, rfl, ?_⟩
    ((try rewrite [← hVi]); (try rewrite [← hVu]); (try rewrite [← hVg]); (try rewrite [← hVh]); (try rewrite [← o_chkT]); conv => cbv)
    split <;> rename_i h6 <;> (try rw [h6]) <;> ((try rewrite [← hVi]); (try rewrite [← hVu]); (try rewrite [← hVg]); (try rewrite [← hVh]); (try rewrite [← o_chkT]); conv => cbv)
    · refine ⟨by subst hF hVi hVu hVg hVh hVl; (try subst o_chkT); simp [fns], .int .i64 x, ints_at _ _ _ hx, rfl, ?_⟩
      ((try rewrite [← hVi]); (try rewrite [← hVu]); (try rewrite [← hVg]); (try rewrite [← hVh]); (try rewrite [← o_chkT]); conv => cbv)
      have c1 := uses_c r L E k x (by omega) (by omega)
      obtain ⟨u, hu⟩ : ∃ u, u = usesS r L k x := ⟨_, rfl⟩
      rw [← hu] at c1
      unfold tblD at c1
      refine .inl ⟨_, _, by subst hF hVi hVu hVg hVh hVl; (try subst o_chkT); exact c1, by subst hF hVi hVu hVg hVh hVl; (try subst o_chkT); exact ⟨by simp [inRowsL, inRows, lk], by first | exact .inl rfl | exact .inr ⟨rfl, fun B h => nomatch h⟩⟩, ?_⟩ <;> ((try rewrite [← hVi]); (try rewrite [← hVu]); (try rewrite [← hVg]); (try rewrite [← hVh]); (try rewrite [← o_chkT]); conv => cbv)
      split <;> rename_i h7 <;> (try rw [h7]) <;> ((try rewrite [← hVi]); (try rewrite [← hVu]); (try rewrite [← hVg]); (try rewrite [← hVh]); (try rewrite [← o_chkT]); conv => cbv)
      · subst hF hVi hVu hVg hVh hVl; (try subst o_chkT); subst hd
        simp only [fns, cmI] at *
        refine ⟨by simp [inRows, inRowsL, lk], ?_⟩
        have h6 : 0 ≤ x := by simpa using h6
        have : S = 7 := by rw [hk.2, hd1, dupE, if_pos ⟨h6, hu.symm⟩]
        simp [reify, this]
      · refine ⟨k + 1, ⟨by omega, ?_⟩, by omega, wk_of hF (weak0 ?_ ?_ (by simp) rfl rfl rfl rfl rfl)⟩
        · rw [hk.2, hd1, dupE, if_neg (by rw [← hu]; simp)]
        · subst hF hVi hVu hVg hVh hVl; (try subst o_chkT)
          simp only [fns, arI]
          rw [IntWalk.i64_in _ (by simp; omega)]
          simp [subT, lk, D.lt]
        · simp [subH, lk]
    · refine ⟨k + 1, ⟨by omega, ?_⟩, by omega, wk_of hF (weak0 ?_ ?_ (by simp) rfl rfl rfl rfl rfl)⟩
      · subst hF hVi hVu hVg hVh hVl; (try subst o_chkT)
        simp only [fns, cmI] at h6
        rw [hk.2, hd1, dupE, if_neg (by simp at h6; omega)]
      · subst hF hVi hVu hVg hVh hVl; (try subst o_chkT)
        simp only [fns, arI]
        rw [IntWalk.i64_in _ (by simp; omega)]
        simp [subT, lk, D.lt]
      · simp [subH, lk]
  have hk8 : k = 8 := by subst hF hVi hVu hVg hVh hVl; (try subst o_chkT); simp [fns, cmI] at h5; omega
  have hs4 : S = stE r L (wrdE L 0 E) := by
    rw [hk.2, hk8, List.drop_of_length_le (by omega)]
    rfl
  clear hk hk8 h5
  refine loop_inv hF Nat (fun k => k ≤ 8 ∧ S = stE r (L.drop k) (wrdE L 0 E)) (fun k => { tm := [(1, .ptr 0 3 0 0), (2, .int .i64 0), (5, .int .i64 k)], hp := [(0, ⟨3, 25, [.agg [.int .i64 r, .ro (ints L), .ro (u64s E)]], true, true⟩)], nx := 1, nt := 108, fr := [], df := [] }) (fun k => 8 - k) ⟨0, ⟨Nat.zero_le _, hs4⟩, wk_of hF (weak0 ?_ ?_ (by simp) rfl rfl rfl rfl rfl)⟩ fun k hk => ?_
  · simp [subT, lk, D.lt]
  · simp [subH, lk]
  clear hs4
  ((try rewrite [← hVi]); (try rewrite [← hVu]); (try rewrite [← hVg]); (try rewrite [← hVh]); (try rewrite [← o_chkT]); conv => cbv)
  split <;> rename_i h5 <;> (try rw [h5]) <;> ((try rewrite [← hVi]); (try rewrite [← hVu]); (try rewrite [← hVg]); (try rewrite [← hVh]); (try rewrite [← o_chkT]); conv => cbv)
  · have hlt : k < 8 := by subst hF hVi hVu hVg hVh hVl; (try subst o_chkT); simp [fns, cmI] at h5; omega
    obtain ⟨x, hx⟩ : ∃ x, L[k]? = some x := ⟨_, List.getElem?_eq_getElem (by omega)⟩
    have hd1 := drop_at hx
    refine ⟨by subst hF hVi hVu hVg hVh hVl; (try subst o_chkT); simp [fns], .int .i64 x, ints_at _ _ _ hx, rfl, ?_⟩
    ((try rewrite [← hVi]); (try rewrite [← hVu]); (try rewrite [← hVg]); (try rewrite [← hVh]); (try rewrite [← o_chkT]); conv => cbv)
    have next : (¬ (0 ≤ x ∧ r < 0)) → S = stE r (L.drop (k + 1)) (wrdE L 0 E) := fun h => by rw [hk.2, hd1, stE, if_neg h]
    split <;> rename_i h6 <;> (try rw [h6]) <;> ((try rewrite [← hVi]); (try rewrite [← hVu]); (try rewrite [← hVg]); (try rewrite [← hVh]); (try rewrite [← o_chkT]); conv => cbv)
    · split <;> rename_i h7 <;> (try rw [h7]) <;> ((try rewrite [← hVi]); (try rewrite [← hVu]); (try rewrite [← hVg]); (try rewrite [← hVh]); (try rewrite [← o_chkT]); conv => cbv)
      · subst hF hVi hVu hVg hVh hVl; (try subst o_chkT); subst hd
        simp only [fns, cmI] at *
        refine ⟨by simp [inRows, inRowsL, lk], ?_⟩
        have h6 : 0 ≤ x := by simpa using h6
        have h7 : r < 0 := by simpa using h7
        have : S = 9 := by rw [hk.2, hd1, stE, if_pos ⟨h6, h7⟩]
        simp [reify, this]
      · refine ⟨k + 1, ⟨by omega, next ?_⟩, by omega, wk_of hF (weak0 ?_ ?_ (by simp) rfl rfl rfl rfl rfl)⟩
        · subst hF hVi hVu hVg hVh hVl; (try subst o_chkT)
          simp only [fns, cmI] at h7
          simp at h7; omega
        · subst hF hVi hVu hVg hVh hVl; (try subst o_chkT)
          simp only [fns, arI]
          rw [IntWalk.i64_in _ (by simp; omega)]
          simp [subT, lk, D.lt]
        · simp [subH, lk]
    · refine ⟨k + 1, ⟨by omega, next ?_⟩, by omega, wk_of hF (weak0 ?_ ?_ (by simp) rfl rfl rfl rfl rfl)⟩
      · subst hF hVi hVu hVg hVh hVl; (try subst o_chkT)
        simp only [fns, cmI] at h6
        simp at h6; omega
      · subst hF hVi hVu hVg hVh hVl; (try subst o_chkT)
        simp only [fns, arI]
        rw [IntWalk.i64_in _ (by simp; omega)]
        simp [subT, lk, D.lt]
      · simp [subH, lk]
  have hk8 : k = 8 := by subst hF hVi hVu hVg hVh hVl; (try subst o_chkT); simp [fns, cmI] at h5; omega
  have hs5 : S = wrdE L 0 E := by
    rw [hk.2, hk8, List.drop_of_length_le (by omega)]
    rfl
  clear hk hk8 h5
  refine loop_inv hF Nat (fun k => k ≤ 64 ∧ S = wrdE L k (E.drop k)) (fun k => { tm := [(1, .ptr 0 3 0 0), (2, .int .i64 0), (6, .int .i64 k)], hp := [(0, ⟨3, 25, [.agg [.int .i64 r, .ro (ints L), .ro (u64s E)]], true, true⟩)], nx := 1, nt := 108, fr := [], df := [] }) (fun k => 64 - k) ⟨0, ⟨Nat.zero_le _, hs5⟩, wk_of hF (weak0 ?_ ?_ (by simp) rfl rfl rfl rfl rfl)⟩ fun k hk => ?_
  · simp [subT, lk, D.lt]
  · simp [subH, lk]
  clear hs5
  ((try rewrite [← hVi]); (try rewrite [← hVu]); (try rewrite [← hVg]); (try rewrite [← hVh]); (try rewrite [← o_chkT]); conv => cbv)
  split <;> rename_i h5 <;> (try rw [h5]) <;> ((try rewrite [← hVi]); (try rewrite [← hVu]); (try rewrite [← hVg]); (try rewrite [← hVh]); (try rewrite [← o_chkT]); conv => cbv)
  · have hlt : k < 64 := by subst hF hVi hVu hVg hVh hVl; (try subst o_chkT); simp [fns, cmI] at h5; omega
    obtain ⟨x, hx⟩ : ∃ x, E[k]? = some x := ⟨_, List.getElem?_eq_getElem (by omega)⟩
    have hd1 := drop_at hx
    have hxw := hw x (List.mem_of_getElem? hx)
    have c1 := runpack_c x hxw.1 hxw.2
    have hsd := hk.2
    rw [hd1, wrdE] at hsd
    generalize unpackS x = X at c1 hsd
    obtain ⟨⟨ek, en, ew, ec, er⟩, ef⟩ := X
    unfold En.d at c1
    refine ⟨by subst hF hVi hVu hVg hVh hVl; (try subst o_chkT); simp [fns], .int .u64 x, u64s_at _ _ _ hx, rfl, ?_⟩
    ((try rewrite [← hVi]); (try rewrite [← hVu]); (try rewrite [← hVg]); (try rewrite [← hVh]); (try rewrite [← o_chkT]); conv => cbv)
    refine .inl ⟨_, _, by subst hF hVi hVu hVg hVh hVl; (try subst o_chkT); exact c1, by subst hF hVi hVu hVg hVh hVl; (try subst o_chkT); exact ⟨by simp [inRowsL, inRows, lk], by first | exact .inl rfl | exact .inr ⟨rfl, fun B h => nomatch h⟩⟩, ?_⟩ <;> ((try rewrite [← hVi]); (try rewrite [← hVu]); (try rewrite [← hVg]); (try rewrite [← hVh]); (try rewrite [← o_chkT]); conv => cbv)
    split <;> rename_i h6 <;> (try rw [h6]) <;> ((try rewrite [← hVi]); (try rewrite [← hVu]); (try rewrite [← hVg]); (try rewrite [← hVh]); (try rewrite [← o_chkT]); conv => cbv)
    · subst hF hVi hVu hVg hVh hVl; (try subst o_chkT); subst hd
      simp only [fns, cmI] at *
      refine ⟨by simp [inRows, inRowsL, lk], ?_⟩
      have h6 : ef ≠ 0 := by simpa using h6
      have : S = ef := by rw [hsd, if_pos h6]
      simp [reify, this]
    have hef : ef = 0 := by subst hF hVi hVu hVg hVh hVl; (try subst o_chkT); simpa [fns, cmI] using h6
    rw [if_neg (by simpa using hef)] at hsd
    have stp : ¬ (ek ≠ 0 ∧ L.getD (k / 8) 0 < 0) → S = wrdE L (k + 1) (E.drop (k + 1)) := fun h => by rw [hsd, if_neg h]
    split <;> rename_i h7 <;> (try rw [h7]) <;> ((try rewrite [← hVi]); (try rewrite [← hVu]); (try rewrite [← hVg]); (try rewrite [← hVh]); (try rewrite [← o_chkT]); conv => cbv)
    · obtain ⟨y, hy⟩ : ∃ y, L[k / 8]? = some y := ⟨_, List.getElem?_eq_getElem (by omega)⟩
      have hq : F.ar .quo .i64 (Int.ofNat k) 8 = ((k / 8 : Nat) : Int) := by
        subst hF hVi hVu hVg hVh hVl; (try subst o_chkT)
        show IntKind.i64.wrap ((Int.ofNat k).tdiv 8) = _
        rw [IntWalk.i64_quo _ _ (by simp; omega)]
        simp
      have hyd : L.getD (k / 8) 0 = y := by rw [List.getD_eq_getElem?_getD, hy]; rfl
      refine ⟨by subst hF hVi hVu hVg hVh hVl; (try subst o_chkT); simp [fns], by subst hF hVi hVu hVg hVh hVl; (try subst o_chkT); simp only [fns] at hq ⊢; rw [hq]; omega, .int .i64 y, ?_, rfl, ?_⟩
      · have : (F.ar .quo .i64 (Int.ofNat k) 8).toNat = k / 8 := by rw [hq]; omega
        exact this ▸ ints_at _ _ _ hy
      ((try rewrite [← hVi]); (try rewrite [← hVu]); (try rewrite [← hVg]); (try rewrite [← hVh]); (try rewrite [← o_chkT]); conv => cbv)
      split <;> rename_i h8 <;> (try rw [h8]) <;> ((try rewrite [← hVi]); (try rewrite [← hVu]); (try rewrite [← hVg]); (try rewrite [← hVh]); (try rewrite [← o_chkT]); conv => cbv)
      · subst hF hVi hVu hVg hVh hVl; (try subst o_chkT); subst hd
        simp only [fns, cmI] at *
        refine ⟨by simp [inRows, inRowsL, lk], ?_⟩
        have h7 : ek ≠ 0 := by simpa using h7
        have h8 : y < 0 := by simpa using h8
        have : S = 9 := by rw [hsd, if_pos ⟨h7, by rw [hyd]; exact h8⟩]
        simp [reify, this]
      · refine ⟨k + 1, ⟨by omega, stp ?_⟩, by omega, wk_of hF (weak0 ?_ ?_ (by simp) rfl rfl rfl rfl rfl)⟩
        · subst hF hVi hVu hVg hVh hVl; (try subst o_chkT)
          simp only [fns, cmI] at h8
          simp at h8; rw [hyd]; omega
        · subst hF hVi hVu hVg hVh hVl; (try subst o_chkT)
          simp only [fns, arI]
          rw [IntWalk.i64_in _ (by simp; omega)]
          simp [subT, lk, D.lt]
        · simp [subH, lk]
    · refine ⟨k + 1, ⟨by omega, stp ?_⟩, by omega, wk_of hF (weak0 ?_ ?_ (by simp) rfl rfl rfl rfl rfl)⟩
      · subst hF hVi hVu hVg hVh hVl; (try subst o_chkT)
        simp only [fns, cmI] at h7
        simp at h7; omega
      · subst hF hVi hVu hVg hVh hVl; (try subst o_chkT)
        simp only [fns, arI]
        rw [IntWalk.i64_in _ (by simp; omega)]
        simp [subT, lk, D.lt]
      · simp [subH, lk]
  have hk8 : k = 64 := by subst hF hVi hVu hVg hVh hVl; (try subst o_chkT); simp [fns, cmI] at h5; omega
  have hs6 : S = 0 := by
    rw [hk.2, hk8, List.drop_of_length_le (by omega)]
    rfl
  subst hF hVi hVu hVg hVh hVl; (try subst o_chkT); subst hd
  simp only [fns, cmI] at *
  refine ⟨by simp [inRows, inRowsL, lk], ?_⟩
  simp [reify, hs6]
end Go.Proofs.YtppmomobjjpljaaDoor.E
end

/- Part A6. -/
section
/- Contracts: what a table has (reference). -/
namespace Go.Proofs.YtppmomobjjpljaaDoor.E
open Go Go.RowKit
set_option linter.unusedVariables false
set_option linter.unusedSimpArgs false
set_option maxRecDepth 100000
def asksS (r : Int) (L E : List Int) (p : Int) : Int := if chkT r L E = 0 ∧ (p < 0 ∨ p ≥ 64) then 2 else chkT r L E
theorem chkT_len {r : Int} {L E : List Int} (h : chkT r L E = 0) : L.length = 8 ∧ E.length = 64 := by
  rw [chkT] at h
  split at h
  · omega
  · omega
theorem asksS_ok {r : Int} {L E : List Int} {p : Int} (h : asksS r L E p = 0) : chkT r L E = 0 ∧ 0 ≤ p ∧ p < 64 := by
  rw [asksS] at h
  split at h
  · omega
  · omega
theorem asks_c (r : Int) (L E : List Int) (p : Int) (hL : L.length < 100) (hE : E.length < 100) (hw : wordsOk E) : Contract Tryd.prog G0 50 [tblD r L E, .int .i64 p] (.int .i64 (asksS r L E p)) [] := by
  refine fun0 tys_ok mixed (n := 19) (rs := [.tmp 4]) ⟨Tryd.func50, by kernel_rfl, rfl⟩ rfl rfl (by simp) fun F d0 hF hd => ?_
  obtain ⟨ints, u64s, gv, gh, lenF, hVi, hVu, hVg, hVh, hVl, lenD, ints_len, u64s_len, ints_cells, u64s_cells, ints_at, u64s_at, gv_nil, gh_nil, gv_ne, gh_ne, gv_snoc, gh_snoc, gv_one, gh_one, lt_gv, ren_gv, lk_gh, renH_gh, mem_gh, injK_gh, injH_gh, ints_nil, ints_app, ints_one, ints_cons, ints_ne, u64s_nil, u64s_app, u64s_one, u64s_ne, ints_set, u64s_set⟩ := vocab
  obtain ⟨f_chkT, o_chkT⟩ : ∃ f, f = chkT := ⟨_, rfl⟩
  obtain ⟨f_asksS, o_asksS⟩ : ∃ f, f = asksS := ⟨_, rfl⟩
  have c1 := rchkT_c r L E hL hE hw
  unfold tblD at c1 ⊢
  generalize hS : asksS r L E p = S at hd
  rw [asksS] at hS
  generalize chkT r L E = T at c1 hS
  ((try rewrite [← hVi]); (try rewrite [← hVu]); (try rewrite [← hVg]); (try rewrite [← hVh]); (try rewrite [← o_chkT]); (try rewrite [← o_asksS]); conv => cbv)
  refine .inl ⟨_, _, by subst hF hVi hVu hVg hVh hVl; (try subst o_chkT); (try subst o_asksS); exact c1, by subst hF hVi hVu hVg hVh hVl; (try subst o_chkT); (try subst o_asksS); exact ⟨by simp [inRowsL, inRows, lk], by first | exact .inl rfl | exact .inr ⟨rfl, fun B h => nomatch h⟩⟩, ?_⟩ <;> ((try rewrite [← hVi]); (try rewrite [← hVu]); (try rewrite [← hVg]); (try rewrite [← hVh]); (try rewrite [← o_chkT]); (try rewrite [← o_asksS]); conv => cbv)
  ((try rewrite [← hVi]); (try rewrite [← hVu]); (try rewrite [← hVg]); (try rewrite [← hVh]); (try rewrite [← o_chkT]); (try rewrite [← o_asksS]); conv => cbv)
  repeat' (split <;> rename_i h <;> (try rw [h]) <;> ((try rewrite [← hVi]); (try rewrite [← hVu]); (try rewrite [← hVg]); (try rewrite [← hVh]); (try rewrite [← o_chkT]); (try rewrite [← o_asksS]); conv => cbv))
  all_goals
    subst hF hVi hVu hVg hVh hVl; (try subst o_chkT); (try subst o_asksS); subst hd
    simp only [fns, cmI] at *
    refine ⟨by simp [inRows, inRowsL, lk], ?_⟩
    simp only [decide_eq_true_eq, decide_eq_false_iff_not, beq_iff_eq, beq_eq_false_iff_ne] at *
    simp only [reify]
    grind
theorem rlacks_c (r : Int) (L E : List Int) (p : Int) (hL : L.length < 100) (hE : E.length < 100) (hw : wordsOk E) : Contract Tryd.prog G0 20 [tblD r L E, .int .i64 p] (.tup [.bool (decide (asksS r L E p = 0 ∧ L.getD (p.toNat / 8) 0 < 0)), .int .i64 (asksS r L E p)]) [] := by
  refine fun0 tys_ok mixed (n := 20) (rs := [.tmp 4, .tmp 5]) ⟨Tryd.func20, by kernel_rfl, rfl⟩ rfl rfl (by simp) fun F d0 hF hd => ?_
  obtain ⟨ints, u64s, gv, gh, lenF, hVi, hVu, hVg, hVh, hVl, lenD, ints_len, u64s_len, ints_cells, u64s_cells, ints_at, u64s_at, gv_nil, gh_nil, gv_ne, gh_ne, gv_snoc, gh_snoc, gv_one, gh_one, lt_gv, ren_gv, lk_gh, renH_gh, mem_gh, injK_gh, injH_gh, ints_nil, ints_app, ints_one, ints_cons, ints_ne, u64s_nil, u64s_app, u64s_one, u64s_ne, ints_set, u64s_set⟩ := vocab
  obtain ⟨f_chkT, o_chkT⟩ : ∃ f, f = chkT := ⟨_, rfl⟩
  obtain ⟨f_asksS, o_asksS⟩ : ∃ f, f = asksS := ⟨_, rfl⟩
  have c1 := asks_c r L E p hL hE hw
  unfold tblD at c1 ⊢
  generalize hS : asksS r L E p = S at hd c1
  ((try rewrite [← hVi]); (try rewrite [← hVu]); (try rewrite [← hVg]); (try rewrite [← hVh]); (try rewrite [← o_chkT]); (try rewrite [← o_asksS]); conv => cbv)
  refine .inl ⟨_, _, by subst hF hVi hVu hVg hVh hVl; (try subst o_chkT); (try subst o_asksS); exact c1, by subst hF hVi hVu hVg hVh hVl; (try subst o_chkT); (try subst o_asksS); exact ⟨by simp [inRowsL, inRows, lk], by first | exact .inl rfl | exact .inr ⟨rfl, fun B h => nomatch h⟩⟩, ?_⟩ <;> ((try rewrite [← hVi]); (try rewrite [← hVu]); (try rewrite [← hVg]); (try rewrite [← hVh]); (try rewrite [← o_chkT]); (try rewrite [← o_asksS]); conv => cbv)
  split <;> rename_i h <;> (try rw [h]) <;> ((try rewrite [← hVi]); (try rewrite [← hVu]); (try rewrite [← hVg]); (try rewrite [← hVh]); (try rewrite [← o_chkT]); (try rewrite [← o_asksS]); conv => cbv)
  · subst hF hVi hVu hVg hVh hVl; (try subst o_chkT); (try subst o_asksS); subst hd
    simp only [fns, cmI] at *
    refine ⟨by simp [inRows, inRowsL, lk], ?_⟩
    have h : S ≠ 0 := by simpa using h
    simp [reify, reifyL, h]
  · have h0 : S = 0 := by subst hF hVi hVu hVg hVh hVl; (try subst o_chkT); (try subst o_asksS); simpa [fns, cmI] using h
    rw [h0] at hS
    obtain ⟨h1, h2, h3⟩ := asksS_ok hS
    obtain ⟨h4, h5⟩ := chkT_len h1
    obtain ⟨y, hy⟩ : ∃ y, L[p.toNat / 8]? = some y := ⟨_, List.getElem?_eq_getElem (by omega)⟩
    have hq : F.ar .quo .i64 p 8 = ((p.toNat / 8 : Nat) : Int) := by
      subst hF hVi hVu hVg hVh hVl; (try subst o_chkT); (try subst o_asksS)
      show IntKind.i64.wrap (p.tdiv 8) = _
      rw [IntWalk.i64_quo _ _ (by omega)]
      omega
    have hyd : L.getD (p.toNat / 8) 0 = y := by rw [List.getD_eq_getElem?_getD, hy]; rfl
    refine ⟨by subst hF hVi hVu hVg hVh hVl; (try subst o_chkT); (try subst o_asksS); simp [fns], by subst hF hVi hVu hVg hVh hVl; (try subst o_chkT); (try subst o_asksS); simp only [fns] at hq ⊢; rw [hq]; omega, .int .i64 y, ?_, rfl, ?_⟩
    · have : (F.ar .quo .i64 p 8).toNat = p.toNat / 8 := by rw [hq]; omega
      exact this ▸ ints_at _ _ _ hy
    ((try rewrite [← hVi]); (try rewrite [← hVu]); (try rewrite [← hVg]); (try rewrite [← hVh]); (try rewrite [← o_chkT]); (try rewrite [← o_asksS]); conv => cbv)
    subst hF hVi hVu hVg hVh hVl; (try subst o_chkT); (try subst o_asksS); subst hd
    simp only [fns, cmI] at *
    refine ⟨by simp [inRows, inRowsL, lk], ?_⟩
    simp [reify, reifyL, h0, hy]
def getS (r : Int) (L E : List Int) (p : Int) : En × Int := if asksS r L E p ≠ 0 then (enZ, asksS r L E p) else unpackS (E.getD p.toNat 0)
theorem rget_c (r : Int) (L E : List Int) (p : Int) (hL : L.length < 100) (hE : E.length < 100) (hw : wordsOk E) : Contract Tryd.prog G0 18 [tblD r L E, .int .i64 p] (.tup [(getS r L E p).1.d, .int .i64 (getS r L E p).2]) [] := by
  refine fun0 tys_ok mixed (n := 22) (rs := [.cell 4 35, .tmp 5]) ⟨Tryd.func18, by kernel_rfl, rfl⟩ rfl rfl (by simp) fun F d0 hF hd => ?_
  obtain ⟨ints, u64s, gv, gh, lenF, hVi, hVu, hVg, hVh, hVl, lenD, ints_len, u64s_len, ints_cells, u64s_cells, ints_at, u64s_at, gv_nil, gh_nil, gv_ne, gh_ne, gv_snoc, gh_snoc, gv_one, gh_one, lt_gv, ren_gv, lk_gh, renH_gh, mem_gh, injK_gh, injH_gh, ints_nil, ints_app, ints_one, ints_cons, ints_ne, u64s_nil, u64s_app, u64s_one, u64s_ne, ints_set, u64s_set⟩ := vocab
  obtain ⟨f_chkT, o_chkT⟩ : ∃ f, f = chkT := ⟨_, rfl⟩
  obtain ⟨f_asksS, o_asksS⟩ : ∃ f, f = asksS := ⟨_, rfl⟩
  obtain ⟨f_getS, o_getS⟩ : ∃ f, f = getS := ⟨_, rfl⟩
  have c1 := asks_c r L E p hL hE hw
  unfold tblD at c1 ⊢
  generalize hG : getS r L E p = X at hd
  rw [getS] at hG
  generalize hS : asksS r L E p = S at c1 hG
  ((try rewrite [← hVi]); (try rewrite [← hVu]); (try rewrite [← hVg]); (try rewrite [← hVh]); (try rewrite [← o_chkT]); (try rewrite [← o_asksS]); (try rewrite [← o_getS]); conv => cbv)
  refine .inl ⟨_, _, by subst hF hVi hVu hVg hVh hVl; (try subst o_chkT); (try subst o_asksS); (try subst o_getS); exact c1, by subst hF hVi hVu hVg hVh hVl; (try subst o_chkT); (try subst o_asksS); (try subst o_getS); exact ⟨by simp [inRowsL, inRows, lk], by first | exact .inl rfl | exact .inr ⟨rfl, fun B h => nomatch h⟩⟩, ?_⟩ <;> ((try rewrite [← hVi]); (try rewrite [← hVu]); (try rewrite [← hVg]); (try rewrite [← hVh]); (try rewrite [← o_chkT]); (try rewrite [← o_asksS]); (try rewrite [← o_getS]); conv => cbv)
  split <;> rename_i h <;> (try rw [h]) <;> ((try rewrite [← hVi]); (try rewrite [← hVu]); (try rewrite [← hVg]); (try rewrite [← hVh]); (try rewrite [← o_chkT]); (try rewrite [← o_asksS]); (try rewrite [← o_getS]); conv => cbv)
  · subst hF hVi hVu hVg hVh hVl; (try subst o_chkT); (try subst o_asksS); (try subst o_getS); subst hd
    simp only [fns, cmI] at *
    refine ⟨by simp [inRows, inRowsL, lk], ?_⟩
    have h : S ≠ 0 := by simpa using h
    rw [if_pos h] at hG
    simp [reify, reifyL, ← hG, En.d, enZ]
  · have h0 : S = 0 := by subst hF hVi hVu hVg hVh hVl; (try subst o_chkT); (try subst o_asksS); (try subst o_getS); simpa [fns, cmI] using h
    rw [h0] at hS
    obtain ⟨h1, h2, h3⟩ := asksS_ok hS
    obtain ⟨h4, h5⟩ := chkT_len h1
    obtain ⟨x, hx⟩ : ∃ x, E[p.toNat]? = some x := ⟨_, List.getElem?_eq_getElem (by omega)⟩
    have hxw := hw x (List.mem_of_getElem? hx)
    have c2 := runpack_c x hxw.1 hxw.2
    rw [if_neg (by simpa using h0), List.getD_eq_getElem?_getD, hx, Option.getD_some] at hG
    rw [hG] at c2
    obtain ⟨⟨ek, en, ew, ec, er⟩, ef⟩ := X
    unfold En.d at c2 hd
    refine ⟨by subst hF hVi hVu hVg hVh hVl; (try subst o_chkT); (try subst o_asksS); (try subst o_getS); exact h2, .int .u64 x, u64s_at _ _ _ hx, rfl, ?_⟩
    ((try rewrite [← hVi]); (try rewrite [← hVu]); (try rewrite [← hVg]); (try rewrite [← hVh]); (try rewrite [← o_chkT]); (try rewrite [← o_asksS]); (try rewrite [← o_getS]); conv => cbv)
    refine .inl ⟨_, _, by subst hF hVi hVu hVg hVh hVl; (try subst o_chkT); (try subst o_asksS); (try subst o_getS); exact c2, by subst hF hVi hVu hVg hVh hVl; (try subst o_chkT); (try subst o_asksS); (try subst o_getS); exact ⟨by simp [inRowsL, inRows, lk], by first | exact .inl rfl | exact .inr ⟨rfl, fun B h => nomatch h⟩⟩, ?_⟩ <;> ((try rewrite [← hVi]); (try rewrite [← hVu]); (try rewrite [← hVg]); (try rewrite [← hVh]); (try rewrite [← o_chkT]); (try rewrite [← o_asksS]); (try rewrite [← o_getS]); conv => cbv)
    subst hF hVi hVu hVg hVh hVl; (try subst o_chkT); (try subst o_asksS); (try subst o_getS); subst hd
    simp only [fns, cmI] at *
    refine ⟨by simp [inRows, inRowsL, lk], ?_⟩
    simp [reify, reifyL]
end Go.Proofs.YtppmomobjjpljaaDoor.E
end

/- Part A7. -/
section
/- Contracts: tables that are changed (reference). -/
namespace Go.Proofs.YtppmomobjjpljaaDoor.E
open Go Go.RowKit
set_option linter.unusedVariables false
set_option linter.unusedSimpArgs false
set_option maxRecDepth 100000
def tblOwn (r : Int) (L E : List Int) : D := .agg [.int .i64 r, .sl 0 1 0 L.length, .sl 1 1 0 E.length]
def tblExt (L E : List Int) : List Blk := [⟨1, 3, ints L, true, false⟩, ⟨1, 66, u64s E, true, false⟩]
theorem rown_c (r : Int) (L E : List Int) (hL : L.length < 100) (hE : E.length < 100) (h1 : L ≠ []) (h2 : E ≠ []) : Contract Tryd.prog G0 60 [tblD r L E] (tblOwn r L E) (tblExt L E) := by
  refine funOwn tys_ok mixed (n := 14) (rs := [.cell 2 25]) ⟨Tryd.func60, by kernel_rfl, rfl⟩ [7, 11] rfl rfl (by simp) fun F d0 e0 hF hd he => ?_
  obtain ⟨ints, u64s, gv, gh, lenF, hVi, hVu, hVg, hVh, hVl, lenD, ints_len, u64s_len, ints_cells, u64s_cells, ints_at, u64s_at, gv_nil, gh_nil, gv_ne, gh_ne, gv_snoc, gh_snoc, gv_one, gh_one, lt_gv, ren_gv, lk_gh, renH_gh, mem_gh, injK_gh, injH_gh, ints_nil, ints_app, ints_one, ints_cons, ints_ne, u64s_nil, u64s_app, u64s_one, u64s_ne, ints_set, u64s_set⟩ := vocab
  unfold tblD
  have hl1 := ints_len L
  have hl2 := u64s_len E
  have n1 : ints L ≠ [] := fun h => h1 (by rw [h] at hl1; exact List.eq_nil_of_length_eq_zero hl1.symm)
  have n2 : u64s E ≠ [] := fun h => h2 (by rw [h] at hl2; exact List.eq_nil_of_length_eq_zero hl2.symm)
  ((try rewrite [← hVi]); (try rewrite [← hVu]); (try rewrite [← hVg]); (try rewrite [← hVh]); conv => cbv)
  refine ⟨by subst hF hVi hVu hVg hVh hVl; exact ⟨trivial, ints_cells L⟩, by subst hF hVi hVu hVg hVh hVl; simp only [fns]; omega, fun h => absurd h n1, fun _ => ?_⟩
  ((try rewrite [← hVi]); (try rewrite [← hVu]); (try rewrite [← hVg]); (try rewrite [← hVh]); conv => cbv)
  refine ⟨by subst hF hVi hVu hVg hVh hVl; exact ⟨trivial, u64s_cells E⟩, by subst hF hVi hVu hVg hVh hVl; simp only [fns]; omega, fun h => absurd h n2, fun _ => ?_⟩
  ((try rewrite [← hVi]); (try rewrite [← hVu]); (try rewrite [← hVg]); (try rewrite [← hVh]); conv => cbv)
  subst hF hVi hVu hVg hVh hVl; subst hd; subst he
  simp only [fns]
  refine ⟨by simp [tblOwn, D.ren, D.renL, hl1, hl2], by simp [tblOwn, tblExt, D.lt, D.ltL], by decide, rfl, fun k B hB => ?_⟩
  match k, hB with
  | 0, hB => simp [tblExt] at hB; subst hB; simp [lk]
  | 1, hB => simp [tblExt] at hB; subst hB; simp [lk]
  | k + 2, hB => simp [tblExt] at hB
/-- A table and an error. -/
structure TE where
  r : Int
  L : List Int
  E : List Int
  f : Int
deriving DecidableEq
def TE.d (x : TE) : D := .tup [tblD x.r x.L x.E, .int .i64 x.f]
def teZ (f : Int) : TE := ⟨0, [], [], f⟩
def lacksS (L : List Int) (p : Int) : Bool := decide (L.getD (p.toNat / 8) 0 < 0)
def putS (r : Int) (L E : List Int) (p : Int) (e : En) : TE :=
  if asksS r L E p ≠ 0 then teZ (asksS r L E p) else if (packS e).2 ≠ 0 then teZ (packS e).2 else if lacksS L p = true ∧ e.k ≠ 0 then teZ 9 else ⟨r, L, E.set p.toNat (packS e).1, 0⟩
theorem rput_c (r : Int) (L E : List Int) (p : Int) (e : En) (hL : L.length < 100) (hE : E.length < 100) (hw : wordsOk E) : Contract Tryd.prog G0 36 [tblD r L E, .int .i64 p, e.d] (putS r L E p e).d [] := by
  refine fun0 tys_ok mixed (n := 46) (rs := [.cell 6 25, .tmp 7]) ⟨Tryd.func36, by kernel_rfl, rfl⟩ rfl rfl (by simp) fun F d0 hF hd => ?_
  obtain ⟨ints, u64s, gv, gh, lenF, hVi, hVu, hVg, hVh, hVl, lenD, ints_len, u64s_len, ints_cells, u64s_cells, ints_at, u64s_at, gv_nil, gh_nil, gv_ne, gh_ne, gv_snoc, gh_snoc, gv_one, gh_one, lt_gv, ren_gv, lk_gh, renH_gh, mem_gh, injK_gh, injH_gh, ints_nil, ints_app, ints_one, ints_cons, ints_ne, u64s_nil, u64s_app, u64s_one, u64s_ne, ints_set, u64s_set⟩ := vocab
  obtain ⟨f_chkT, o_chkT⟩ : ∃ f, f = chkT := ⟨_, rfl⟩
  obtain ⟨f_asksS, o_asksS⟩ : ∃ f, f = asksS := ⟨_, rfl⟩
  obtain ⟨f_putS, o_putS⟩ : ∃ f, f = putS := ⟨_, rfl⟩
  have c1 := rlacks_c r L E p hL hE hw
  have c2 := rpack_c e
  obtain ⟨ek, en, ew, ec, er⟩ := e
  unfold tblD En.d at *
  generalize hP : putS r L E p ⟨ek, en, ew, ec, er⟩ = X at hd
  rw [putS] at hP
  generalize hpk : packS ⟨ek, en, ew, ec, er⟩ = Y at c2 hP
  obtain ⟨pw, pf⟩ := Y
  generalize hS : asksS r L E p = S at c1 hP
  have hb : decide (S = 0 ∧ L.getD (p.toNat / 8) 0 < 0) = (decide (S = 0) && lacksS L p) := by simp [lacksS, Bool.decide_and]
  rw [hb] at c1
  generalize lacksS L p = b at c1 hP
  generalize hb2 : (decide (S = 0) && b) = b2 at c1
  ((try rewrite [← hVi]); (try rewrite [← hVu]); (try rewrite [← hVg]); (try rewrite [← hVh]); (try rewrite [← o_chkT]); (try rewrite [← o_asksS]); (try rewrite [← o_putS]); conv => cbv)
  refine .inl ⟨_, _, by subst hF hVi hVu hVg hVh hVl; (try subst o_chkT); (try subst o_asksS); (try subst o_putS); exact c1, by subst hF hVi hVu hVg hVh hVl; (try subst o_chkT); (try subst o_asksS); (try subst o_putS); exact ⟨by simp [inRowsL, inRows, lk], by first | exact .inl rfl | exact .inr ⟨rfl, fun B h => nomatch h⟩⟩, ?_⟩ <;> ((try rewrite [← hVi]); (try rewrite [← hVu]); (try rewrite [← hVg]); (try rewrite [← hVh]); (try rewrite [← o_chkT]); (try rewrite [← o_asksS]); (try rewrite [← o_putS]); conv => cbv)
  have zero : ∀ f, X = teZ f → X.d = .tup [.agg [.int .i64 0, .ro [], .ro []], .int .i64 f] := fun f h => by rw [h]; rfl
  split <;> rename_i h <;> (try rw [h]) <;> ((try rewrite [← hVi]); (try rewrite [← hVu]); (try rewrite [← hVg]); (try rewrite [← hVh]); (try rewrite [← o_chkT]); (try rewrite [← o_asksS]); (try rewrite [← o_putS]); conv => cbv)
  · subst hF hVi hVu hVg hVh hVl; (try subst o_chkT); (try subst o_asksS); (try subst o_putS); subst hd
    simp only [fns, cmI] at *
    refine ⟨by simp [inRows, inRowsL, lk], ?_⟩
    have h : S ≠ 0 := by simpa using h
    rw [zero S (by rw [← hP, if_pos h])]
    simp [reify, reifyL]
  have h0 : S = 0 := by subst hF hVi hVu hVg hVh hVl; (try subst o_chkT); (try subst o_asksS); (try subst o_putS); simpa [fns, cmI] using h
  rw [if_neg (by simpa using h0)] at hP
  have hbb : b2 = b := by rw [← hb2]; simp [h0]
  rw [h0] at hS
  obtain ⟨g1, g2, g3⟩ := asksS_ok hS
  obtain ⟨g4, g5⟩ := chkT_len g1
  subst hbb
  clear hb2 hb c1
  refine .inl ⟨_, _, by subst hF hVi hVu hVg hVh hVl; (try subst o_chkT); (try subst o_asksS); (try subst o_putS); exact c2, by subst hF hVi hVu hVg hVh hVl; (try subst o_chkT); (try subst o_asksS); (try subst o_putS); exact ⟨by simp [inRowsL, inRows, lk], by first | exact .inl rfl | exact .inr ⟨rfl, fun B h => nomatch h⟩⟩, ?_⟩ <;> ((try rewrite [← hVi]); (try rewrite [← hVu]); (try rewrite [← hVg]); (try rewrite [← hVh]); (try rewrite [← o_chkT]); (try rewrite [← o_asksS]); (try rewrite [← o_putS]); conv => cbv)
  split <;> rename_i h2 <;> (try rw [h2]) <;> ((try rewrite [← hVi]); (try rewrite [← hVu]); (try rewrite [← hVg]); (try rewrite [← hVh]); (try rewrite [← o_chkT]); (try rewrite [← o_asksS]); (try rewrite [← o_putS]); conv => cbv)
  · subst hF hVi hVu hVg hVh hVl; (try subst o_chkT); (try subst o_asksS); (try subst o_putS); subst hd
    simp only [fns, cmI] at *
    refine ⟨by simp [inRows, inRowsL, lk], ?_⟩
    have h2 : pf ≠ 0 := by simpa using h2
    rw [zero pf (by rw [← hP, if_pos h2])]
    simp [reify, reifyL]
  have p0 : pf = 0 := by subst hF hVi hVu hVg hVh hVl; (try subst o_chkT); (try subst o_asksS); (try subst o_putS); simpa [fns, cmI] using h2
  rw [if_neg (by simpa using p0)] at hP
  have c3 := rown_c r L E hL hE (by intro h; rw [h] at g4; cases g4) (by intro h; rw [h] at g5; cases g5)
  unfold tblD tblOwn tblExt at c3
  rw [g4, g5] at c3
  have hl1 := ints_len L
  have hl2 := u64s_len E
  have hst : (u64s E).set p.toNat (.int .u64 pw) = u64s (E.set p.toNat pw) := u64s_set _ _ _
  have hl3 : (u64s (E.set p.toNat pw)).length = 64 := by rw [u64s_len]; simp [g5]
  have hput : (b2 = true ∧ ek ≠ 0) → X = teZ 9 := fun h => by rw [← hP, if_pos h]
  have hset : ¬ (b2 = true ∧ ek ≠ 0) → X = ⟨r, L, E.set p.toNat pw, 0⟩ := fun h => by rw [← hP, if_neg h]
  cases b2
  · have hX := hset (by simp)
    ((try rewrite [← hVi]); (try rewrite [← hVu]); (try rewrite [← hVg]); (try rewrite [← hVh]); (try rewrite [← o_chkT]); (try rewrite [← o_asksS]); (try rewrite [← o_putS]); conv => cbv)
    refine .inl ⟨_, _, by subst hF hVi hVu hVg hVh hVl; (try subst o_chkT); (try subst o_asksS); (try subst o_putS); exact c3, by subst hF hVi hVu hVg hVh hVl; (try subst o_chkT); (try subst o_asksS); (try subst o_putS); exact ⟨by simp [inRowsL, inRows, lk], by first | exact .inl rfl | exact .inr ⟨rfl, fun B h => nomatch h⟩⟩, ?_⟩ <;> ((try rewrite [← hVi]); (try rewrite [← hVu]); (try rewrite [← hVg]); (try rewrite [← hVh]); (try rewrite [← o_chkT]); (try rewrite [← o_asksS]); (try rewrite [← o_putS]); conv => cbv)
    subst hF hVi hVu hVg hVh hVl; (try subst o_chkT); (try subst o_asksS); (try subst o_putS); subst hd
    simp only [fns]
    refine ⟨⟨g2, g3⟩, by simp [hl2]; omega, by simp [inRows, inRowsL, lk, hl1, hl2, g4, g5], ?_⟩
    rw [hX]
    simp [TE.d, tblD, reify, reifyL, lk, subL, hl1, hl2, hl3, g4, g5, hst]
  · ((try rewrite [← hVi]); (try rewrite [← hVu]); (try rewrite [← hVg]); (try rewrite [← hVh]); (try rewrite [← o_chkT]); (try rewrite [← o_asksS]); (try rewrite [← o_putS]); conv => cbv)
    split <;> rename_i h3 <;> (try rw [h3]) <;> ((try rewrite [← hVi]); (try rewrite [← hVu]); (try rewrite [← hVg]); (try rewrite [← hVh]); (try rewrite [← o_chkT]); (try rewrite [← o_asksS]); (try rewrite [← o_putS]); conv => cbv)
    · subst hF hVi hVu hVg hVh hVl; (try subst o_chkT); (try subst o_asksS); (try subst o_putS); subst hd
      simp only [fns, cmI] at *
      refine ⟨by simp [inRows, inRowsL, lk], ?_⟩
      have h3 : ek ≠ 0 := by simpa using h3
      rw [zero 9 (hput (by simpa using h3))]
      simp [reify, reifyL]
    have hX := hset (by subst hF hVi hVu hVg hVh hVl; (try subst o_chkT); (try subst o_asksS); (try subst o_putS); simp [fns, cmI] at h3; simp [h3])
    refine .inl ⟨_, _, by subst hF hVi hVu hVg hVh hVl; (try subst o_chkT); (try subst o_asksS); (try subst o_putS); exact c3, by subst hF hVi hVu hVg hVh hVl; (try subst o_chkT); (try subst o_asksS); (try subst o_putS); exact ⟨by simp [inRowsL, inRows, lk], by first | exact .inl rfl | exact .inr ⟨rfl, fun B h => nomatch h⟩⟩, ?_⟩ <;> ((try rewrite [← hVi]); (try rewrite [← hVu]); (try rewrite [← hVg]); (try rewrite [← hVh]); (try rewrite [← o_chkT]); (try rewrite [← o_asksS]); (try rewrite [← o_putS]); conv => cbv)
    subst hF hVi hVu hVg hVh hVl; (try subst o_chkT); (try subst o_asksS); (try subst o_putS); subst hd
    simp only [fns]
    refine ⟨⟨g2, g3⟩, by simp [hl2]; omega, by simp [inRows, inRowsL, lk, hl1, hl2, g4, g5], ?_⟩
    rw [hX]
    simp [TE.d, tblD, reify, reifyL, lk, subL, hl1, hl2, hl3, g4, g5, hst]
end Go.Proofs.YtppmomobjjpljaaDoor.E
end

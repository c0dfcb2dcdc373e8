/- Closed facts on this program's types and functions, printed by wip/gen/facts.py. -/
import Derived.Test.YtfpnodboebpemaaSh
namespace Go.Proofs.Ytfpnodboebpemaa
open Go.RowKit Go.Proofs.YtfpnodboebpemaaW.PrintWords
theorem en_27 : Enters 27 := enters_of Try.func27 rfl (by decide +kernel)
theorem en_29 : Enters 29 := enters_of Try.func29 rfl (by decide +kernel)
theorem bld_29_0_1_2_3_4 {x0 : Int} {x1 : Int} {x2 : Int} {x3 : Int} {x4A : Option Addr} {x4n x4c : Nat} (w : World) : (Instr.build 29 #[(0, .int .i64 x0), (1, .int .i64 x1), (2, .int .i64 x2), (3, .int .i64 x3), (4, .slice x4A x4n x4c)]).run Try.prog w = .ok (.agg #[.int .i64 x0, .int .i64 x1, .int .i64 x2, .int .i64 x3, .slice x4A x4n x4c]) w := by kernel_rfl
theorem en_28 : Enters 28 := enters_of Try.func28 rfl (by decide +kernel)
theorem fa_31_4 : FieldAt 31 4 4 := field_of Try.underlying31 rfl rfl (sz := 1) (by kernel_rfl) (by decide)
theorem na_23 : NoAgg 23 := noAgg_of Try.underlying23 rfl
theorem sz_23 : SizeOf 23 1 := sizeOf_of (by kernel_rfl)
theorem ag_31 : AggOf 31 5 := aggOf Try.underlying31 (by kernel_rfl)
theorem sz_31 : SizeOf 31 5 := sizeOf_of (by kernel_rfl)
theorem en_30 : Enters 30 := enters_of Try.func30 rfl (by decide +kernel)
theorem zr_31 : Zero 31 [.int .i64 0, .int .i64 0, .int .i64 0, .int .i64 0, .slice none 0 0] := zero_of (z := .agg #[.int .i64 0, .int .i64 0, .int .i64 0, .int .i64 0, .slice none 0 0]) (by kernel_rfl) rfl
theorem bsl_23_0  (w : World) : (Instr.buildSlice 23 0 #[]).run Try.prog w = .ok (.slice (some ⟨w.heap.size, 0, none⟩) 0 0) (w.alloc (.cells #[] 5)) := by kernel_rfl
theorem inf_5 : (Try.prog.info? 5).map (fun i => (i.zero, i.size, i.bytes)) = some (some (.int .u8 0), 1, 1) := by kernel_rfl
theorem bsl_23_1 {x0 : Int} (w : World) : (Instr.buildSlice 23 1 #[(0, .int .u8 x0)]).run Try.prog w = .ok (.slice (some ⟨w.heap.size, 0, none⟩) 1 1) (w.alloc (.cells #[.int .u8 x0] 5)) := by kernel_rfl
theorem en_31 : Enters 31 := enters_of Try.func31 rfl (by decide +kernel)
theorem en_32 : Enters 32 := enters_of Try.func32 rfl (by decide +kernel)
theorem en_33 : Enters 33 := enters_of Try.func33 rfl (by decide +kernel)
theorem en_34 : Enters 34 := enters_of Try.func34 rfl (by decide +kernel)
theorem en_36 : Enters 36 := enters_of Try.func36 rfl (by decide +kernel)
theorem en_35 : Enters 35 := enters_of Try.func35 rfl (by decide +kernel)
theorem en_37 : Enters 37 := enters_of Try.func37 rfl (by decide +kernel)
theorem isz_3 : (Try.prog.info? 3).map (·.size) = some 1 := by kernel_rfl
theorem sz_3 : SizeOf 3 1 := sizeOf_of (by kernel_rfl)
theorem na_3 : NoAgg 3 := noAgg_of Try.underlying3 rfl
theorem en_38 : Enters 38 := enters_of Try.func38 rfl (by decide +kernel)
theorem en_39 : Enters 39 := enters_of Try.func39 rfl (by decide +kernel)
theorem en_40 : Enters 40 := enters_of Try.func40 rfl (by decide +kernel)
theorem en_41 : Enters 41 := enters_of Try.func41 rfl (by decide +kernel)
theorem bld_42_0_1 {x0 : Int} {x1 : Int} (w : World) : (Instr.build 42 #[(0, .int .i64 x0), (1, .int .i64 x1)]).run Try.prog w = .ok (.agg #[.int .i64 x0, .int .i64 x1]) w := by kernel_rfl
theorem en_42 : Enters 42 := enters_of Try.func42 rfl (by decide +kernel)
theorem en_43 : Enters 43 := enters_of Try.func43 rfl (by decide +kernel)
theorem bld_55_0 {x0 : Int} (w : World) : (Instr.build 55 #[(0, .int .i64 x0)]).run Try.prog w = .ok (.agg #[.int .i64 x0, .slice none 0 0]) w := by kernel_rfl
theorem ag_55 : AggOf 55 2 := aggOf Try.underlying55 (by kernel_rfl)
theorem sz_55 : SizeOf 55 2 := sizeOf_of (by kernel_rfl)
theorem zr_55 : Zero 55 [.int .i64 0, .slice none 0 0] := zero_of (z := .agg #[.int .i64 0, .slice none 0 0]) (by kernel_rfl) rfl
theorem bld_58_0 {x0 : Int} (w : World) : (Instr.build 58 #[(0, .int .i64 x0)]).run Try.prog w = .ok (.agg #[.int .i64 x0, .slice none 0 0]) w := by kernel_rfl
theorem ag_58 : AggOf 58 2 := aggOf Try.underlying58 (by kernel_rfl)
theorem sz_58 : SizeOf 58 2 := sizeOf_of (by kernel_rfl)
theorem zr_58 : Zero 58 [.int .i64 0, .slice none 0 0] := zero_of (z := .agg #[.int .i64 0, .slice none 0 0]) (by kernel_rfl) rfl
theorem fa_58_1 : FieldAt 58 1 1 := field_of Try.underlying58 rfl rfl (sz := 1) (by kernel_rfl) (by decide)
theorem na_56 : NoAgg 56 := noAgg_of Try.underlying56 rfl
theorem sz_56 : SizeOf 56 1 := sizeOf_of (by kernel_rfl)
theorem en_44 : Enters 44 := enters_of Try.func44 rfl (by decide +kernel)
theorem bld_61_0_1 {x0 : Int} {x1A : Option Addr} {x1n x1c : Nat} (w : World) : (Instr.build 61 #[(0, .int .i64 x0), (1, .slice x1A x1n x1c)]).run Try.prog w = .ok (.agg #[.int .i64 x0, .slice x1A x1n x1c]) w := by kernel_rfl
theorem bsl_56_1 {x0f0 : Int} {x0f1A : Option Addr} {x0f1n x0f1c : Nat} (w : World) : (Instr.buildSlice 56 1 #[(0, .agg #[.int .i64 x0f0, .slice x0f1A x0f1n x0f1c])]).run Try.prog w = .ok (.slice (some ⟨w.heap.size, 0, none⟩) 1 1) (w.alloc (.cells #[.int .i64 x0f0, .slice x0f1A x0f1n x0f1c] 61)) := by kernel_rfl
theorem inf_61 : (Try.prog.info? 61).map (fun i => (i.zero, i.size, i.bytes)) = some (some (.agg #[.int .i64 0, .slice none 0 0]), 2, 32) := by kernel_rfl
theorem fa_55_1 : FieldAt 55 1 1 := field_of Try.underlying55 rfl rfl (sz := 1) (by kernel_rfl) (by decide)
theorem na_53 : NoAgg 53 := noAgg_of Try.underlying53 rfl
theorem sz_53 : SizeOf 53 1 := sizeOf_of (by kernel_rfl)
theorem bsl_53_1 {x0f0 : Int} {x0f1A : Option Addr} {x0f1n x0f1c : Nat} (w : World) : (Instr.buildSlice 53 1 #[(0, .agg #[.int .i64 x0f0, .slice x0f1A x0f1n x0f1c])]).run Try.prog w = .ok (.slice (some ⟨w.heap.size, 0, none⟩) 1 1) (w.alloc (.cells #[.int .i64 x0f0, .slice x0f1A x0f1n x0f1c] 58)) := by kernel_rfl
theorem inf_58 : (Try.prog.info? 58).map (fun i => (i.zero, i.size, i.bytes)) = some (some (.agg #[.int .i64 0, .slice none 0 0]), 2, 32) := by kernel_rfl
theorem en_45 : Enters 45 := enters_of Try.func45 rfl (by decide +kernel)
theorem en_46 : Enters 46 := enters_of Try.func46 rfl (by decide +kernel)
theorem en_47 : Enters 47 := enters_of Try.func47 rfl (by decide +kernel)
theorem en_48 : Enters 48 := enters_of Try.func48 rfl (by decide +kernel)
theorem ag_29 : AggOf 29 5 := aggOf Try.underlying29 (by kernel_rfl)
theorem sz_29 : SizeOf 29 5 := sizeOf_of (by kernel_rfl)
theorem zr_29 : Zero 29 [.int .i64 0, .int .i64 0, .int .i64 0, .int .i64 0, .slice none 0 0] := zero_of (z := .agg #[.int .i64 0, .int .i64 0, .int .i64 0, .int .i64 0, .slice none 0 0]) (by kernel_rfl) rfl
theorem en_49 : Enters 49 := enters_of Try.func49 rfl (by decide +kernel)
theorem isz_5 : (Try.prog.info? 5).map (·.size) = some 1 := by kernel_rfl
theorem sz_5 : SizeOf 5 1 := sizeOf_of (by kernel_rfl)
theorem na_5 : NoAgg 5 := noAgg_of Try.underlying5 rfl
theorem en_50 : Enters 50 := enters_of Try.func50 rfl (by decide +kernel)
theorem en_51 : Enters 51 := enters_of Try.func51 rfl (by decide +kernel)
theorem en_52 : Enters 52 := enters_of Try.func52 rfl (by decide +kernel)
theorem bld_80_z  (w : World) : (Instr.build 80 #[]).run Try.prog w = .ok (.agg #[.pointer none, .int .i64 0, .slice none 0 0]) w := by kernel_rfl
theorem en_53 : Enters 53 := enters_of Try.func53 rfl (by decide +kernel)
theorem en_54 : Enters 54 := enters_of Try.func54 rfl (by decide +kernel)
theorem en_55 : Enters 55 := enters_of Try.func55 rfl (by decide +kernel)
theorem fa_80_2 : FieldAt 80 2 2 := field_of Try.underlying80 rfl rfl (sz := 1) (by kernel_rfl) (by decide)
theorem na_62 : NoAgg 62 := noAgg_of Try.underlying62 rfl
theorem sz_62 : SizeOf 62 1 := sizeOf_of (by kernel_rfl)
theorem inf_23 : (Try.prog.info? 23).map (fun i => (i.zero, i.size, i.bytes)) = some (some (.slice none 0 0), 1, 24) := by kernel_rfl
theorem en_56 : Enters 56 := enters_of Try.func56 rfl (by decide +kernel)
theorem en_57 : Enters 57 := enters_of Try.func57 rfl (by decide +kernel)
theorem en_58 : Enters 58 := enters_of Try.func58 rfl (by decide +kernel)
theorem en_59 : Enters 59 := enters_of Try.func59 rfl (by decide +kernel)
theorem isz_93 : (Try.prog.info? 93).map (·.size) = some 4 := by kernel_rfl
theorem sz_93 : SizeOf 93 4 := sizeOf_of (by kernel_rfl)
theorem fa_93_1 : FieldAt 93 1 1 := field_of Try.underlying93 rfl rfl (sz := 1) (by kernel_rfl) (by decide)
theorem fa_93_2 : FieldAt 93 2 2 := field_of Try.underlying93 rfl rfl (sz := 1) (by kernel_rfl) (by decide)
theorem fa_80_1 : FieldAt 80 1 1 := field_of Try.underlying80 rfl rfl (sz := 1) (by kernel_rfl) (by decide)
theorem bld_80_1_2 {x1 : Int} {x2A : Option Addr} {x2n x2c : Nat} (w : World) : (Instr.build 80 #[(1, .int .i64 x1), (2, .slice x2A x2n x2c)]).run Try.prog w = .ok (.agg #[.pointer none, .int .i64 x1, .slice x2A x2n x2c]) w := by kernel_rfl
theorem fa_93_0 : FieldAt 93 0 0 := field_of Try.underlying93 rfl rfl (sz := 1) (by kernel_rfl) (by decide)
theorem bsl_62_0  (w : World) : (Instr.buildSlice 62 0 #[]).run Try.prog w = .ok (.slice (some ⟨w.heap.size, 0, none⟩) 0 0) (w.alloc (.cells #[] 23)) := by kernel_rfl
theorem fa_93_3 : FieldAt 93 3 3 := field_of Try.underlying93 rfl rfl (sz := 1) (by kernel_rfl) (by decide)
theorem en_60 : Enters 60 := enters_of Try.func60 rfl (by decide +kernel)
theorem en_61 : Enters 61 := enters_of Try.func61 rfl (by decide +kernel)
theorem en_62 : Enters 62 := enters_of Try.func62 rfl (by decide +kernel)
theorem en_63 : Enters 63 := enters_of Try.func63 rfl (by decide +kernel)
theorem en_64 : Enters 64 := enters_of Try.func64 rfl (by decide +kernel)
theorem bld_42_z  (w : World) : (Instr.build 42 #[]).run Try.prog w = .ok (.agg #[.int .i64 0, .int .i64 0]) w := by kernel_rfl
theorem en_65 : Enters 65 := enters_of Try.func65 rfl (by decide +kernel)
theorem bld_55_0_1 {x0 : Int} {x1A : Option Addr} {x1n x1c : Nat} (w : World) : (Instr.build 55 #[(0, .int .i64 x0), (1, .slice x1A x1n x1c)]).run Try.prog w = .ok (.agg #[.int .i64 x0, .slice x1A x1n x1c]) w := by kernel_rfl
theorem en_66 : Enters 66 := enters_of Try.func66 rfl (by decide +kernel)
theorem isz_58 : (Try.prog.info? 58).map (·.size) = some 2 := by kernel_rfl
theorem en_67 : Enters 67 := enters_of Try.func67 rfl (by decide +kernel)
theorem bsl_37_1 {x0 : Int} (w : World) : (Instr.buildSlice 37 1 #[(0, .int .i64 x0)]).run Try.prog w = .ok (.slice (some ⟨w.heap.size, 0, none⟩) 1 1) (w.alloc (.cells #[.int .i64 x0] 3)) := by kernel_rfl
theorem en_68 : Enters 68 := enters_of Try.func68 rfl (by decide +kernel)
theorem en_69 : Enters 69 := enters_of Try.func69 rfl (by decide +kernel)
theorem en_70 : Enters 70 := enters_of Try.func70 rfl (by decide +kernel)
theorem en_71 : Enters 71 := enters_of Try.func71 rfl (by decide +kernel)
theorem en_72 : Enters 72 := enters_of Try.func72 rfl (by decide +kernel)
theorem isz_23 : (Try.prog.info? 23).map (·.size) = some 1 := by kernel_rfl
theorem bsl_62_1 {x0A : Option Addr} {x0n x0c : Nat} (w : World) : (Instr.buildSlice 62 1 #[(0, .slice x0A x0n x0c)]).run Try.prog w = .ok (.slice (some ⟨w.heap.size, 0, none⟩) 1 1) (w.alloc (.cells #[.slice x0A x0n x0c] 23)) := by kernel_rfl
theorem isz_55 : (Try.prog.info? 55).map (·.size) = some 2 := by kernel_rfl
theorem inf_3 : (Try.prog.info? 3).map (fun i => (i.zero, i.size, i.bytes)) = some (some (.int .i64 0), 1, 8) := by kernel_rfl
theorem en_73 : Enters 73 := enters_of Try.func73 rfl (by decide +kernel)
theorem en_74 : Enters 74 := enters_of Try.func74 rfl (by decide +kernel)
theorem en_75 : Enters 75 := enters_of Try.func75 rfl (by decide +kernel)
theorem en_76 : Enters 76 := enters_of Try.func76 rfl (by decide +kernel)
theorem en_77 : Enters 77 := enters_of Try.func77 rfl (by decide +kernel)
theorem en_78 : Enters 78 := enters_of Try.func78 rfl (by decide +kernel)
theorem en_79 : Enters 79 := enters_of Try.func79 rfl (by decide +kernel)
theorem bsl_23_4 {x0 : Int} {x1 : Int} {x2 : Int} {x3 : Int} (w : World) : (Instr.buildSlice 23 4 #[(0, .int .u8 x0), (1, .int .u8 x1), (2, .int .u8 x2), (3, .int .u8 x3)]).run Try.prog w = .ok (.slice (some ⟨w.heap.size, 0, none⟩) 4 4) (w.alloc (.cells #[.int .u8 x0, .int .u8 x1, .int .u8 x2, .int .u8 x3] 5)) := by kernel_rfl
theorem bld_80_0 {x0 : Option Addr} (w : World) : (Instr.build 80 #[(0, .pointer x0)]).run Try.prog w = .ok (.agg #[.pointer x0, .int .i64 0, .slice none 0 0]) w := by kernel_rfl
theorem en_80 : Enters 80 := enters_of Try.func80 rfl (by decide +kernel)
theorem en_81 : Enters 81 := enters_of Try.func81 rfl (by decide +kernel)
theorem bld_29_0 {x0 : Int} (w : World) : (Instr.build 29 #[(0, .int .i64 x0)]).run Try.prog w = .ok (.agg #[.int .i64 x0, .int .i64 0, .int .i64 0, .int .i64 0, .slice none 0 0]) w := by kernel_rfl
theorem fa_29_0 : FieldAt 29 0 0 := field_of Try.underlying29 rfl rfl (sz := 1) (by kernel_rfl) (by decide)
theorem en_82 : Enters 82 := enters_of Try.func82 rfl (by decide +kernel)
theorem fa_29_1 : FieldAt 29 1 1 := field_of Try.underlying29 rfl rfl (sz := 1) (by kernel_rfl) (by decide)
theorem fa_29_2 : FieldAt 29 2 2 := field_of Try.underlying29 rfl rfl (sz := 1) (by kernel_rfl) (by decide)
theorem fa_29_3 : FieldAt 29 3 3 := field_of Try.underlying29 rfl rfl (sz := 1) (by kernel_rfl) (by decide)
theorem fa_29_4 : FieldAt 29 4 4 := field_of Try.underlying29 rfl rfl (sz := 1) (by kernel_rfl) (by decide)
theorem bsl_23_2 {x0 : Int} {x1 : Int} (w : World) : (Instr.buildSlice 23 2 #[(0, .int .u8 x0), (1, .int .u8 x1)]).run Try.prog w = .ok (.slice (some ⟨w.heap.size, 0, none⟩) 2 2) (w.alloc (.cells #[.int .u8 x0, .int .u8 x1] 5)) := by kernel_rfl
theorem en_84 : Enters 84 := enters_of Try.func84 rfl (by decide +kernel)
theorem en_85 : Enters 85 := enters_of Try.func85 rfl (by decide +kernel)
theorem bsl_62_5 {x0A : Option Addr} {x0n x0c : Nat} {x1A : Option Addr} {x1n x1c : Nat} {x2A : Option Addr} {x2n x2c : Nat} {x3A : Option Addr} {x3n x3c : Nat} {x4A : Option Addr} {x4n x4c : Nat} (w : World) : (Instr.buildSlice 62 5 #[(0, .slice x0A x0n x0c), (1, .slice x1A x1n x1c), (2, .slice x2A x2n x2c), (3, .slice x3A x3n x3c), (4, .slice x4A x4n x4c)]).run Try.prog w = .ok (.slice (some ⟨w.heap.size, 0, none⟩) 5 5) (w.alloc (.cells #[.slice x0A x0n x0c, .slice x1A x1n x1c, .slice x2A x2n x2c, .slice x3A x3n x3c, .slice x4A x4n x4c] 23)) := by kernel_rfl
theorem en_83 : Enters 83 := enters_of Try.func83 rfl (by decide +kernel)
theorem en_86 : Enters 86 := enters_of Try.func86 rfl (by decide +kernel)
theorem fa_31_0 : FieldAt 31 0 0 := field_of Try.underlying31 rfl rfl (sz := 1) (by kernel_rfl) (by decide)
theorem fa_31_1 : FieldAt 31 1 1 := field_of Try.underlying31 rfl rfl (sz := 1) (by kernel_rfl) (by decide)
theorem fa_31_2 : FieldAt 31 2 2 := field_of Try.underlying31 rfl rfl (sz := 1) (by kernel_rfl) (by decide)
theorem fa_31_3 : FieldAt 31 3 3 := field_of Try.underlying31 rfl rfl (sz := 1) (by kernel_rfl) (by decide)
theorem en_87 : Enters 87 := enters_of Try.func87 rfl (by decide +kernel)
theorem en_88 : Enters 88 := enters_of Try.func88 rfl (by decide +kernel)
theorem fa_42_0 : FieldAt 42 0 0 := field_of Try.underlying42 rfl rfl (sz := 1) (by kernel_rfl) (by decide)
theorem fa_42_1 : FieldAt 42 1 1 := field_of Try.underlying42 rfl rfl (sz := 1) (by kernel_rfl) (by decide)
theorem ag_42 : AggOf 42 2 := aggOf Try.underlying42 (by kernel_rfl)
theorem sz_42 : SizeOf 42 2 := sizeOf_of (by kernel_rfl)
theorem bld_133_0 {x0f0 : Int} {x0f1 : Int} (w : World) : (Instr.build 133 #[(0, .agg #[.int .i64 x0f0, .int .i64 x0f1])]).run Try.prog w = .ok (.agg #[.int .i64 x0f0, .int .i64 x0f1, .slice none 0 0, .int .i64 0, .int .i64 0, .bool false, .int .i64 0, .bool false]) w := by kernel_rfl
theorem fa_133_1 : FieldAt 133 1 2 := field_of Try.underlying133 rfl rfl (sz := 1) (by kernel_rfl) (by decide)
theorem na_131 : NoAgg 131 := noAgg_of Try.underlying131 rfl
theorem sz_131 : SizeOf 131 1 := sizeOf_of (by kernel_rfl)
theorem bld_136_z  (w : World) : (Instr.build 136 #[]).run Try.prog w = .ok (.agg #[.slice none 0 0, .int .i64 0]) w := by kernel_rfl
theorem bsl_131_1 {x0 : Option Addr} (w : World) : (Instr.buildSlice 131 1 #[(0, .pointer x0)]).run Try.prog w = .ok (.slice (some ⟨w.heap.size, 0, none⟩) 1 1) (w.alloc (.cells #[.pointer x0] 134)) := by kernel_rfl
theorem inf_134 : (Try.prog.info? 134).map (fun i => (i.zero, i.size, i.bytes)) = some (some (.pointer none), 1, 8) := by kernel_rfl
theorem zr_42 : Zero 42 [.int .i64 0, .int .i64 0] := zero_of (z := .agg #[.int .i64 0, .int .i64 0]) (by kernel_rfl) rfl
theorem en_89 : Enters 89 := enters_of Try.func89 rfl (by decide +kernel)
theorem en_90 : Enters 90 := enters_of Try.func90 rfl (by decide +kernel)
theorem ag_136 : AggOf 136 2 := aggOf Try.underlying136 (by kernel_rfl)
theorem sz_136 : SizeOf 136 2 := sizeOf_of (by kernel_rfl)
theorem fa_136_0 : FieldAt 136 0 0 := field_of Try.underlying136 rfl rfl (sz := 1) (by kernel_rfl) (by decide)
theorem fa_133_0 : FieldAt 133 0 0 := field_of Try.underlying133 rfl rfl (sz := 2) (by kernel_rfl) (by decide)
theorem en_91 : Enters 91 := enters_of Try.func91 rfl (by decide +kernel)
theorem en_92 : Enters 92 := enters_of Try.func92 rfl (by decide +kernel)
theorem fa_133_2 : FieldAt 133 2 3 := field_of Try.underlying133 rfl rfl (sz := 1) (by kernel_rfl) (by decide)
theorem fa_133_3 : FieldAt 133 3 4 := field_of Try.underlying133 rfl rfl (sz := 1) (by kernel_rfl) (by decide)
theorem bld_58_0_1 {x0 : Int} {x1A : Option Addr} {x1n x1c : Nat} (w : World) : (Instr.build 58 #[(0, .int .i64 x0), (1, .slice x1A x1n x1c)]).run Try.prog w = .ok (.agg #[.int .i64 x0, .slice x1A x1n x1c]) w := by kernel_rfl
theorem fa_58_0 : FieldAt 58 0 0 := field_of Try.underlying58 rfl rfl (sz := 1) (by kernel_rfl) (by decide)
theorem isz_61 : (Try.prog.info? 61).map (·.size) = some 2 := by kernel_rfl
theorem sz_61 : SizeOf 61 2 := sizeOf_of (by kernel_rfl)
theorem ag_61 : AggOf 61 2 := aggOf Try.underlying61 (by kernel_rfl)
theorem zr_61 : Zero 61 [.int .i64 0, .slice none 0 0] := zero_of (z := .agg #[.int .i64 0, .slice none 0 0]) (by kernel_rfl) rfl
theorem fa_55_0 : FieldAt 55 0 0 := field_of Try.underlying55 rfl rfl (sz := 1) (by kernel_rfl) (by decide)
theorem fa_61_0 : FieldAt 61 0 0 := field_of Try.underlying61 rfl rfl (sz := 1) (by kernel_rfl) (by decide)
theorem fa_61_1 : FieldAt 61 1 1 := field_of Try.underlying61 rfl rfl (sz := 1) (by kernel_rfl) (by decide)
theorem en_93 : Enters 93 := enters_of Try.func93 rfl (by decide +kernel)
theorem en_94 : Enters 94 := enters_of Try.func94 rfl (by decide +kernel)
theorem en_95 : Enters 95 := enters_of Try.func95 rfl (by decide +kernel)
theorem en_97 : Enters 97 := enters_of Try.func97 rfl (by decide +kernel)
theorem en_98 : Enters 98 := enters_of Try.func98 rfl (by decide +kernel)
theorem bld_29_z  (w : World) : (Instr.build 29 #[]).run Try.prog w = .ok (.agg #[.int .i64 0, .int .i64 0, .int .i64 0, .int .i64 0, .slice none 0 0]) w := by kernel_rfl
theorem en_99 : Enters 99 := enters_of Try.func99 rfl (by decide +kernel)
theorem en_100 : Enters 100 := enters_of Try.func100 rfl (by decide +kernel)
theorem en_101 : Enters 101 := enters_of Try.func101 rfl (by decide +kernel)
theorem bld_31_z  (w : World) : (Instr.build 31 #[]).run Try.prog w = .ok (.agg #[.int .i64 0, .int .i64 0, .int .i64 0, .int .i64 0, .slice none 0 0]) w := by kernel_rfl
theorem en_102 : Enters 102 := enters_of Try.func102 rfl (by decide +kernel)
theorem bld_31_0_1_2_3_4 {x0 : Int} {x1 : Int} {x2 : Int} {x3 : Int} {x4A : Option Addr} {x4n x4c : Nat} (w : World) : (Instr.build 31 #[(0, .int .i64 x0), (1, .int .i64 x1), (2, .int .i64 x2), (3, .int .i64 x3), (4, .slice x4A x4n x4c)]).run Try.prog w = .ok (.agg #[.int .i64 x0, .int .i64 x1, .int .i64 x2, .int .i64 x3, .slice x4A x4n x4c]) w := by kernel_rfl
theorem bsl_62_2 {x0A : Option Addr} {x0n x0c : Nat} {x1A : Option Addr} {x1n x1c : Nat} (w : World) : (Instr.buildSlice 62 2 #[(0, .slice x0A x0n x0c), (1, .slice x1A x1n x1c)]).run Try.prog w = .ok (.slice (some ⟨w.heap.size, 0, none⟩) 2 2) (w.alloc (.cells #[.slice x0A x0n x0c, .slice x1A x1n x1c] 23)) := by kernel_rfl
theorem en_103 : Enters 103 := enters_of Try.func103 rfl (by decide +kernel)
theorem bld_149_0_1_2_3 {x0 : Option Addr} {x1 : Int} {x2 : Int} {x3 : Int} (w : World) : (Instr.build 149 #[(0, .pointer x0), (1, .int .i64 x1), (2, .int .i64 x2), (3, .int .i64 x3)]).run Try.prog w = .ok (.agg #[.pointer x0, .int .i64 x1, .int .i64 x2, .int .i64 x3, .int .i64 0, .int .i64 0, .int .i64 0, .int .i64 0, .slice none 0 0, .bool false]) w := by kernel_rfl
theorem en_104 : Enters 104 := enters_of Try.func104 rfl (by decide +kernel)
theorem en_105 : Enters 105 := enters_of Try.func105 rfl (by decide +kernel)
theorem en_106 : Enters 106 := enters_of Try.func106 rfl (by decide +kernel)
theorem fa_155_1 : FieldAt 155 1 1 := field_of Try.underlying155 rfl rfl (sz := 1) (by kernel_rfl) (by decide)
theorem na_4 : NoAgg 4 := noAgg_of Try.underlying4 rfl
theorem sz_4 : SizeOf 4 1 := sizeOf_of (by kernel_rfl)
theorem fa_155_2 : FieldAt 155 2 2 := field_of Try.underlying155 rfl rfl (sz := 1) (by kernel_rfl) (by decide)
theorem fa_155_0 : FieldAt 155 0 0 := field_of Try.underlying155 rfl rfl (sz := 1) (by kernel_rfl) (by decide)
theorem fa_155_3 : FieldAt 155 3 3 := field_of Try.underlying155 rfl rfl (sz := 1) (by kernel_rfl) (by decide)
theorem fa_155_4 : FieldAt 155 4 4 := field_of Try.underlying155 rfl rfl (sz := 1) (by kernel_rfl) (by decide)
theorem fa_149_4 : FieldAt 149 4 4 := field_of Try.underlying149 rfl rfl (sz := 1) (by kernel_rfl) (by decide)
theorem fa_149_5 : FieldAt 149 5 5 := field_of Try.underlying149 rfl rfl (sz := 1) (by kernel_rfl) (by decide)
theorem fa_149_7 : FieldAt 149 7 7 := field_of Try.underlying149 rfl rfl (sz := 1) (by kernel_rfl) (by decide)
theorem fa_149_8 : FieldAt 149 8 8 := field_of Try.underlying149 rfl rfl (sz := 1) (by kernel_rfl) (by decide)
theorem fa_149_6 : FieldAt 149 6 6 := field_of Try.underlying149 rfl rfl (sz := 1) (by kernel_rfl) (by decide)
theorem en_107 : Enters 107 := enters_of Try.func107 rfl (by decide +kernel)
theorem en_108 : Enters 108 := enters_of Try.func108 rfl (by decide +kernel)
theorem en_109 : Enters 109 := enters_of Try.func109 rfl (by decide +kernel)
theorem en_110 : Enters 110 := enters_of Try.func110 rfl (by decide +kernel)
theorem en_112 : Enters 112 := enters_of Try.func112 rfl (by decide +kernel)
theorem en_111 : Enters 111 := enters_of Try.func111 rfl (by decide +kernel)
theorem isz_134 : (Try.prog.info? 134).map (·.size) = some 1 := by kernel_rfl
theorem sz_134 : SizeOf 134 1 := sizeOf_of (by kernel_rfl)
theorem na_134 : NoAgg 134 := noAgg_of Try.underlying134 rfl
theorem fa_136_1 : FieldAt 136 1 1 := field_of Try.underlying136 rfl rfl (sz := 1) (by kernel_rfl) (by decide)
theorem en_113 : Enters 113 := enters_of Try.func113 rfl (by decide +kernel)
theorem en_114 : Enters 114 := enters_of Try.func114 rfl (by decide +kernel)
theorem en_115 : Enters 115 := enters_of Try.func115 rfl (by decide +kernel)
theorem en_116 : Enters 116 := enters_of Try.func116 rfl (by decide +kernel)
theorem bld_136_0_1 {x0A : Option Addr} {x0n x0c : Nat} {x1 : Int} (w : World) : (Instr.build 136 #[(0, .slice x0A x0n x0c), (1, .int .i64 x1)]).run Try.prog w = .ok (.agg #[.slice x0A x0n x0c, .int .i64 x1]) w := by kernel_rfl
theorem fa_133_4 : FieldAt 133 4 5 := field_of Try.underlying133 rfl rfl (sz := 1) (by kernel_rfl) (by decide)
theorem fa_133_5 : FieldAt 133 5 6 := field_of Try.underlying133 rfl rfl (sz := 1) (by kernel_rfl) (by decide)
theorem bld_29_0_1_2 {x0 : Int} {x1 : Int} {x2 : Int} (w : World) : (Instr.build 29 #[(0, .int .i64 x0), (1, .int .i64 x1), (2, .int .i64 x2)]).run Try.prog w = .ok (.agg #[.int .i64 x0, .int .i64 x1, .int .i64 x2, .int .i64 0, .slice none 0 0]) w := by kernel_rfl
theorem fa_149_0 : FieldAt 149 0 0 := field_of Try.underlying149 rfl rfl (sz := 1) (by kernel_rfl) (by decide)
theorem na_38 : NoAgg 38 := noAgg_of Try.underlying38 rfl
theorem sz_38 : SizeOf 38 1 := sizeOf_of (by kernel_rfl)
theorem fa_149_9 : FieldAt 149 9 9 := field_of Try.underlying149 rfl rfl (sz := 1) (by kernel_rfl) (by decide)
theorem fa_133_6 : FieldAt 133 6 7 := field_of Try.underlying133 rfl rfl (sz := 1) (by kernel_rfl) (by decide)
theorem ag_133 : AggOf 133 8 := aggOf Try.underlying133 (by kernel_rfl)
theorem sz_133 : SizeOf 133 8 := sizeOf_of (by kernel_rfl)
theorem zr_133 : Zero 133 [.int .i64 0, .int .i64 0, .slice none 0 0, .int .i64 0, .int .i64 0, .bool false, .int .i64 0, .bool false] := zero_of (z := .agg #[.int .i64 0, .int .i64 0, .slice none 0 0, .int .i64 0, .int .i64 0, .bool false, .int .i64 0, .bool false]) (by kernel_rfl) rfl
theorem en_117 : Enters 117 := enters_of Try.func117 rfl (by decide +kernel)
theorem en_118 : Enters 118 := enters_of Try.func118 rfl (by decide +kernel)
theorem bld_55_z  (w : World) : (Instr.build 55 #[]).run Try.prog w = .ok (.agg #[.int .i64 0, .slice none 0 0]) w := by kernel_rfl
theorem en_119 : Enters 119 := enters_of Try.func119 rfl (by decide +kernel)
theorem isz_31 : (Try.prog.info? 31).map (·.size) = some 5 := by kernel_rfl
theorem bsl_167_1 {x0f0 : Int} {x0f1 : Int} {x0f2 : Int} {x0f3 : Int} {x0f4A : Option Addr} {x0f4n x0f4c : Nat} (w : World) : (Instr.buildSlice 167 1 #[(0, .agg #[.int .i64 x0f0, .int .i64 x0f1, .int .i64 x0f2, .int .i64 x0f3, .slice x0f4A x0f4n x0f4c])]).run Try.prog w = .ok (.slice (some ⟨w.heap.size, 0, none⟩) 1 1) (w.alloc (.cells #[.int .i64 x0f0, .int .i64 x0f1, .int .i64 x0f2, .int .i64 x0f3, .slice x0f4A x0f4n x0f4c] 31)) := by kernel_rfl
theorem inf_31 : (Try.prog.info? 31).map (fun i => (i.zero, i.size, i.bytes)) = some (some (.agg #[.int .i64 0, .int .i64 0, .int .i64 0, .int .i64 0, .slice none 0 0]), 5, 56) := by kernel_rfl
theorem en_120 : Enters 120 := enters_of Try.func120 rfl (by decide +kernel)
theorem en_121 : Enters 121 := enters_of Try.func121 rfl (by decide +kernel)
theorem en_122 : Enters 122 := enters_of Try.func122 rfl (by decide +kernel)
theorem en_123 : Enters 123 := enters_of Try.func123 rfl (by decide +kernel)
theorem bld_173_0_1_2 {x0 : Int} {x1 : Int} {x2 : Int} (w : World) : (Instr.build 173 #[(0, .int .i64 x0), (1, .int .i64 x1), (2, .int .i64 x2)]).run Try.prog w = .ok (.agg #[.int .i64 x0, .int .i64 x1, .int .i64 x2]) w := by kernel_rfl
theorem bld_175_0_1_2_3 {x0 : Option Addr} {x1f0 : Int} {x1f1 : Int} {x1f2 : Int} {x2 : Int} {x3 : Int} (w : World) : (Instr.build 175 #[(0, .pointer x0), (1, .agg #[.int .i64 x1f0, .int .i64 x1f1, .int .i64 x1f2]), (2, .int .i64 x2), (3, .int .i64 x3)]).run Try.prog w = .ok (.agg #[.pointer x0, .int .i64 x1f0, .int .i64 x1f1, .int .i64 x1f2, .int .i64 x2, .int .i64 x3, .slice none 0 0, .int .i64 0, .bool false]) w := by kernel_rfl
theorem en_124 : Enters 124 := enters_of Try.func124 rfl (by decide +kernel)
theorem en_125 : Enters 125 := enters_of Try.func125 rfl (by decide +kernel)
theorem en_126 : Enters 126 := enters_of Try.func126 rfl (by decide +kernel)
theorem fa_175_5 : FieldAt 175 5 7 := field_of Try.underlying175 rfl rfl (sz := 1) (by kernel_rfl) (by decide)
theorem fa_175_3 : FieldAt 175 3 5 := field_of Try.underlying175 rfl rfl (sz := 1) (by kernel_rfl) (by decide)
theorem fa_175_4 : FieldAt 175 4 6 := field_of Try.underlying175 rfl rfl (sz := 1) (by kernel_rfl) (by decide)
theorem fa_175_0 : FieldAt 175 0 0 := field_of Try.underlying175 rfl rfl (sz := 1) (by kernel_rfl) (by decide)
theorem fa_175_1 : FieldAt 175 1 1 := field_of Try.underlying175 rfl rfl (sz := 3) (by kernel_rfl) (by decide)
theorem fa_175_2 : FieldAt 175 2 4 := field_of Try.underlying175 rfl rfl (sz := 1) (by kernel_rfl) (by decide)
theorem en_127 : Enters 127 := enters_of Try.func127 rfl (by decide +kernel)
theorem fa_175_6 : FieldAt 175 6 8 := field_of Try.underlying175 rfl rfl (sz := 1) (by kernel_rfl) (by decide)
theorem en_128 : Enters 128 := enters_of Try.func128 rfl (by decide +kernel)
theorem en_129 : Enters 129 := enters_of Try.func129 rfl (by decide +kernel)
theorem en_130 : Enters 130 := enters_of Try.func130 rfl (by decide +kernel)
theorem en_131 : Enters 131 := enters_of Try.func131 rfl (by decide +kernel)
theorem en_132 : Enters 132 := enters_of Try.func132 rfl (by decide +kernel)
theorem en_133 : Enters 133 := enters_of Try.func133 rfl (by decide +kernel)
theorem en_134 : Enters 134 := enters_of Try.func134 rfl (by decide +kernel)
theorem en_96 : Enters 96 := enters_of Try.func96 rfl (by decide +kernel)
theorem en_135 : Enters 135 := enters_of Try.func135 rfl (by decide +kernel)
theorem fa_149_2 : FieldAt 149 2 2 := field_of Try.underlying149 rfl rfl (sz := 1) (by kernel_rfl) (by decide)
theorem en_136 : Enters 136 := enters_of Try.func136 rfl (by decide +kernel)
theorem fa_149_3 : FieldAt 149 3 3 := field_of Try.underlying149 rfl rfl (sz := 1) (by kernel_rfl) (by decide)
theorem en_137 : Enters 137 := enters_of Try.func137 rfl (by decide +kernel)
theorem bld_155_1 {x1 : Bool} (w : World) : (Instr.build 155 #[(1, .bool x1)]).run Try.prog w = .ok (.agg #[.bool false, .bool x1, .int .i64 0, .int .i64 0, .slice none 0 0, .slice none 0 0]) w := by kernel_rfl
theorem fa_155_5 : FieldAt 155 5 5 := field_of Try.underlying155 rfl rfl (sz := 1) (by kernel_rfl) (by decide)
theorem na_153 : NoAgg 153 := noAgg_of Try.underlying153 rfl
theorem sz_153 : SizeOf 153 1 := sizeOf_of (by kernel_rfl)
theorem bsl_153_1 {x0f0 : Int} {x0f1 : Int} {x0f2 : Int} {x0f3 : Int} {x0f4A : Option Addr} {x0f4n x0f4c : Nat} (w : World) : (Instr.buildSlice 153 1 #[(0, .agg #[.int .i64 x0f0, .int .i64 x0f1, .int .i64 x0f2, .int .i64 x0f3, .slice x0f4A x0f4n x0f4c])]).run Try.prog w = .ok (.slice (some ⟨w.heap.size, 0, none⟩) 1 1) (w.alloc (.cells #[.int .i64 x0f0, .int .i64 x0f1, .int .i64 x0f2, .int .i64 x0f3, .slice x0f4A x0f4n x0f4c] 29)) := by kernel_rfl
theorem inf_29 : (Try.prog.info? 29).map (fun i => (i.zero, i.size, i.bytes)) = some (some (.agg #[.int .i64 0, .int .i64 0, .int .i64 0, .int .i64 0, .slice none 0 0]), 5, 56) := by kernel_rfl
theorem en_138 : Enters 138 := enters_of Try.func138 rfl (by decide +kernel)
theorem en_139 : Enters 139 := enters_of Try.func139 rfl (by decide +kernel)
theorem en_140 : Enters 140 := enters_of Try.func140 rfl (by decide +kernel)
theorem en_141 : Enters 141 := enters_of Try.func141 rfl (by decide +kernel)
theorem en_142 : Enters 142 := enters_of Try.func142 rfl (by decide +kernel)
theorem en_143 : Enters 143 := enters_of Try.func143 rfl (by decide +kernel)
theorem bld_29_0_1_2_4 {x0 : Int} {x1 : Int} {x2 : Int} {x4A : Option Addr} {x4n x4c : Nat} (w : World) : (Instr.build 29 #[(0, .int .i64 x0), (1, .int .i64 x1), (2, .int .i64 x2), (4, .slice x4A x4n x4c)]).run Try.prog w = .ok (.agg #[.int .i64 x0, .int .i64 x1, .int .i64 x2, .int .i64 0, .slice x4A x4n x4c]) w := by kernel_rfl
theorem en_144 : Enters 144 := enters_of Try.func144 rfl (by decide +kernel)
theorem en_145 : Enters 145 := enters_of Try.func145 rfl (by decide +kernel)
theorem en_146 : Enters 146 := enters_of Try.func146 rfl (by decide +kernel)
theorem en_147 : Enters 147 := enters_of Try.func147 rfl (by decide +kernel)
theorem bld_29_0_2 {x0 : Int} {x2 : Int} (w : World) : (Instr.build 29 #[(0, .int .i64 x0), (2, .int .i64 x2)]).run Try.prog w = .ok (.agg #[.int .i64 x0, .int .i64 0, .int .i64 x2, .int .i64 0, .slice none 0 0]) w := by kernel_rfl
theorem bld_29_0_2_4 {x0 : Int} {x2 : Int} {x4A : Option Addr} {x4n x4c : Nat} (w : World) : (Instr.build 29 #[(0, .int .i64 x0), (2, .int .i64 x2), (4, .slice x4A x4n x4c)]).run Try.prog w = .ok (.agg #[.int .i64 x0, .int .i64 0, .int .i64 x2, .int .i64 0, .slice x4A x4n x4c]) w := by kernel_rfl
theorem bld_29_0_2_3_4 {x0 : Int} {x2 : Int} {x3 : Int} {x4A : Option Addr} {x4n x4c : Nat} (w : World) : (Instr.build 29 #[(0, .int .i64 x0), (2, .int .i64 x2), (3, .int .i64 x3), (4, .slice x4A x4n x4c)]).run Try.prog w = .ok (.agg #[.int .i64 x0, .int .i64 0, .int .i64 x2, .int .i64 x3, .slice x4A x4n x4c]) w := by kernel_rfl
theorem isz_29 : (Try.prog.info? 29).map (·.size) = some 5 := by kernel_rfl
theorem bld_192_z  (w : World) : (Instr.build 192 #[]).run Try.prog w = .ok (.agg #[.int .u32 0]) w := by kernel_rfl
theorem fa_192_0 : FieldAt 192 0 0 := field_of Try.underlying192 rfl rfl (sz := 1) (by kernel_rfl) (by decide)
theorem na_125 : NoAgg 125 := noAgg_of Try.underlying125 rfl
theorem sz_125 : SizeOf 125 1 := sizeOf_of (by kernel_rfl)
theorem fa_149_1 : FieldAt 149 1 1 := field_of Try.underlying149 rfl rfl (sz := 1) (by kernel_rfl) (by decide)
theorem en_148 : Enters 148 := enters_of Try.func148 rfl (by decide +kernel)
theorem bsl_195_2 {x0A : Option Addr} {x0n x0c : Nat} {x1A : Option Addr} {x1n x1c : Nat} (w : World) : (Instr.buildSlice 195 2 #[(0, .slice x0A x0n x0c), (1, .slice x1A x1n x1c)]).run Try.prog w = .ok (.slice (some ⟨w.heap.size, 0, none⟩) 2 2) (w.alloc (.cells #[.slice x0A x0n x0c, .slice x1A x1n x1c] 62)) := by kernel_rfl
theorem en_149 : Enters 149 := enters_of Try.func149 rfl (by decide +kernel)
theorem en_150 : Enters 150 := enters_of Try.func150 rfl (by decide +kernel)
theorem isz_62 : (Try.prog.info? 62).map (·.size) = some 1 := by kernel_rfl
theorem en_151 : Enters 151 := enters_of Try.func151 rfl (by decide +kernel)
end Go.Proofs.Ytfpnodboebpemaa

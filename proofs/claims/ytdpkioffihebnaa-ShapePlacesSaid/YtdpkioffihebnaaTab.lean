/-
  The program's tables as lists that reduce; written by a program of the prover's. No statement is proved here.
-/
import Derived.Test.YtdpkioffihebnaaLibD
import Derived.Test.YtdpkioffihebnaaChecked
import Derived.KernelRfl
namespace Go.Proofs.Ytdpkioffihebnaa
open Go
def tyl : List (Nat × Ty) := [(2, Ty.int .i64),
  (3, Ty.int .i64),
  (4, Ty.bool),
  (5, Ty.int .u8),
  (9, Ty.string),
  (12, Ty.int .u64),
  (21, Ty.int .i32),
  (22, Ty.slice 3),
  (24, Ty.int .i64),
  (38, Ty.slice 22),
  (48, Ty.slice 83),
  (49, Ty.struct [(22, 0), (48, 1), (3, 2)]),
  (50, Ty.struct [(22, 0), (48, 1), (3, 2)]),
  (52, Ty.slice 107),
  (53, Ty.struct [(52, 0), (3, 1)]),
  (54, Ty.struct [(52, 0), (3, 1)]),
  (55, Ty.slice 205),
  (56, Ty.slice 2),
  (57, Ty.slice 74),
  (58, Ty.slice 21),
  (59, Ty.slice 63),
  (60, Ty.struct [(3, 0), (54, 1), (55, 3), (56, 4), (57, 5), (58, 6), (59, 7)]),
  (61, Ty.struct [(3, 0), (54, 1), (55, 3), (56, 4), (57, 5), (58, 6), (59, 7)]),
  (62, Ty.struct [(22, 0), (61, 1)]),
  (63, Ty.struct [(22, 0), (61, 1)]),
  (74, Ty.float),
  (81, Ty.slice 50),
  (82, Ty.struct [(3, 0), (74, 1), (21, 2), (81, 3)]),
  (83, Ty.struct [(3, 0), (74, 1), (21, 2), (81, 3)]),
  (97, Ty.slice 5),
  (102, Ty.slice 61),
  (107, Ty.int .u64),
  (110, Ty.slice 4),
  (135, Ty.int .u16),
  (137, Ty.struct [(4, 0), (63, 1)]),
  (138, Ty.struct [(4, 0), (63, 1)]),
  (139, Ty.slice 138),
  (171, Ty.int .u32),
  (174, Ty.pointer 218),
  (190, Ty.pointer 102),
  (191, Ty.pointer 3),
  (205, Ty.int .i8),
  (216, Ty.int .u64),
  (217, Ty.struct [(61, 0), (22, 8), (107, 9)]),
  (218, Ty.struct [(61, 0), (22, 8), (107, 9)]),
  (235, Ty.pointer 5)]
def infl : List (Nat × Inf) := [(2, ⟨1, 8, (.int .i64 0)⟩),
  (3, ⟨1, 8, (.int .i64 0)⟩),
  (4, ⟨1, 1, (.bool false)⟩),
  (5, ⟨1, 1, (.int .u8 0)⟩),
  (9, ⟨1, 16, (.string ⟨#[]⟩)⟩),
  (12, ⟨1, 8, (.int .u64 0)⟩),
  (21, ⟨1, 4, (.int .i32 0)⟩),
  (22, ⟨1, 24, (.slice none 0 0)⟩),
  (24, ⟨1, 8, (.int .i64 0)⟩),
  (38, ⟨1, 24, (.slice none 0 0)⟩),
  (48, ⟨1, 24, (.slice none 0 0)⟩),
  (49, ⟨3, 56, (.agg #[(.slice none 0 0), (.slice none 0 0), (.int .i64 0)])⟩),
  (50, ⟨3, 56, (.agg #[(.slice none 0 0), (.slice none 0 0), (.int .i64 0)])⟩),
  (52, ⟨1, 24, (.slice none 0 0)⟩),
  (53, ⟨2, 32, (.agg #[(.slice none 0 0), (.int .i64 0)])⟩),
  (54, ⟨2, 32, (.agg #[(.slice none 0 0), (.int .i64 0)])⟩),
  (55, ⟨1, 24, (.slice none 0 0)⟩),
  (56, ⟨1, 24, (.slice none 0 0)⟩),
  (57, ⟨1, 24, (.slice none 0 0)⟩),
  (58, ⟨1, 24, (.slice none 0 0)⟩),
  (59, ⟨1, 24, (.slice none 0 0)⟩),
  (60, ⟨8, 160, (.agg #[(.int .i64 0), (.slice none 0 0), (.int .i64 0), (.slice none 0 0), (.slice none 0 0), (.slice none 0 0), (.slice none 0 0), (.slice none 0 0)])⟩),
  (61, ⟨8, 160, (.agg #[(.int .i64 0), (.slice none 0 0), (.int .i64 0), (.slice none 0 0), (.slice none 0 0), (.slice none 0 0), (.slice none 0 0), (.slice none 0 0)])⟩),
  (62, ⟨9, 184, (.agg #[(.slice none 0 0), (.int .i64 0), (.slice none 0 0), (.int .i64 0), (.slice none 0 0), (.slice none 0 0), (.slice none 0 0), (.slice none 0 0), (.slice none 0 0)])⟩),
  (63, ⟨9, 184, (.agg #[(.slice none 0 0), (.int .i64 0), (.slice none 0 0), (.int .i64 0), (.slice none 0 0), (.slice none 0 0), (.slice none 0 0), (.slice none 0 0), (.slice none 0 0)])⟩),
  (74, ⟨1, 8, (.float .f64 0)⟩),
  (81, ⟨1, 24, (.slice none 0 0)⟩),
  (82, ⟨4, 48, (.agg #[(.int .i64 0), (.float .f64 0), (.int .i32 0), (.slice none 0 0)])⟩),
  (83, ⟨4, 48, (.agg #[(.int .i64 0), (.float .f64 0), (.int .i32 0), (.slice none 0 0)])⟩),
  (97, ⟨1, 24, (.slice none 0 0)⟩),
  (102, ⟨1, 24, (.slice none 0 0)⟩),
  (107, ⟨1, 8, (.int .u64 0)⟩),
  (110, ⟨1, 24, (.slice none 0 0)⟩),
  (135, ⟨1, 2, (.int .u16 0)⟩),
  (137, ⟨10, 192, (.agg #[(.bool false), (.slice none 0 0), (.int .i64 0), (.slice none 0 0), (.int .i64 0), (.slice none 0 0), (.slice none 0 0), (.slice none 0 0), (.slice none 0 0), (.slice none 0 0)])⟩),
  (138, ⟨10, 192, (.agg #[(.bool false), (.slice none 0 0), (.int .i64 0), (.slice none 0 0), (.int .i64 0), (.slice none 0 0), (.slice none 0 0), (.slice none 0 0), (.slice none 0 0), (.slice none 0 0)])⟩),
  (139, ⟨1, 24, (.slice none 0 0)⟩),
  (171, ⟨1, 4, (.int .u32 0)⟩),
  (174, ⟨1, 8, (.pointer none)⟩),
  (190, ⟨1, 8, (.pointer none)⟩),
  (191, ⟨1, 8, (.pointer none)⟩),
  (205, ⟨1, 1, (.int .i8 0)⟩),
  (216, ⟨1, 8, (.int .u64 0)⟩),
  (217, ⟨10, 192, (.agg #[(.int .i64 0), (.slice none 0 0), (.int .i64 0), (.slice none 0 0), (.slice none 0 0), (.slice none 0 0), (.slice none 0 0), (.slice none 0 0), (.slice none 0 0), (.int .u64 0)])⟩),
  (218, ⟨10, 192, (.agg #[(.int .i64 0), (.slice none 0 0), (.int .i64 0), (.slice none 0 0), (.slice none 0 0), (.slice none 0 0), (.slice none 0 0), (.slice none 0 0), (.slice none 0 0), (.int .u64 0)])⟩),
  (235, ⟨1, 8, (.pointer none)⟩)]
theorem ty2 : Ty.is Try.prog 2 (Ty.int .i64) := show Try.prog.underlying 2 = some (.int .i64) from by kernel_rfl
theorem ty3 : Ty.is Try.prog 3 (Ty.int .i64) := show Try.prog.underlying 3 = some (.int .i64) from by kernel_rfl
theorem ty4 : Ty.is Try.prog 4 (Ty.bool) := show Try.prog.underlying 4 = some (.bool) from by kernel_rfl
theorem ty5 : Ty.is Try.prog 5 (Ty.int .u8) := show Try.prog.underlying 5 = some (.int .u8) from by kernel_rfl
theorem ty9 : Ty.is Try.prog 9 (Ty.string) := show Try.prog.underlying 9 = some (.string) from by kernel_rfl
theorem ty12 : Ty.is Try.prog 12 (Ty.int .u64) := show Try.prog.underlying 12 = some (.int .u64) from by kernel_rfl
theorem ty21 : Ty.is Try.prog 21 (Ty.int .i32) := show Try.prog.underlying 21 = some (.int .i32) from by kernel_rfl
theorem ty22 : Ty.is Try.prog 22 (Ty.slice 3) := show Try.prog.underlying 22 = some (.slice 3) from by kernel_rfl
theorem ty24 : Ty.is Try.prog 24 (Ty.int .i64) := show Try.prog.underlying 24 = some (.int .i64) from by kernel_rfl
theorem ty38 : Ty.is Try.prog 38 (Ty.slice 22) := show Try.prog.underlying 38 = some (.slice 22) from by kernel_rfl
theorem ty48 : Ty.is Try.prog 48 (Ty.slice 83) := show Try.prog.underlying 48 = some (.slice 83) from by kernel_rfl
theorem ty49 : Ty.is Try.prog 49 (Ty.struct [(22, 0), (48, 1), (3, 2)]) := ⟨match Try.prog.underlying 49 with | some (.struct a) => a | _ => #[], by kernel_rfl, by kernel_rfl⟩
theorem ty50 : Ty.is Try.prog 50 (Ty.struct [(22, 0), (48, 1), (3, 2)]) := ⟨match Try.prog.underlying 50 with | some (.struct a) => a | _ => #[], by kernel_rfl, by kernel_rfl⟩
theorem ty52 : Ty.is Try.prog 52 (Ty.slice 107) := show Try.prog.underlying 52 = some (.slice 107) from by kernel_rfl
theorem ty53 : Ty.is Try.prog 53 (Ty.struct [(52, 0), (3, 1)]) := ⟨match Try.prog.underlying 53 with | some (.struct a) => a | _ => #[], by kernel_rfl, by kernel_rfl⟩
theorem ty54 : Ty.is Try.prog 54 (Ty.struct [(52, 0), (3, 1)]) := ⟨match Try.prog.underlying 54 with | some (.struct a) => a | _ => #[], by kernel_rfl, by kernel_rfl⟩
theorem ty55 : Ty.is Try.prog 55 (Ty.slice 205) := show Try.prog.underlying 55 = some (.slice 205) from by kernel_rfl
theorem ty56 : Ty.is Try.prog 56 (Ty.slice 2) := show Try.prog.underlying 56 = some (.slice 2) from by kernel_rfl
theorem ty57 : Ty.is Try.prog 57 (Ty.slice 74) := show Try.prog.underlying 57 = some (.slice 74) from by kernel_rfl
theorem ty58 : Ty.is Try.prog 58 (Ty.slice 21) := show Try.prog.underlying 58 = some (.slice 21) from by kernel_rfl
theorem ty59 : Ty.is Try.prog 59 (Ty.slice 63) := show Try.prog.underlying 59 = some (.slice 63) from by kernel_rfl
theorem ty60 : Ty.is Try.prog 60 (Ty.struct [(3, 0), (54, 1), (55, 3), (56, 4), (57, 5), (58, 6), (59, 7)]) := ⟨match Try.prog.underlying 60 with | some (.struct a) => a | _ => #[], by kernel_rfl, by kernel_rfl⟩
theorem ty61 : Ty.is Try.prog 61 (Ty.struct [(3, 0), (54, 1), (55, 3), (56, 4), (57, 5), (58, 6), (59, 7)]) := ⟨match Try.prog.underlying 61 with | some (.struct a) => a | _ => #[], by kernel_rfl, by kernel_rfl⟩
theorem ty62 : Ty.is Try.prog 62 (Ty.struct [(22, 0), (61, 1)]) := ⟨match Try.prog.underlying 62 with | some (.struct a) => a | _ => #[], by kernel_rfl, by kernel_rfl⟩
theorem ty63 : Ty.is Try.prog 63 (Ty.struct [(22, 0), (61, 1)]) := ⟨match Try.prog.underlying 63 with | some (.struct a) => a | _ => #[], by kernel_rfl, by kernel_rfl⟩
theorem ty74 : Ty.is Try.prog 74 (Ty.float) := show Try.prog.underlying 74 = some (.float .f64) from by kernel_rfl
theorem ty81 : Ty.is Try.prog 81 (Ty.slice 50) := show Try.prog.underlying 81 = some (.slice 50) from by kernel_rfl
theorem ty82 : Ty.is Try.prog 82 (Ty.struct [(3, 0), (74, 1), (21, 2), (81, 3)]) := ⟨match Try.prog.underlying 82 with | some (.struct a) => a | _ => #[], by kernel_rfl, by kernel_rfl⟩
theorem ty83 : Ty.is Try.prog 83 (Ty.struct [(3, 0), (74, 1), (21, 2), (81, 3)]) := ⟨match Try.prog.underlying 83 with | some (.struct a) => a | _ => #[], by kernel_rfl, by kernel_rfl⟩
theorem ty97 : Ty.is Try.prog 97 (Ty.slice 5) := show Try.prog.underlying 97 = some (.slice 5) from by kernel_rfl
theorem ty102 : Ty.is Try.prog 102 (Ty.slice 61) := show Try.prog.underlying 102 = some (.slice 61) from by kernel_rfl
theorem ty107 : Ty.is Try.prog 107 (Ty.int .u64) := show Try.prog.underlying 107 = some (.int .u64) from by kernel_rfl
theorem ty110 : Ty.is Try.prog 110 (Ty.slice 4) := show Try.prog.underlying 110 = some (.slice 4) from by kernel_rfl
theorem ty135 : Ty.is Try.prog 135 (Ty.int .u16) := show Try.prog.underlying 135 = some (.int .u16) from by kernel_rfl
theorem ty137 : Ty.is Try.prog 137 (Ty.struct [(4, 0), (63, 1)]) := ⟨match Try.prog.underlying 137 with | some (.struct a) => a | _ => #[], by kernel_rfl, by kernel_rfl⟩
theorem ty138 : Ty.is Try.prog 138 (Ty.struct [(4, 0), (63, 1)]) := ⟨match Try.prog.underlying 138 with | some (.struct a) => a | _ => #[], by kernel_rfl, by kernel_rfl⟩
theorem ty139 : Ty.is Try.prog 139 (Ty.slice 138) := show Try.prog.underlying 139 = some (.slice 138) from by kernel_rfl
theorem ty171 : Ty.is Try.prog 171 (Ty.int .u32) := show Try.prog.underlying 171 = some (.int .u32) from by kernel_rfl
theorem ty174 : Ty.is Try.prog 174 (Ty.pointer 218) := show Try.prog.underlying 174 = some (.pointer 218) from by kernel_rfl
theorem ty190 : Ty.is Try.prog 190 (Ty.pointer 102) := show Try.prog.underlying 190 = some (.pointer 102) from by kernel_rfl
theorem ty191 : Ty.is Try.prog 191 (Ty.pointer 3) := show Try.prog.underlying 191 = some (.pointer 3) from by kernel_rfl
theorem ty205 : Ty.is Try.prog 205 (Ty.int .i8) := show Try.prog.underlying 205 = some (.int .i8) from by kernel_rfl
theorem ty216 : Ty.is Try.prog 216 (Ty.int .u64) := show Try.prog.underlying 216 = some (.int .u64) from by kernel_rfl
theorem ty217 : Ty.is Try.prog 217 (Ty.struct [(61, 0), (22, 8), (107, 9)]) := ⟨match Try.prog.underlying 217 with | some (.struct a) => a | _ => #[], by kernel_rfl, by kernel_rfl⟩
theorem ty218 : Ty.is Try.prog 218 (Ty.struct [(61, 0), (22, 8), (107, 9)]) := ⟨match Try.prog.underlying 218 with | some (.struct a) => a | _ => #[], by kernel_rfl, by kernel_rfl⟩
theorem ty235 : Ty.is Try.prog 235 (Ty.pointer 5) := show Try.prog.underlying 235 = some (.pointer 5) from by kernel_rfl
theorem inf2 : Inf.is Try.prog 2 ⟨1, 8, (.int .i64 0)⟩ := ⟨(Try.prog.info? 2).getD default, by kernel_rfl, by kernel_rfl, by kernel_rfl, by kernel_rfl⟩
theorem inf3 : Inf.is Try.prog 3 ⟨1, 8, (.int .i64 0)⟩ := ⟨(Try.prog.info? 3).getD default, by kernel_rfl, by kernel_rfl, by kernel_rfl, by kernel_rfl⟩
theorem inf4 : Inf.is Try.prog 4 ⟨1, 1, (.bool false)⟩ := ⟨(Try.prog.info? 4).getD default, by kernel_rfl, by kernel_rfl, by kernel_rfl, by kernel_rfl⟩
theorem inf5 : Inf.is Try.prog 5 ⟨1, 1, (.int .u8 0)⟩ := ⟨(Try.prog.info? 5).getD default, by kernel_rfl, by kernel_rfl, by kernel_rfl, by kernel_rfl⟩
theorem inf9 : Inf.is Try.prog 9 ⟨1, 16, (.string ⟨#[]⟩)⟩ := ⟨(Try.prog.info? 9).getD default, by kernel_rfl, by kernel_rfl, by kernel_rfl, by kernel_rfl⟩
theorem inf12 : Inf.is Try.prog 12 ⟨1, 8, (.int .u64 0)⟩ := ⟨(Try.prog.info? 12).getD default, by kernel_rfl, by kernel_rfl, by kernel_rfl, by kernel_rfl⟩
theorem inf21 : Inf.is Try.prog 21 ⟨1, 4, (.int .i32 0)⟩ := ⟨(Try.prog.info? 21).getD default, by kernel_rfl, by kernel_rfl, by kernel_rfl, by kernel_rfl⟩
theorem inf22 : Inf.is Try.prog 22 ⟨1, 24, (.slice none 0 0)⟩ := ⟨(Try.prog.info? 22).getD default, by kernel_rfl, by kernel_rfl, by kernel_rfl, by kernel_rfl⟩
theorem inf24 : Inf.is Try.prog 24 ⟨1, 8, (.int .i64 0)⟩ := ⟨(Try.prog.info? 24).getD default, by kernel_rfl, by kernel_rfl, by kernel_rfl, by kernel_rfl⟩
theorem inf38 : Inf.is Try.prog 38 ⟨1, 24, (.slice none 0 0)⟩ := ⟨(Try.prog.info? 38).getD default, by kernel_rfl, by kernel_rfl, by kernel_rfl, by kernel_rfl⟩
theorem inf48 : Inf.is Try.prog 48 ⟨1, 24, (.slice none 0 0)⟩ := ⟨(Try.prog.info? 48).getD default, by kernel_rfl, by kernel_rfl, by kernel_rfl, by kernel_rfl⟩
theorem inf49 : Inf.is Try.prog 49 ⟨3, 56, (.agg #[(.slice none 0 0), (.slice none 0 0), (.int .i64 0)])⟩ := ⟨(Try.prog.info? 49).getD default, by kernel_rfl, by kernel_rfl, by kernel_rfl, by kernel_rfl⟩
theorem inf50 : Inf.is Try.prog 50 ⟨3, 56, (.agg #[(.slice none 0 0), (.slice none 0 0), (.int .i64 0)])⟩ := ⟨(Try.prog.info? 50).getD default, by kernel_rfl, by kernel_rfl, by kernel_rfl, by kernel_rfl⟩
theorem inf52 : Inf.is Try.prog 52 ⟨1, 24, (.slice none 0 0)⟩ := ⟨(Try.prog.info? 52).getD default, by kernel_rfl, by kernel_rfl, by kernel_rfl, by kernel_rfl⟩
theorem inf53 : Inf.is Try.prog 53 ⟨2, 32, (.agg #[(.slice none 0 0), (.int .i64 0)])⟩ := ⟨(Try.prog.info? 53).getD default, by kernel_rfl, by kernel_rfl, by kernel_rfl, by kernel_rfl⟩
theorem inf54 : Inf.is Try.prog 54 ⟨2, 32, (.agg #[(.slice none 0 0), (.int .i64 0)])⟩ := ⟨(Try.prog.info? 54).getD default, by kernel_rfl, by kernel_rfl, by kernel_rfl, by kernel_rfl⟩
theorem inf55 : Inf.is Try.prog 55 ⟨1, 24, (.slice none 0 0)⟩ := ⟨(Try.prog.info? 55).getD default, by kernel_rfl, by kernel_rfl, by kernel_rfl, by kernel_rfl⟩
theorem inf56 : Inf.is Try.prog 56 ⟨1, 24, (.slice none 0 0)⟩ := ⟨(Try.prog.info? 56).getD default, by kernel_rfl, by kernel_rfl, by kernel_rfl, by kernel_rfl⟩
theorem inf57 : Inf.is Try.prog 57 ⟨1, 24, (.slice none 0 0)⟩ := ⟨(Try.prog.info? 57).getD default, by kernel_rfl, by kernel_rfl, by kernel_rfl, by kernel_rfl⟩
theorem inf58 : Inf.is Try.prog 58 ⟨1, 24, (.slice none 0 0)⟩ := ⟨(Try.prog.info? 58).getD default, by kernel_rfl, by kernel_rfl, by kernel_rfl, by kernel_rfl⟩
theorem inf59 : Inf.is Try.prog 59 ⟨1, 24, (.slice none 0 0)⟩ := ⟨(Try.prog.info? 59).getD default, by kernel_rfl, by kernel_rfl, by kernel_rfl, by kernel_rfl⟩
theorem inf60 : Inf.is Try.prog 60 ⟨8, 160, (.agg #[(.int .i64 0), (.slice none 0 0), (.int .i64 0), (.slice none 0 0), (.slice none 0 0), (.slice none 0 0), (.slice none 0 0), (.slice none 0 0)])⟩ := ⟨(Try.prog.info? 60).getD default, by kernel_rfl, by kernel_rfl, by kernel_rfl, by kernel_rfl⟩
theorem inf61 : Inf.is Try.prog 61 ⟨8, 160, (.agg #[(.int .i64 0), (.slice none 0 0), (.int .i64 0), (.slice none 0 0), (.slice none 0 0), (.slice none 0 0), (.slice none 0 0), (.slice none 0 0)])⟩ := ⟨(Try.prog.info? 61).getD default, by kernel_rfl, by kernel_rfl, by kernel_rfl, by kernel_rfl⟩
theorem inf62 : Inf.is Try.prog 62 ⟨9, 184, (.agg #[(.slice none 0 0), (.int .i64 0), (.slice none 0 0), (.int .i64 0), (.slice none 0 0), (.slice none 0 0), (.slice none 0 0), (.slice none 0 0), (.slice none 0 0)])⟩ := ⟨(Try.prog.info? 62).getD default, by kernel_rfl, by kernel_rfl, by kernel_rfl, by kernel_rfl⟩
theorem inf63 : Inf.is Try.prog 63 ⟨9, 184, (.agg #[(.slice none 0 0), (.int .i64 0), (.slice none 0 0), (.int .i64 0), (.slice none 0 0), (.slice none 0 0), (.slice none 0 0), (.slice none 0 0), (.slice none 0 0)])⟩ := ⟨(Try.prog.info? 63).getD default, by kernel_rfl, by kernel_rfl, by kernel_rfl, by kernel_rfl⟩
theorem inf74 : Inf.is Try.prog 74 ⟨1, 8, (.float .f64 0)⟩ := ⟨(Try.prog.info? 74).getD default, by kernel_rfl, by kernel_rfl, by kernel_rfl, by kernel_rfl⟩
theorem inf81 : Inf.is Try.prog 81 ⟨1, 24, (.slice none 0 0)⟩ := ⟨(Try.prog.info? 81).getD default, by kernel_rfl, by kernel_rfl, by kernel_rfl, by kernel_rfl⟩
theorem inf82 : Inf.is Try.prog 82 ⟨4, 48, (.agg #[(.int .i64 0), (.float .f64 0), (.int .i32 0), (.slice none 0 0)])⟩ := ⟨(Try.prog.info? 82).getD default, by kernel_rfl, by kernel_rfl, by kernel_rfl, by kernel_rfl⟩
theorem inf83 : Inf.is Try.prog 83 ⟨4, 48, (.agg #[(.int .i64 0), (.float .f64 0), (.int .i32 0), (.slice none 0 0)])⟩ := ⟨(Try.prog.info? 83).getD default, by kernel_rfl, by kernel_rfl, by kernel_rfl, by kernel_rfl⟩
theorem inf97 : Inf.is Try.prog 97 ⟨1, 24, (.slice none 0 0)⟩ := ⟨(Try.prog.info? 97).getD default, by kernel_rfl, by kernel_rfl, by kernel_rfl, by kernel_rfl⟩
theorem inf102 : Inf.is Try.prog 102 ⟨1, 24, (.slice none 0 0)⟩ := ⟨(Try.prog.info? 102).getD default, by kernel_rfl, by kernel_rfl, by kernel_rfl, by kernel_rfl⟩
theorem inf107 : Inf.is Try.prog 107 ⟨1, 8, (.int .u64 0)⟩ := ⟨(Try.prog.info? 107).getD default, by kernel_rfl, by kernel_rfl, by kernel_rfl, by kernel_rfl⟩
theorem inf110 : Inf.is Try.prog 110 ⟨1, 24, (.slice none 0 0)⟩ := ⟨(Try.prog.info? 110).getD default, by kernel_rfl, by kernel_rfl, by kernel_rfl, by kernel_rfl⟩
theorem inf135 : Inf.is Try.prog 135 ⟨1, 2, (.int .u16 0)⟩ := ⟨(Try.prog.info? 135).getD default, by kernel_rfl, by kernel_rfl, by kernel_rfl, by kernel_rfl⟩
theorem inf137 : Inf.is Try.prog 137 ⟨10, 192, (.agg #[(.bool false), (.slice none 0 0), (.int .i64 0), (.slice none 0 0), (.int .i64 0), (.slice none 0 0), (.slice none 0 0), (.slice none 0 0), (.slice none 0 0), (.slice none 0 0)])⟩ := ⟨(Try.prog.info? 137).getD default, by kernel_rfl, by kernel_rfl, by kernel_rfl, by kernel_rfl⟩
theorem inf138 : Inf.is Try.prog 138 ⟨10, 192, (.agg #[(.bool false), (.slice none 0 0), (.int .i64 0), (.slice none 0 0), (.int .i64 0), (.slice none 0 0), (.slice none 0 0), (.slice none 0 0), (.slice none 0 0), (.slice none 0 0)])⟩ := ⟨(Try.prog.info? 138).getD default, by kernel_rfl, by kernel_rfl, by kernel_rfl, by kernel_rfl⟩
theorem inf139 : Inf.is Try.prog 139 ⟨1, 24, (.slice none 0 0)⟩ := ⟨(Try.prog.info? 139).getD default, by kernel_rfl, by kernel_rfl, by kernel_rfl, by kernel_rfl⟩
theorem inf171 : Inf.is Try.prog 171 ⟨1, 4, (.int .u32 0)⟩ := ⟨(Try.prog.info? 171).getD default, by kernel_rfl, by kernel_rfl, by kernel_rfl, by kernel_rfl⟩
theorem inf174 : Inf.is Try.prog 174 ⟨1, 8, (.pointer none)⟩ := ⟨(Try.prog.info? 174).getD default, by kernel_rfl, by kernel_rfl, by kernel_rfl, by kernel_rfl⟩
theorem inf190 : Inf.is Try.prog 190 ⟨1, 8, (.pointer none)⟩ := ⟨(Try.prog.info? 190).getD default, by kernel_rfl, by kernel_rfl, by kernel_rfl, by kernel_rfl⟩
theorem inf191 : Inf.is Try.prog 191 ⟨1, 8, (.pointer none)⟩ := ⟨(Try.prog.info? 191).getD default, by kernel_rfl, by kernel_rfl, by kernel_rfl, by kernel_rfl⟩
theorem inf205 : Inf.is Try.prog 205 ⟨1, 1, (.int .i8 0)⟩ := ⟨(Try.prog.info? 205).getD default, by kernel_rfl, by kernel_rfl, by kernel_rfl, by kernel_rfl⟩
theorem inf216 : Inf.is Try.prog 216 ⟨1, 8, (.int .u64 0)⟩ := ⟨(Try.prog.info? 216).getD default, by kernel_rfl, by kernel_rfl, by kernel_rfl, by kernel_rfl⟩
theorem inf217 : Inf.is Try.prog 217 ⟨10, 192, (.agg #[(.int .i64 0), (.slice none 0 0), (.int .i64 0), (.slice none 0 0), (.slice none 0 0), (.slice none 0 0), (.slice none 0 0), (.slice none 0 0), (.slice none 0 0), (.int .u64 0)])⟩ := ⟨(Try.prog.info? 217).getD default, by kernel_rfl, by kernel_rfl, by kernel_rfl, by kernel_rfl⟩
theorem inf218 : Inf.is Try.prog 218 ⟨10, 192, (.agg #[(.int .i64 0), (.slice none 0 0), (.int .i64 0), (.slice none 0 0), (.slice none 0 0), (.slice none 0 0), (.slice none 0 0), (.slice none 0 0), (.slice none 0 0), (.int .u64 0)])⟩ := ⟨(Try.prog.info? 218).getD default, by kernel_rfl, by kernel_rfl, by kernel_rfl, by kernel_rfl⟩
theorem inf235 : Inf.is Try.prog 235 ⟨1, 8, (.pointer none)⟩ := ⟨(Try.prog.info? 235).getD default, by kernel_rfl, by kernel_rfl, by kernel_rfl, by kernel_rfl⟩
set_option maxRecDepth 100000 in
theorem tyAll : ∀ p ∈ tyl, Ty.is Try.prog p.1 p.2 := (List.forall_mem_cons.2 ⟨ty2, (List.forall_mem_cons.2 ⟨ty3, (List.forall_mem_cons.2 ⟨ty4, (List.forall_mem_cons.2 ⟨ty5, (List.forall_mem_cons.2 ⟨ty9, (List.forall_mem_cons.2 ⟨ty12, (List.forall_mem_cons.2 ⟨ty21, (List.forall_mem_cons.2 ⟨ty22, (List.forall_mem_cons.2 ⟨ty24, (List.forall_mem_cons.2 ⟨ty38, (List.forall_mem_cons.2 ⟨ty48, (List.forall_mem_cons.2 ⟨ty49, (List.forall_mem_cons.2 ⟨ty50, (List.forall_mem_cons.2 ⟨ty52, (List.forall_mem_cons.2 ⟨ty53, (List.forall_mem_cons.2 ⟨ty54, (List.forall_mem_cons.2 ⟨ty55, (List.forall_mem_cons.2 ⟨ty56, (List.forall_mem_cons.2 ⟨ty57, (List.forall_mem_cons.2 ⟨ty58, (List.forall_mem_cons.2 ⟨ty59, (List.forall_mem_cons.2 ⟨ty60, (List.forall_mem_cons.2 ⟨ty61, (List.forall_mem_cons.2 ⟨ty62, (List.forall_mem_cons.2 ⟨ty63, (List.forall_mem_cons.2 ⟨ty74, (List.forall_mem_cons.2 ⟨ty81, (List.forall_mem_cons.2 ⟨ty82, (List.forall_mem_cons.2 ⟨ty83, (List.forall_mem_cons.2 ⟨ty97, (List.forall_mem_cons.2 ⟨ty102, (List.forall_mem_cons.2 ⟨ty107, (List.forall_mem_cons.2 ⟨ty110, (List.forall_mem_cons.2 ⟨ty135, (List.forall_mem_cons.2 ⟨ty137, (List.forall_mem_cons.2 ⟨ty138, (List.forall_mem_cons.2 ⟨ty139, (List.forall_mem_cons.2 ⟨ty171, (List.forall_mem_cons.2 ⟨ty174, (List.forall_mem_cons.2 ⟨ty190, (List.forall_mem_cons.2 ⟨ty191, (List.forall_mem_cons.2 ⟨ty205, (List.forall_mem_cons.2 ⟨ty216, (List.forall_mem_cons.2 ⟨ty217, (List.forall_mem_cons.2 ⟨ty218, (List.forall_mem_cons.2 ⟨ty235, List.forall_mem_nil _⟩)⟩)⟩)⟩)⟩)⟩)⟩)⟩)⟩)⟩)⟩)⟩)⟩)⟩)⟩)⟩)⟩)⟩)⟩)⟩)⟩)⟩)⟩)⟩)⟩)⟩)⟩)⟩)⟩)⟩)⟩)⟩)⟩)⟩)⟩)⟩)⟩)⟩)⟩)⟩)⟩)⟩)⟩)⟩)⟩)⟩)
set_option maxRecDepth 100000 in
theorem infAll : ∀ p ∈ infl, Inf.is Try.prog p.1 p.2 := (List.forall_mem_cons.2 ⟨inf2, (List.forall_mem_cons.2 ⟨inf3, (List.forall_mem_cons.2 ⟨inf4, (List.forall_mem_cons.2 ⟨inf5, (List.forall_mem_cons.2 ⟨inf9, (List.forall_mem_cons.2 ⟨inf12, (List.forall_mem_cons.2 ⟨inf21, (List.forall_mem_cons.2 ⟨inf22, (List.forall_mem_cons.2 ⟨inf24, (List.forall_mem_cons.2 ⟨inf38, (List.forall_mem_cons.2 ⟨inf48, (List.forall_mem_cons.2 ⟨inf49, (List.forall_mem_cons.2 ⟨inf50, (List.forall_mem_cons.2 ⟨inf52, (List.forall_mem_cons.2 ⟨inf53, (List.forall_mem_cons.2 ⟨inf54, (List.forall_mem_cons.2 ⟨inf55, (List.forall_mem_cons.2 ⟨inf56, (List.forall_mem_cons.2 ⟨inf57, (List.forall_mem_cons.2 ⟨inf58, (List.forall_mem_cons.2 ⟨inf59, (List.forall_mem_cons.2 ⟨inf60, (List.forall_mem_cons.2 ⟨inf61, (List.forall_mem_cons.2 ⟨inf62, (List.forall_mem_cons.2 ⟨inf63, (List.forall_mem_cons.2 ⟨inf74, (List.forall_mem_cons.2 ⟨inf81, (List.forall_mem_cons.2 ⟨inf82, (List.forall_mem_cons.2 ⟨inf83, (List.forall_mem_cons.2 ⟨inf97, (List.forall_mem_cons.2 ⟨inf102, (List.forall_mem_cons.2 ⟨inf107, (List.forall_mem_cons.2 ⟨inf110, (List.forall_mem_cons.2 ⟨inf135, (List.forall_mem_cons.2 ⟨inf137, (List.forall_mem_cons.2 ⟨inf138, (List.forall_mem_cons.2 ⟨inf139, (List.forall_mem_cons.2 ⟨inf171, (List.forall_mem_cons.2 ⟨inf174, (List.forall_mem_cons.2 ⟨inf190, (List.forall_mem_cons.2 ⟨inf191, (List.forall_mem_cons.2 ⟨inf205, (List.forall_mem_cons.2 ⟨inf216, (List.forall_mem_cons.2 ⟨inf217, (List.forall_mem_cons.2 ⟨inf218, (List.forall_mem_cons.2 ⟨inf235, List.forall_mem_nil _⟩)⟩)⟩)⟩)⟩)⟩)⟩)⟩)⟩)⟩)⟩)⟩)⟩)⟩)⟩)⟩)⟩)⟩)⟩)⟩)⟩)⟩)⟩)⟩)⟩)⟩)⟩)⟩)⟩)⟩)⟩)⟩)⟩)⟩)⟩)⟩)⟩)⟩)⟩)⟩)⟩)⟩)⟩)⟩)⟩)⟩)
set_option maxRecDepth 100000 in
noncomputable def T : Tab Try.prog where
  ty := look tyl
  inf := look infl
  ty_ok := fun t d h => tyAll _ (look_mem _ _ _ h)
  inf_ok := fun t d h => infAll _ (look_mem _ _ _ h)
  call := inRange 3 199 [149, 199, 200, 201, 202, 203, 204, 205, 206, 207, 208, 209, 210, 211, 212, 213, 214]
  call_ok := call_of_all (by kernel_rfl)
  mixed := by kernel_rfl
end Go.Proofs.Ytdpkioffihebnaa

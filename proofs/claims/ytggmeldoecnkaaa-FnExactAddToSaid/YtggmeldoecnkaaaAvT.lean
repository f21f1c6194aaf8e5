/-
The types, as the walks ask for them; the data of structs.
Conditions: none.
-/
import Derived.Test.YtggmeldoecnkaaaAv23
import Derived.Test.YtggmeldoecnkaaaProg
set_option linter.unusedVariables false
namespace Go.Proofs.Ytggmeldoecnkaaa.Av
open Go.RowKit
set_option maxRecDepth 20000

theorem ty2 : TyP Try.prog 2 { kd := 7, sz := 1, bys := 8, zero := [.int .i64 0], ik := .i64 } :=
  ⟨_, (Try.prog.info? 2).getD default, Try.underlying2, by kernel_rfl, by kernel_rfl, by kernel_rfl, by kernel_rfl, by first | exact ⟨rfl, rfl⟩ | exact ⟨rfl, rfl, rfl⟩ | exact rfl, by decide⟩
theorem ty3 : TyP Try.prog 3 { kd := 7, sz := 1, bys := 8, zero := [.int .i64 0], ik := .i64 } :=
  ⟨_, (Try.prog.info? 3).getD default, Try.underlying3, by kernel_rfl, by kernel_rfl, by kernel_rfl, by kernel_rfl, by first | exact ⟨rfl, rfl⟩ | exact ⟨rfl, rfl, rfl⟩ | exact rfl, by decide⟩
theorem ty4 : TyP Try.prog 4 { kd := 6, sz := 1, bys := 1, zero := [.bool false] } :=
  ⟨_, (Try.prog.info? 4).getD default, Try.underlying4, by kernel_rfl, by kernel_rfl, by kernel_rfl, by kernel_rfl, by first | exact ⟨rfl, rfl⟩ | exact ⟨rfl, rfl, rfl⟩ | exact rfl, by decide⟩
theorem ty5 : TyP Try.prog 5 { kd := 7, sz := 1, bys := 1, zero := [.int .u8 0], ik := .u8 } :=
  ⟨_, (Try.prog.info? 5).getD default, Try.underlying5, by kernel_rfl, by kernel_rfl, by kernel_rfl, by kernel_rfl, by first | exact ⟨rfl, rfl⟩ | exact ⟨rfl, rfl, rfl⟩ | exact rfl, by decide⟩
theorem ty6 : TyP Try.prog 6 { kd := 7, sz := 1, bys := 1, zero := [.int .u8 0], ik := .u8 } :=
  ⟨_, (Try.prog.info? 6).getD default, Try.underlying6, by kernel_rfl, by kernel_rfl, by kernel_rfl, by kernel_rfl, by first | exact ⟨rfl, rfl⟩ | exact ⟨rfl, rfl, rfl⟩ | exact rfl, by decide⟩
theorem ty7 : TyP Try.prog 7 { kd := 2, sz := 4, bys := 24, zero := [.int .i64 0, .int .i64 0, .bool false, .int .u8 0], fl := [(0, 2), (1, 3), (2, 4), (3, 6)] } :=
  ⟨_, (Try.prog.info? 7).getD default, Try.underlying7, by kernel_rfl, by kernel_rfl, by kernel_rfl, by kernel_rfl, by first | exact ⟨rfl, rfl⟩ | exact ⟨rfl, rfl, rfl⟩ | exact rfl, by decide⟩
theorem ty9 : TyP Try.prog 9 { kd := 5, sz := 1, bys := 16, zero := [.string ⟨#[]⟩] } :=
  ⟨_, (Try.prog.info? 9).getD default, Try.underlying9, by kernel_rfl, by kernel_rfl, by kernel_rfl, by kernel_rfl, by first | exact ⟨rfl, rfl⟩ | exact ⟨rfl, rfl, rfl⟩ | exact rfl, by decide⟩
theorem ty12 : TyP Try.prog 12 { kd := 7, sz := 1, bys := 8, zero := [.int .u64 0], ik := .u64 } :=
  ⟨_, (Try.prog.info? 12).getD default, Try.underlying12, by kernel_rfl, by kernel_rfl, by kernel_rfl, by kernel_rfl, by first | exact ⟨rfl, rfl⟩ | exact ⟨rfl, rfl, rfl⟩ | exact rfl, by decide⟩
theorem ty13 : TyP Try.prog 13 { kd := 2, sz := 2, bys := 24, zero := [.string ⟨#[]⟩, .int .u64 0], fl := [(0, 9), (1, 12)] } :=
  ⟨_, (Try.prog.info? 13).getD default, Try.underlying13, by kernel_rfl, by kernel_rfl, by kernel_rfl, by kernel_rfl, by first | exact ⟨rfl, rfl⟩ | exact ⟨rfl, rfl, rfl⟩ | exact rfl, by decide⟩
theorem ty18 : TyP Try.prog 18 { kd := 2, sz := 1, bys := 8, zero := [.pointer none], fl := [(0, 17)] } :=
  ⟨_, (Try.prog.info? 18).getD default, Try.underlying18, by kernel_rfl, by kernel_rfl, by kernel_rfl, by kernel_rfl, by first | exact ⟨rfl, rfl⟩ | exact ⟨rfl, rfl, rfl⟩ | exact rfl, by decide⟩
theorem ty21 : TyP Try.prog 21 { kd := 7, sz := 1, bys := 4, zero := [.int .i32 0], ik := .i32 } :=
  ⟨_, (Try.prog.info? 21).getD default, Try.underlying21, by kernel_rfl, by kernel_rfl, by kernel_rfl, by kernel_rfl, by first | exact ⟨rfl, rfl⟩ | exact ⟨rfl, rfl, rfl⟩ | exact rfl, by decide⟩
theorem ty22 : TyP Try.prog 22 { kd := 1, sz := 1, bys := 24, zero := [.slice none 0 0], el := 5 } :=
  ⟨_, (Try.prog.info? 22).getD default, Try.underlying22, by kernel_rfl, by kernel_rfl, by kernel_rfl, by kernel_rfl, by first | exact ⟨rfl, rfl⟩ | exact ⟨rfl, rfl, rfl⟩ | exact rfl, by decide⟩
theorem ty24 : TyP Try.prog 24 { kd := 1, sz := 1, bys := 24, zero := [.slice none 0 0], el := 35 } :=
  ⟨_, (Try.prog.info? 24).getD default, Try.underlying24, by kernel_rfl, by kernel_rfl, by kernel_rfl, by kernel_rfl, by first | exact ⟨rfl, rfl⟩ | exact ⟨rfl, rfl, rfl⟩ | exact rfl, by decide⟩
theorem ty25 : TyP Try.prog 25 { kd := 1, sz := 1, bys := 24, zero := [.slice none 0 0], el := 38 } :=
  ⟨_, (Try.prog.info? 25).getD default, Try.underlying25, by kernel_rfl, by kernel_rfl, by kernel_rfl, by kernel_rfl, by first | exact ⟨rfl, rfl⟩ | exact ⟨rfl, rfl, rfl⟩ | exact rfl, by decide⟩
theorem ty26 : TyP Try.prog 26 { kd := 2, sz := 2, bys := 32, zero := [.int .i64 0, .slice none 0 0], fl := [(0, 3), (1, 25)] } :=
  ⟨_, (Try.prog.info? 26).getD default, Try.underlying26, by kernel_rfl, by kernel_rfl, by kernel_rfl, by kernel_rfl, by first | exact ⟨rfl, rfl⟩ | exact ⟨rfl, rfl, rfl⟩ | exact rfl, by decide⟩
theorem ty27 : TyP Try.prog 27 { kd := 2, sz := 2, bys := 32, zero := [.int .i64 0, .slice none 0 0], fl := [(0, 3), (1, 25)] } :=
  ⟨_, (Try.prog.info? 27).getD default, Try.underlying27, by kernel_rfl, by kernel_rfl, by kernel_rfl, by kernel_rfl, by first | exact ⟨rfl, rfl⟩ | exact ⟨rfl, rfl, rfl⟩ | exact rfl, by decide⟩
theorem ty34 : TyP Try.prog 34 { kd := 2, sz := 5, bys := 56, zero := [.int .i64 0, .string ⟨#[]⟩, .string ⟨#[]⟩, .int .i64 0, .int .i64 0], fl := [(0, 3), (1, 9), (2, 9), (3, 3), (4, 3)] } :=
  ⟨_, (Try.prog.info? 34).getD default, Try.underlying34, by kernel_rfl, by kernel_rfl, by kernel_rfl, by kernel_rfl, by first | exact ⟨rfl, rfl⟩ | exact ⟨rfl, rfl, rfl⟩ | exact rfl, by decide⟩
theorem ty35 : TyP Try.prog 35 { kd := 2, sz := 5, bys := 56, zero := [.int .i64 0, .string ⟨#[]⟩, .string ⟨#[]⟩, .int .i64 0, .int .i64 0], fl := [(0, 3), (1, 9), (2, 9), (3, 3), (4, 3)] } :=
  ⟨_, (Try.prog.info? 35).getD default, Try.underlying35, by kernel_rfl, by kernel_rfl, by kernel_rfl, by kernel_rfl, by first | exact ⟨rfl, rfl⟩ | exact ⟨rfl, rfl, rfl⟩ | exact rfl, by decide⟩
theorem ty36 : TyP Try.prog 36 { kd := 1, sz := 1, bys := 24, zero := [.slice none 0 0], el := 188 } :=
  ⟨_, (Try.prog.info? 36).getD default, Try.underlying36, by kernel_rfl, by kernel_rfl, by kernel_rfl, by kernel_rfl, by first | exact ⟨rfl, rfl⟩ | exact ⟨rfl, rfl, rfl⟩ | exact rfl, by decide⟩
theorem ty37 : TyP Try.prog 37 { kd := 2, sz := 5, bys := 64, zero := [.string ⟨#[]⟩, .int .i64 0, .int .i64 0, .int .i64 0, .slice none 0 0], fl := [(0, 9), (1, 3), (2, 3), (3, 3), (4, 36)] } :=
  ⟨_, (Try.prog.info? 37).getD default, Try.underlying37, by kernel_rfl, by kernel_rfl, by kernel_rfl, by kernel_rfl, by first | exact ⟨rfl, rfl⟩ | exact ⟨rfl, rfl, rfl⟩ | exact rfl, by decide⟩
theorem ty38 : TyP Try.prog 38 { kd := 2, sz := 5, bys := 64, zero := [.string ⟨#[]⟩, .int .i64 0, .int .i64 0, .int .i64 0, .slice none 0 0], fl := [(0, 9), (1, 3), (2, 3), (3, 3), (4, 36)] } :=
  ⟨_, (Try.prog.info? 38).getD default, Try.underlying38, by kernel_rfl, by kernel_rfl, by kernel_rfl, by kernel_rfl, by first | exact ⟨rfl, rfl⟩ | exact ⟨rfl, rfl, rfl⟩ | exact rfl, by decide⟩
theorem ty39 : TyP Try.prog 39 { kd := 1, sz := 1, bys := 24, zero := [.slice none 0 0], el := 100 } :=
  ⟨_, (Try.prog.info? 39).getD default, Try.underlying39, by kernel_rfl, by kernel_rfl, by kernel_rfl, by kernel_rfl, by first | exact ⟨rfl, rfl⟩ | exact ⟨rfl, rfl, rfl⟩ | exact rfl, by decide⟩
theorem ty40 : TyP Try.prog 40 { kd := 1, sz := 1, bys := 24, zero := [.slice none 0 0], el := 151 } :=
  ⟨_, (Try.prog.info? 40).getD default, Try.underlying40, by kernel_rfl, by kernel_rfl, by kernel_rfl, by kernel_rfl, by first | exact ⟨rfl, rfl⟩ | exact ⟨rfl, rfl, rfl⟩ | exact rfl, by decide⟩
theorem ty41 : TyP Try.prog 41 { kd := 2, sz := 2, bys := 32, zero := [.int .i64 0, .slice none 0 0], fl := [(0, 3), (1, 40)] } :=
  ⟨_, (Try.prog.info? 41).getD default, Try.underlying41, by kernel_rfl, by kernel_rfl, by kernel_rfl, by kernel_rfl, by first | exact ⟨rfl, rfl⟩ | exact ⟨rfl, rfl, rfl⟩ | exact rfl, by decide⟩
theorem ty42 : TyP Try.prog 42 { kd := 2, sz := 2, bys := 32, zero := [.int .i64 0, .slice none 0 0], fl := [(0, 3), (1, 40)] } :=
  ⟨_, (Try.prog.info? 42).getD default, Try.underlying42, by kernel_rfl, by kernel_rfl, by kernel_rfl, by kernel_rfl, by first | exact ⟨rfl, rfl⟩ | exact ⟨rfl, rfl, rfl⟩ | exact rfl, by decide⟩
theorem ty52 : TyP Try.prog 52 { kd := 1, sz := 1, bys := 24, zero := [.slice none 0 0], el := 61 } :=
  ⟨_, (Try.prog.info? 52).getD default, Try.underlying52, by kernel_rfl, by kernel_rfl, by kernel_rfl, by kernel_rfl, by first | exact ⟨rfl, rfl⟩ | exact ⟨rfl, rfl, rfl⟩ | exact rfl, by decide⟩
theorem ty53 : TyP Try.prog 53 { kd := 1, sz := 1, bys := 24, zero := [.slice none 0 0], el := 9 } :=
  ⟨_, (Try.prog.info? 53).getD default, Try.underlying53, by kernel_rfl, by kernel_rfl, by kernel_rfl, by kernel_rfl, by first | exact ⟨rfl, rfl⟩ | exact ⟨rfl, rfl, rfl⟩ | exact rfl, by decide⟩
theorem ty54 : TyP Try.prog 54 { kd := 2, sz := 3, bys := 40, zero := [.int .i64 0, .int .i64 0, .slice none 0 0], fl := [(0, 3), (1, 3), (2, 53)] } :=
  ⟨_, (Try.prog.info? 54).getD default, Try.underlying54, by kernel_rfl, by kernel_rfl, by kernel_rfl, by kernel_rfl, by first | exact ⟨rfl, rfl⟩ | exact ⟨rfl, rfl, rfl⟩ | exact rfl, by decide⟩
theorem ty55 : TyP Try.prog 55 { kd := 2, sz := 3, bys := 40, zero := [.int .i64 0, .int .i64 0, .slice none 0 0], fl := [(0, 3), (1, 3), (2, 53)] } :=
  ⟨_, (Try.prog.info? 55).getD default, Try.underlying55, by kernel_rfl, by kernel_rfl, by kernel_rfl, by kernel_rfl, by first | exact ⟨rfl, rfl⟩ | exact ⟨rfl, rfl, rfl⟩ | exact rfl, by decide⟩
theorem ty56 : TyP Try.prog 56 { kd := 1, sz := 1, bys := 24, zero := [.slice none 0 0], el := 3 } :=
  ⟨_, (Try.prog.info? 56).getD default, Try.underlying56, by kernel_rfl, by kernel_rfl, by kernel_rfl, by kernel_rfl, by first | exact ⟨rfl, rfl⟩ | exact ⟨rfl, rfl, rfl⟩ | exact rfl, by decide⟩
theorem ty57 : TyP Try.prog 57 { kd := 2, sz := 3, bys := 56, zero := [.int .i64 0, .slice none 0 0, .slice none 0 0], fl := [(0, 3), (1, 53), (2, 56)] } :=
  ⟨_, (Try.prog.info? 57).getD default, Try.underlying57, by kernel_rfl, by kernel_rfl, by kernel_rfl, by kernel_rfl, by first | exact ⟨rfl, rfl⟩ | exact ⟨rfl, rfl, rfl⟩ | exact rfl, by decide⟩
theorem ty58 : TyP Try.prog 58 { kd := 2, sz := 3, bys := 56, zero := [.int .i64 0, .slice none 0 0, .slice none 0 0], fl := [(0, 3), (1, 53), (2, 56)] } :=
  ⟨_, (Try.prog.info? 58).getD default, Try.underlying58, by kernel_rfl, by kernel_rfl, by kernel_rfl, by kernel_rfl, by first | exact ⟨rfl, rfl⟩ | exact ⟨rfl, rfl, rfl⟩ | exact rfl, by decide⟩
theorem ty59 : TyP Try.prog 59 { kd := 1, sz := 1, bys := 24, zero := [.slice none 0 0], el := 158 } :=
  ⟨_, (Try.prog.info? 59).getD default, Try.underlying59, by kernel_rfl, by kernel_rfl, by kernel_rfl, by kernel_rfl, by first | exact ⟨rfl, rfl⟩ | exact ⟨rfl, rfl, rfl⟩ | exact rfl, by decide⟩
theorem ty60 : TyP Try.prog 60 { kd := 2, sz := 14, bys := 208, zero := [.int .i64 0, .int .i64 0, .int .i64 0, .string ⟨#[]⟩, .int .i64 0, .int .i64 0, .slice none 0 0, .int .i64 0, .slice none 0 0, .slice none 0 0, .slice none 0 0, .bool false, .slice none 0 0, .string ⟨#[]⟩], fl := [(0, 3), (1, 3), (2, 3), (3, 9), (4, 55), (7, 58), (10, 39), (11, 4), (12, 59), (13, 9)] } :=
  ⟨_, (Try.prog.info? 60).getD default, Try.underlying60, by kernel_rfl, by kernel_rfl, by kernel_rfl, by kernel_rfl, by first | exact ⟨rfl, rfl⟩ | exact ⟨rfl, rfl, rfl⟩ | exact rfl, by decide⟩
theorem ty61 : TyP Try.prog 61 { kd := 2, sz := 14, bys := 208, zero := [.int .i64 0, .int .i64 0, .int .i64 0, .string ⟨#[]⟩, .int .i64 0, .int .i64 0, .slice none 0 0, .int .i64 0, .slice none 0 0, .slice none 0 0, .slice none 0 0, .bool false, .slice none 0 0, .string ⟨#[]⟩], fl := [(0, 3), (1, 3), (2, 3), (3, 9), (4, 55), (7, 58), (10, 39), (11, 4), (12, 59), (13, 9)] } :=
  ⟨_, (Try.prog.info? 61).getD default, Try.underlying61, by kernel_rfl, by kernel_rfl, by kernel_rfl, by kernel_rfl, by first | exact ⟨rfl, rfl⟩ | exact ⟨rfl, rfl, rfl⟩ | exact rfl, by decide⟩
theorem ty64 : TyP Try.prog 64 { kd := 1, sz := 1, bys := 24, zero := [.slice none 0 0], el := 72 } :=
  ⟨_, (Try.prog.info? 64).getD default, Try.underlying64, by kernel_rfl, by kernel_rfl, by kernel_rfl, by kernel_rfl, by first | exact ⟨rfl, rfl⟩ | exact ⟨rfl, rfl, rfl⟩ | exact rfl, by decide⟩
theorem ty68 : TyP Try.prog 68 { kd := 2, sz := 3, bys := 40, zero := [.int .i64 0, .int .i64 0, .slice none 0 0], fl := [(0, 3), (1, 3), (2, 53)] } :=
  ⟨_, (Try.prog.info? 68).getD default, Try.underlying68, by kernel_rfl, by kernel_rfl, by kernel_rfl, by kernel_rfl, by first | exact ⟨rfl, rfl⟩ | exact ⟨rfl, rfl, rfl⟩ | exact rfl, by decide⟩
theorem ty69 : TyP Try.prog 69 { kd := 2, sz := 3, bys := 56, zero := [.int .i64 0, .slice none 0 0, .slice none 0 0], fl := [(0, 3), (1, 53), (2, 56)] } :=
  ⟨_, (Try.prog.info? 69).getD default, Try.underlying69, by kernel_rfl, by kernel_rfl, by kernel_rfl, by kernel_rfl, by first | exact ⟨rfl, rfl⟩ | exact ⟨rfl, rfl, rfl⟩ | exact rfl, by decide⟩
theorem ty70 : TyP Try.prog 70 { kd := 1, sz := 1, bys := 24, zero := [.slice none 0 0], el := 165 } :=
  ⟨_, (Try.prog.info? 70).getD default, Try.underlying70, by kernel_rfl, by kernel_rfl, by kernel_rfl, by kernel_rfl, by first | exact ⟨rfl, rfl⟩ | exact ⟨rfl, rfl, rfl⟩ | exact rfl, by decide⟩
theorem ty71 : TyP Try.prog 71 { kd := 2, sz := 14, bys := 208, zero := [.int .i64 0, .int .i64 0, .int .i64 0, .string ⟨#[]⟩, .int .i64 0, .int .i64 0, .slice none 0 0, .int .i64 0, .slice none 0 0, .slice none 0 0, .slice none 0 0, .bool false, .slice none 0 0, .string ⟨#[]⟩], fl := [(0, 3), (1, 3), (2, 3), (3, 9), (4, 68), (7, 69), (10, 24), (11, 4), (12, 70), (13, 9)] } :=
  ⟨_, (Try.prog.info? 71).getD default, Try.underlying71, by kernel_rfl, by kernel_rfl, by kernel_rfl, by kernel_rfl, by first | exact ⟨rfl, rfl⟩ | exact ⟨rfl, rfl, rfl⟩ | exact rfl, by decide⟩
theorem ty72 : TyP Try.prog 72 { kd := 2, sz := 14, bys := 208, zero := [.int .i64 0, .int .i64 0, .int .i64 0, .string ⟨#[]⟩, .int .i64 0, .int .i64 0, .slice none 0 0, .int .i64 0, .slice none 0 0, .slice none 0 0, .slice none 0 0, .bool false, .slice none 0 0, .string ⟨#[]⟩], fl := [(0, 3), (1, 3), (2, 3), (3, 9), (4, 68), (7, 69), (10, 24), (11, 4), (12, 70), (13, 9)] } :=
  ⟨_, (Try.prog.info? 72).getD default, Try.underlying72, by kernel_rfl, by kernel_rfl, by kernel_rfl, by kernel_rfl, by first | exact ⟨rfl, rfl⟩ | exact ⟨rfl, rfl, rfl⟩ | exact rfl, by decide⟩
theorem ty79 : TyP Try.prog 79 { kd := 1, sz := 1, bys := 24, zero := [.slice none 0 0], el := 177 } :=
  ⟨_, (Try.prog.info? 79).getD default, Try.underlying79, by kernel_rfl, by kernel_rfl, by kernel_rfl, by kernel_rfl, by first | exact ⟨rfl, rfl⟩ | exact ⟨rfl, rfl, rfl⟩ | exact rfl, by decide⟩
theorem ty80 : TyP Try.prog 80 { kd := 1, sz := 1, bys := 24, zero := [.slice none 0 0], el := 180 } :=
  ⟨_, (Try.prog.info? 80).getD default, Try.underlying80, by kernel_rfl, by kernel_rfl, by kernel_rfl, by kernel_rfl, by first | exact ⟨rfl, rfl⟩ | exact ⟨rfl, rfl, rfl⟩ | exact rfl, by decide⟩
theorem ty81 : TyP Try.prog 81 { kd := 1, sz := 1, bys := 24, zero := [.slice none 0 0], el := 183 } :=
  ⟨_, (Try.prog.info? 81).getD default, Try.underlying81, by kernel_rfl, by kernel_rfl, by kernel_rfl, by kernel_rfl, by first | exact ⟨rfl, rfl⟩ | exact ⟨rfl, rfl, rfl⟩ | exact rfl, by decide⟩
theorem ty82 : TyP Try.prog 82 { kd := 2, sz := 20, bys := 344, zero := [.string ⟨#[]⟩, .int .i64 0, .int .i64 0, .slice none 0 0, .slice none 0 0, .slice none 0 0, .int .i64 0, .int .i64 0, .int .i64 0, .int .i64 0, .slice none 0 0, .int .i64 0, .slice none 0 0, .slice none 0 0, .int .i64 0, .slice none 0 0, .slice none 0 0, .slice none 0 0, .slice none 0 0, .slice none 0 0], fl := [(0, 9), (1, 3), (2, 27), (4, 70), (5, 64), (6, 3), (7, 3), (8, 68), (11, 69), (14, 3), (15, 79), (16, 80), (17, 56), (18, 24), (19, 81)] } :=
  ⟨_, (Try.prog.info? 82).getD default, Try.underlying82, by kernel_rfl, by kernel_rfl, by kernel_rfl, by kernel_rfl, by first | exact ⟨rfl, rfl⟩ | exact ⟨rfl, rfl, rfl⟩ | exact rfl, by decide⟩
theorem ty83 : TyP Try.prog 83 { kd := 2, sz := 20, bys := 344, zero := [.string ⟨#[]⟩, .int .i64 0, .int .i64 0, .slice none 0 0, .slice none 0 0, .slice none 0 0, .int .i64 0, .int .i64 0, .int .i64 0, .int .i64 0, .slice none 0 0, .int .i64 0, .slice none 0 0, .slice none 0 0, .int .i64 0, .slice none 0 0, .slice none 0 0, .slice none 0 0, .slice none 0 0, .slice none 0 0], fl := [(0, 9), (1, 3), (2, 27), (4, 70), (5, 64), (6, 3), (7, 3), (8, 68), (11, 69), (14, 3), (15, 79), (16, 80), (17, 56), (18, 24), (19, 81)] } :=
  ⟨_, (Try.prog.info? 83).getD default, Try.underlying83, by kernel_rfl, by kernel_rfl, by kernel_rfl, by kernel_rfl, by first | exact ⟨rfl, rfl⟩ | exact ⟨rfl, rfl, rfl⟩ | exact rfl, by decide⟩
theorem ty88 : TyP Try.prog 88 { kd := 4, sz := 1, bys := 8, zero := [.pointer none], el := 138 } :=
  ⟨_, (Try.prog.info? 88).getD default, Try.underlying88, by kernel_rfl, by kernel_rfl, by kernel_rfl, by kernel_rfl, by first | exact ⟨rfl, rfl⟩ | exact ⟨rfl, rfl, rfl⟩ | exact rfl, by decide⟩
theorem ty100 : TyP Try.prog 100 { kd := 2, sz := 5, bys := 56, zero := [.int .i64 0, .string ⟨#[]⟩, .string ⟨#[]⟩, .int .i64 0, .int .i64 0], fl := [(0, 3), (1, 9), (2, 9), (3, 3), (4, 3)] } :=
  ⟨_, (Try.prog.info? 100).getD default, Try.underlying100, by kernel_rfl, by kernel_rfl, by kernel_rfl, by kernel_rfl, by first | exact ⟨rfl, rfl⟩ | exact ⟨rfl, rfl, rfl⟩ | exact rfl, by decide⟩
theorem ty137 : TyP Try.prog 137 { kd := 2, sz := 3, bys := 40, zero := [.slice none 0 0, .int .i64 0, .int .i64 0], fl := [(0, 22), (1, 3), (2, 3)] } :=
  ⟨_, (Try.prog.info? 137).getD default, Try.underlying137, by kernel_rfl, by kernel_rfl, by kernel_rfl, by kernel_rfl, by first | exact ⟨rfl, rfl⟩ | exact ⟨rfl, rfl, rfl⟩ | exact rfl, by decide⟩
theorem ty138 : TyP Try.prog 138 { kd := 2, sz := 3, bys := 40, zero := [.slice none 0 0, .int .i64 0, .int .i64 0], fl := [(0, 22), (1, 3), (2, 3)] } :=
  ⟨_, (Try.prog.info? 138).getD default, Try.underlying138, by kernel_rfl, by kernel_rfl, by kernel_rfl, by kernel_rfl, by first | exact ⟨rfl, rfl⟩ | exact ⟨rfl, rfl, rfl⟩ | exact rfl, by decide⟩
theorem ty149 : TyP Try.prog 149 { kd := 1, sz := 1, bys := 24, zero := [.slice none 0 0], el := 211 } :=
  ⟨_, (Try.prog.info? 149).getD default, Try.underlying149, by kernel_rfl, by kernel_rfl, by kernel_rfl, by kernel_rfl, by first | exact ⟨rfl, rfl⟩ | exact ⟨rfl, rfl, rfl⟩ | exact rfl, by decide⟩
theorem ty150 : TyP Try.prog 150 { kd := 2, sz := 5, bys := 64, zero := [.string ⟨#[]⟩, .int .i64 0, .int .i64 0, .int .i64 0, .slice none 0 0], fl := [(0, 9), (1, 3), (2, 3), (3, 3), (4, 149)] } :=
  ⟨_, (Try.prog.info? 150).getD default, Try.underlying150, by kernel_rfl, by kernel_rfl, by kernel_rfl, by kernel_rfl, by first | exact ⟨rfl, rfl⟩ | exact ⟨rfl, rfl, rfl⟩ | exact rfl, by decide⟩
theorem ty151 : TyP Try.prog 151 { kd := 2, sz := 5, bys := 64, zero := [.string ⟨#[]⟩, .int .i64 0, .int .i64 0, .int .i64 0, .slice none 0 0], fl := [(0, 9), (1, 3), (2, 3), (3, 3), (4, 149)] } :=
  ⟨_, (Try.prog.info? 151).getD default, Try.underlying151, by kernel_rfl, by kernel_rfl, by kernel_rfl, by kernel_rfl, by first | exact ⟨rfl, rfl⟩ | exact ⟨rfl, rfl, rfl⟩ | exact rfl, by decide⟩
theorem ty157 : TyP Try.prog 157 { kd := 2, sz := 2, bys := 24, zero := [.string ⟨#[]⟩, .int .i64 0], fl := [(0, 9), (1, 3)] } :=
  ⟨_, (Try.prog.info? 157).getD default, Try.underlying157, by kernel_rfl, by kernel_rfl, by kernel_rfl, by kernel_rfl, by first | exact ⟨rfl, rfl⟩ | exact ⟨rfl, rfl, rfl⟩ | exact rfl, by decide⟩
theorem ty158 : TyP Try.prog 158 { kd := 2, sz := 2, bys := 24, zero := [.string ⟨#[]⟩, .int .i64 0], fl := [(0, 9), (1, 3)] } :=
  ⟨_, (Try.prog.info? 158).getD default, Try.underlying158, by kernel_rfl, by kernel_rfl, by kernel_rfl, by kernel_rfl, by first | exact ⟨rfl, rfl⟩ | exact ⟨rfl, rfl, rfl⟩ | exact rfl, by decide⟩
theorem ty165 : TyP Try.prog 165 { kd := 2, sz := 2, bys := 24, zero := [.string ⟨#[]⟩, .int .i64 0], fl := [(0, 9), (1, 3)] } :=
  ⟨_, (Try.prog.info? 165).getD default, Try.underlying165, by kernel_rfl, by kernel_rfl, by kernel_rfl, by kernel_rfl, by first | exact ⟨rfl, rfl⟩ | exact ⟨rfl, rfl, rfl⟩ | exact rfl, by decide⟩
theorem ty176 : TyP Try.prog 176 { kd := 2, sz := 3, bys := 32, zero := [.int .i64 0, .int .i64 0, .string ⟨#[]⟩], fl := [(0, 3), (1, 3), (2, 9)] } :=
  ⟨_, (Try.prog.info? 176).getD default, Try.underlying176, by kernel_rfl, by kernel_rfl, by kernel_rfl, by kernel_rfl, by first | exact ⟨rfl, rfl⟩ | exact ⟨rfl, rfl, rfl⟩ | exact rfl, by decide⟩
theorem ty177 : TyP Try.prog 177 { kd := 2, sz := 3, bys := 32, zero := [.int .i64 0, .int .i64 0, .string ⟨#[]⟩], fl := [(0, 3), (1, 3), (2, 9)] } :=
  ⟨_, (Try.prog.info? 177).getD default, Try.underlying177, by kernel_rfl, by kernel_rfl, by kernel_rfl, by kernel_rfl, by first | exact ⟨rfl, rfl⟩ | exact ⟨rfl, rfl, rfl⟩ | exact rfl, by decide⟩
theorem ty179 : TyP Try.prog 179 { kd := 2, sz := 3, bys := 32, zero := [.int .i64 0, .int .i64 0, .string ⟨#[]⟩], fl := [(0, 3), (1, 3), (2, 9)] } :=
  ⟨_, (Try.prog.info? 179).getD default, Try.underlying179, by kernel_rfl, by kernel_rfl, by kernel_rfl, by kernel_rfl, by first | exact ⟨rfl, rfl⟩ | exact ⟨rfl, rfl, rfl⟩ | exact rfl, by decide⟩
theorem ty180 : TyP Try.prog 180 { kd := 2, sz := 3, bys := 32, zero := [.int .i64 0, .int .i64 0, .string ⟨#[]⟩], fl := [(0, 3), (1, 3), (2, 9)] } :=
  ⟨_, (Try.prog.info? 180).getD default, Try.underlying180, by kernel_rfl, by kernel_rfl, by kernel_rfl, by kernel_rfl, by first | exact ⟨rfl, rfl⟩ | exact ⟨rfl, rfl, rfl⟩ | exact rfl, by decide⟩
theorem ty182 : TyP Try.prog 182 { kd := 2, sz := 5, bys := 72, zero := [.int .i64 0, .slice none 0 0, .int .i64 0, .int .i64 0, .slice none 0 0], fl := [(0, 3), (1, 64), (2, 68)] } :=
  ⟨_, (Try.prog.info? 182).getD default, Try.underlying182, by kernel_rfl, by kernel_rfl, by kernel_rfl, by kernel_rfl, by first | exact ⟨rfl, rfl⟩ | exact ⟨rfl, rfl, rfl⟩ | exact rfl, by decide⟩
theorem ty183 : TyP Try.prog 183 { kd := 2, sz := 5, bys := 72, zero := [.int .i64 0, .slice none 0 0, .int .i64 0, .int .i64 0, .slice none 0 0], fl := [(0, 3), (1, 64), (2, 68)] } :=
  ⟨_, (Try.prog.info? 183).getD default, Try.underlying183, by kernel_rfl, by kernel_rfl, by kernel_rfl, by kernel_rfl, by first | exact ⟨rfl, rfl⟩ | exact ⟨rfl, rfl, rfl⟩ | exact rfl, by decide⟩
theorem ty187 : TyP Try.prog 187 { kd := 2, sz := 2, bys := 16, zero := [.int .i64 0, .int .i64 0], fl := [(0, 3), (1, 3)] } :=
  ⟨_, (Try.prog.info? 187).getD default, Try.underlying187, by kernel_rfl, by kernel_rfl, by kernel_rfl, by kernel_rfl, by first | exact ⟨rfl, rfl⟩ | exact ⟨rfl, rfl, rfl⟩ | exact rfl, by decide⟩
theorem ty188 : TyP Try.prog 188 { kd := 2, sz := 2, bys := 16, zero := [.int .i64 0, .int .i64 0], fl := [(0, 3), (1, 3)] } :=
  ⟨_, (Try.prog.info? 188).getD default, Try.underlying188, by kernel_rfl, by kernel_rfl, by kernel_rfl, by kernel_rfl, by first | exact ⟨rfl, rfl⟩ | exact ⟨rfl, rfl, rfl⟩ | exact rfl, by decide⟩
theorem ty206 : TyP Try.prog 206 { kd := 7, sz := 1, bys := 8, zero := [.int .u64 0], ik := .u64 } :=
  ⟨_, (Try.prog.info? 206).getD default, Try.underlying206, by kernel_rfl, by kernel_rfl, by kernel_rfl, by kernel_rfl, by first | exact ⟨rfl, rfl⟩ | exact ⟨rfl, rfl, rfl⟩ | exact rfl, by decide⟩
theorem ty211 : TyP Try.prog 211 { kd := 2, sz := 2, bys := 16, zero := [.int .i64 0, .int .i64 0], fl := [(0, 3), (1, 3)] } :=
  ⟨_, (Try.prog.info? 211).getD default, Try.underlying211, by kernel_rfl, by kernel_rfl, by kernel_rfl, by kernel_rfl, by first | exact ⟨rfl, rfl⟩ | exact ⟨rfl, rfl, rfl⟩ | exact rfl, by decide⟩
theorem ty223 : TyP Try.prog 223 { kd := 2, sz := 4, bys := 40, zero := [.pointer none, .pointer none, .pointer none, .string ⟨#[]⟩], fl := [(0, 17), (1, 17), (2, 17), (3, 9)] } :=
  ⟨_, (Try.prog.info? 223).getD default, Try.underlying223, by kernel_rfl, by kernel_rfl, by kernel_rfl, by kernel_rfl, by first | exact ⟨rfl, rfl⟩ | exact ⟨rfl, rfl, rfl⟩ | exact rfl, by decide⟩
theorem ty224 : TyP Try.prog 224 { kd := 2, sz := 4, bys := 40, zero := [.pointer none, .pointer none, .pointer none, .string ⟨#[]⟩], fl := [(0, 17), (1, 17), (2, 17), (3, 9)] } :=
  ⟨_, (Try.prog.info? 224).getD default, Try.underlying224, by kernel_rfl, by kernel_rfl, by kernel_rfl, by kernel_rfl, by first | exact ⟨rfl, rfl⟩ | exact ⟨rfl, rfl, rfl⟩ | exact rfl, by decide⟩
theorem ty229 : TyP Try.prog 229 { kd := 7, sz := 1, bys := 4, zero := [.int .u32 0], ik := .u32 } :=
  ⟨_, (Try.prog.info? 229).getD default, Try.underlying229, by kernel_rfl, by kernel_rfl, by kernel_rfl, by kernel_rfl, by first | exact ⟨rfl, rfl⟩ | exact ⟨rfl, rfl, rfl⟩ | exact rfl, by decide⟩
theorem ty230 : TyP Try.prog 230 { kd := 7, sz := 1, bys := 1, zero := [.int .u8 0], ik := .u8 } :=
  ⟨_, (Try.prog.info? 230).getD default, Try.underlying230, by kernel_rfl, by kernel_rfl, by kernel_rfl, by kernel_rfl, by first | exact ⟨rfl, rfl⟩ | exact ⟨rfl, rfl, rfl⟩ | exact rfl, by decide⟩
theorem ty233 : TyP Try.prog 233 { kd := 4, sz := 1, bys := 8, zero := [.pointer none], el := 5 } :=
  ⟨_, (Try.prog.info? 233).getD default, Try.underlying233, by kernel_rfl, by kernel_rfl, by kernel_rfl, by kernel_rfl, by first | exact ⟨rfl, rfl⟩ | exact ⟨rfl, rfl, rfl⟩ | exact rfl, by decide⟩
theorem ty234 : TyP Try.prog 234 { kd := 7, sz := 1, bys := 4, zero := [.int .i32 0], ik := .i32 } :=
  ⟨_, (Try.prog.info? 234).getD default, Try.underlying234, by kernel_rfl, by kernel_rfl, by kernel_rfl, by kernel_rfl, by first | exact ⟨rfl, rfl⟩ | exact ⟨rfl, rfl, rfl⟩ | exact rfl, by decide⟩
theorem ty235 : TyP Try.prog 235 { kd := 7, sz := 1, bys := 4, zero := [.int .i32 0], ik := .i32 } :=
  ⟨_, (Try.prog.info? 235).getD default, Try.underlying235, by kernel_rfl, by kernel_rfl, by kernel_rfl, by kernel_rfl, by first | exact ⟨rfl, rfl⟩ | exact ⟨rfl, rfl, rfl⟩ | exact rfl, by decide⟩
def tab : List (Nat × TI) := [(2, { kd := 7, sz := 1, bys := 8, zero := [.int .i64 0], ik := .i64 }),
  (3, { kd := 7, sz := 1, bys := 8, zero := [.int .i64 0], ik := .i64 }),
  (4, { kd := 6, sz := 1, bys := 1, zero := [.bool false] }),
  (5, { kd := 7, sz := 1, bys := 1, zero := [.int .u8 0], ik := .u8 }),
  (6, { kd := 7, sz := 1, bys := 1, zero := [.int .u8 0], ik := .u8 }),
  (7, { kd := 2, sz := 4, bys := 24, zero := [.int .i64 0, .int .i64 0, .bool false, .int .u8 0], fl := [(0, 2), (1, 3), (2, 4), (3, 6)] }),
  (9, { kd := 5, sz := 1, bys := 16, zero := [.string ⟨#[]⟩] }),
  (12, { kd := 7, sz := 1, bys := 8, zero := [.int .u64 0], ik := .u64 }),
  (13, { kd := 2, sz := 2, bys := 24, zero := [.string ⟨#[]⟩, .int .u64 0], fl := [(0, 9), (1, 12)] }),
  (18, { kd := 2, sz := 1, bys := 8, zero := [.pointer none], fl := [(0, 17)] }),
  (21, { kd := 7, sz := 1, bys := 4, zero := [.int .i32 0], ik := .i32 }),
  (22, { kd := 1, sz := 1, bys := 24, zero := [.slice none 0 0], el := 5 }),
  (24, { kd := 1, sz := 1, bys := 24, zero := [.slice none 0 0], el := 35 }),
  (25, { kd := 1, sz := 1, bys := 24, zero := [.slice none 0 0], el := 38 }),
  (26, { kd := 2, sz := 2, bys := 32, zero := [.int .i64 0, .slice none 0 0], fl := [(0, 3), (1, 25)] }),
  (27, { kd := 2, sz := 2, bys := 32, zero := [.int .i64 0, .slice none 0 0], fl := [(0, 3), (1, 25)] }),
  (34, { kd := 2, sz := 5, bys := 56, zero := [.int .i64 0, .string ⟨#[]⟩, .string ⟨#[]⟩, .int .i64 0, .int .i64 0], fl := [(0, 3), (1, 9), (2, 9), (3, 3), (4, 3)] }),
  (35, { kd := 2, sz := 5, bys := 56, zero := [.int .i64 0, .string ⟨#[]⟩, .string ⟨#[]⟩, .int .i64 0, .int .i64 0], fl := [(0, 3), (1, 9), (2, 9), (3, 3), (4, 3)] }),
  (36, { kd := 1, sz := 1, bys := 24, zero := [.slice none 0 0], el := 188 }),
  (37, { kd := 2, sz := 5, bys := 64, zero := [.string ⟨#[]⟩, .int .i64 0, .int .i64 0, .int .i64 0, .slice none 0 0], fl := [(0, 9), (1, 3), (2, 3), (3, 3), (4, 36)] }),
  (38, { kd := 2, sz := 5, bys := 64, zero := [.string ⟨#[]⟩, .int .i64 0, .int .i64 0, .int .i64 0, .slice none 0 0], fl := [(0, 9), (1, 3), (2, 3), (3, 3), (4, 36)] }),
  (39, { kd := 1, sz := 1, bys := 24, zero := [.slice none 0 0], el := 100 }),
  (40, { kd := 1, sz := 1, bys := 24, zero := [.slice none 0 0], el := 151 }),
  (41, { kd := 2, sz := 2, bys := 32, zero := [.int .i64 0, .slice none 0 0], fl := [(0, 3), (1, 40)] }),
  (42, { kd := 2, sz := 2, bys := 32, zero := [.int .i64 0, .slice none 0 0], fl := [(0, 3), (1, 40)] }),
  (52, { kd := 1, sz := 1, bys := 24, zero := [.slice none 0 0], el := 61 }),
  (53, { kd := 1, sz := 1, bys := 24, zero := [.slice none 0 0], el := 9 }),
  (54, { kd := 2, sz := 3, bys := 40, zero := [.int .i64 0, .int .i64 0, .slice none 0 0], fl := [(0, 3), (1, 3), (2, 53)] }),
  (55, { kd := 2, sz := 3, bys := 40, zero := [.int .i64 0, .int .i64 0, .slice none 0 0], fl := [(0, 3), (1, 3), (2, 53)] }),
  (56, { kd := 1, sz := 1, bys := 24, zero := [.slice none 0 0], el := 3 }),
  (57, { kd := 2, sz := 3, bys := 56, zero := [.int .i64 0, .slice none 0 0, .slice none 0 0], fl := [(0, 3), (1, 53), (2, 56)] }),
  (58, { kd := 2, sz := 3, bys := 56, zero := [.int .i64 0, .slice none 0 0, .slice none 0 0], fl := [(0, 3), (1, 53), (2, 56)] }),
  (59, { kd := 1, sz := 1, bys := 24, zero := [.slice none 0 0], el := 158 }),
  (60, { kd := 2, sz := 14, bys := 208, zero := [.int .i64 0, .int .i64 0, .int .i64 0, .string ⟨#[]⟩, .int .i64 0, .int .i64 0, .slice none 0 0, .int .i64 0, .slice none 0 0, .slice none 0 0, .slice none 0 0, .bool false, .slice none 0 0, .string ⟨#[]⟩], fl := [(0, 3), (1, 3), (2, 3), (3, 9), (4, 55), (7, 58), (10, 39), (11, 4), (12, 59), (13, 9)] }),
  (61, { kd := 2, sz := 14, bys := 208, zero := [.int .i64 0, .int .i64 0, .int .i64 0, .string ⟨#[]⟩, .int .i64 0, .int .i64 0, .slice none 0 0, .int .i64 0, .slice none 0 0, .slice none 0 0, .slice none 0 0, .bool false, .slice none 0 0, .string ⟨#[]⟩], fl := [(0, 3), (1, 3), (2, 3), (3, 9), (4, 55), (7, 58), (10, 39), (11, 4), (12, 59), (13, 9)] }),
  (64, { kd := 1, sz := 1, bys := 24, zero := [.slice none 0 0], el := 72 }),
  (68, { kd := 2, sz := 3, bys := 40, zero := [.int .i64 0, .int .i64 0, .slice none 0 0], fl := [(0, 3), (1, 3), (2, 53)] }),
  (69, { kd := 2, sz := 3, bys := 56, zero := [.int .i64 0, .slice none 0 0, .slice none 0 0], fl := [(0, 3), (1, 53), (2, 56)] }),
  (70, { kd := 1, sz := 1, bys := 24, zero := [.slice none 0 0], el := 165 }),
  (71, { kd := 2, sz := 14, bys := 208, zero := [.int .i64 0, .int .i64 0, .int .i64 0, .string ⟨#[]⟩, .int .i64 0, .int .i64 0, .slice none 0 0, .int .i64 0, .slice none 0 0, .slice none 0 0, .slice none 0 0, .bool false, .slice none 0 0, .string ⟨#[]⟩], fl := [(0, 3), (1, 3), (2, 3), (3, 9), (4, 68), (7, 69), (10, 24), (11, 4), (12, 70), (13, 9)] }),
  (72, { kd := 2, sz := 14, bys := 208, zero := [.int .i64 0, .int .i64 0, .int .i64 0, .string ⟨#[]⟩, .int .i64 0, .int .i64 0, .slice none 0 0, .int .i64 0, .slice none 0 0, .slice none 0 0, .slice none 0 0, .bool false, .slice none 0 0, .string ⟨#[]⟩], fl := [(0, 3), (1, 3), (2, 3), (3, 9), (4, 68), (7, 69), (10, 24), (11, 4), (12, 70), (13, 9)] }),
  (79, { kd := 1, sz := 1, bys := 24, zero := [.slice none 0 0], el := 177 }),
  (80, { kd := 1, sz := 1, bys := 24, zero := [.slice none 0 0], el := 180 }),
  (81, { kd := 1, sz := 1, bys := 24, zero := [.slice none 0 0], el := 183 }),
  (82, { kd := 2, sz := 20, bys := 344, zero := [.string ⟨#[]⟩, .int .i64 0, .int .i64 0, .slice none 0 0, .slice none 0 0, .slice none 0 0, .int .i64 0, .int .i64 0, .int .i64 0, .int .i64 0, .slice none 0 0, .int .i64 0, .slice none 0 0, .slice none 0 0, .int .i64 0, .slice none 0 0, .slice none 0 0, .slice none 0 0, .slice none 0 0, .slice none 0 0], fl := [(0, 9), (1, 3), (2, 27), (4, 70), (5, 64), (6, 3), (7, 3), (8, 68), (11, 69), (14, 3), (15, 79), (16, 80), (17, 56), (18, 24), (19, 81)] }),
  (83, { kd := 2, sz := 20, bys := 344, zero := [.string ⟨#[]⟩, .int .i64 0, .int .i64 0, .slice none 0 0, .slice none 0 0, .slice none 0 0, .int .i64 0, .int .i64 0, .int .i64 0, .int .i64 0, .slice none 0 0, .int .i64 0, .slice none 0 0, .slice none 0 0, .int .i64 0, .slice none 0 0, .slice none 0 0, .slice none 0 0, .slice none 0 0, .slice none 0 0], fl := [(0, 9), (1, 3), (2, 27), (4, 70), (5, 64), (6, 3), (7, 3), (8, 68), (11, 69), (14, 3), (15, 79), (16, 80), (17, 56), (18, 24), (19, 81)] }),
  (88, { kd := 4, sz := 1, bys := 8, zero := [.pointer none], el := 138 }),
  (100, { kd := 2, sz := 5, bys := 56, zero := [.int .i64 0, .string ⟨#[]⟩, .string ⟨#[]⟩, .int .i64 0, .int .i64 0], fl := [(0, 3), (1, 9), (2, 9), (3, 3), (4, 3)] }),
  (137, { kd := 2, sz := 3, bys := 40, zero := [.slice none 0 0, .int .i64 0, .int .i64 0], fl := [(0, 22), (1, 3), (2, 3)] }),
  (138, { kd := 2, sz := 3, bys := 40, zero := [.slice none 0 0, .int .i64 0, .int .i64 0], fl := [(0, 22), (1, 3), (2, 3)] }),
  (149, { kd := 1, sz := 1, bys := 24, zero := [.slice none 0 0], el := 211 }),
  (150, { kd := 2, sz := 5, bys := 64, zero := [.string ⟨#[]⟩, .int .i64 0, .int .i64 0, .int .i64 0, .slice none 0 0], fl := [(0, 9), (1, 3), (2, 3), (3, 3), (4, 149)] }),
  (151, { kd := 2, sz := 5, bys := 64, zero := [.string ⟨#[]⟩, .int .i64 0, .int .i64 0, .int .i64 0, .slice none 0 0], fl := [(0, 9), (1, 3), (2, 3), (3, 3), (4, 149)] }),
  (157, { kd := 2, sz := 2, bys := 24, zero := [.string ⟨#[]⟩, .int .i64 0], fl := [(0, 9), (1, 3)] }),
  (158, { kd := 2, sz := 2, bys := 24, zero := [.string ⟨#[]⟩, .int .i64 0], fl := [(0, 9), (1, 3)] }),
  (165, { kd := 2, sz := 2, bys := 24, zero := [.string ⟨#[]⟩, .int .i64 0], fl := [(0, 9), (1, 3)] }),
  (176, { kd := 2, sz := 3, bys := 32, zero := [.int .i64 0, .int .i64 0, .string ⟨#[]⟩], fl := [(0, 3), (1, 3), (2, 9)] }),
  (177, { kd := 2, sz := 3, bys := 32, zero := [.int .i64 0, .int .i64 0, .string ⟨#[]⟩], fl := [(0, 3), (1, 3), (2, 9)] }),
  (179, { kd := 2, sz := 3, bys := 32, zero := [.int .i64 0, .int .i64 0, .string ⟨#[]⟩], fl := [(0, 3), (1, 3), (2, 9)] }),
  (180, { kd := 2, sz := 3, bys := 32, zero := [.int .i64 0, .int .i64 0, .string ⟨#[]⟩], fl := [(0, 3), (1, 3), (2, 9)] }),
  (182, { kd := 2, sz := 5, bys := 72, zero := [.int .i64 0, .slice none 0 0, .int .i64 0, .int .i64 0, .slice none 0 0], fl := [(0, 3), (1, 64), (2, 68)] }),
  (183, { kd := 2, sz := 5, bys := 72, zero := [.int .i64 0, .slice none 0 0, .int .i64 0, .int .i64 0, .slice none 0 0], fl := [(0, 3), (1, 64), (2, 68)] }),
  (187, { kd := 2, sz := 2, bys := 16, zero := [.int .i64 0, .int .i64 0], fl := [(0, 3), (1, 3)] }),
  (188, { kd := 2, sz := 2, bys := 16, zero := [.int .i64 0, .int .i64 0], fl := [(0, 3), (1, 3)] }),
  (206, { kd := 7, sz := 1, bys := 8, zero := [.int .u64 0], ik := .u64 }),
  (211, { kd := 2, sz := 2, bys := 16, zero := [.int .i64 0, .int .i64 0], fl := [(0, 3), (1, 3)] }),
  (223, { kd := 2, sz := 4, bys := 40, zero := [.pointer none, .pointer none, .pointer none, .string ⟨#[]⟩], fl := [(0, 17), (1, 17), (2, 17), (3, 9)] }),
  (224, { kd := 2, sz := 4, bys := 40, zero := [.pointer none, .pointer none, .pointer none, .string ⟨#[]⟩], fl := [(0, 17), (1, 17), (2, 17), (3, 9)] }),
  (229, { kd := 7, sz := 1, bys := 4, zero := [.int .u32 0], ik := .u32 }),
  (230, { kd := 7, sz := 1, bys := 1, zero := [.int .u8 0], ik := .u8 }),
  (233, { kd := 4, sz := 1, bys := 8, zero := [.pointer none], el := 5 }),
  (234, { kd := 7, sz := 1, bys := 4, zero := [.int .i32 0], ik := .i32 }),
  (235, { kd := 7, sz := 1, bys := 4, zero := [.int .i32 0], ik := .i32 })]
def τ : Ty := look tab
theorem all_cons {β : Type} {Q : β → Prop} {x : β} {l : List β} (h : Q x) (hs : ∀ p, p ∈ l → Q p) : ∀ p, p ∈ x :: l → Q p := fun p hp => (List.mem_cons.1 hp).elim (fun e => e ▸ h) (hs p)
theorem tabAll : ∀ p, p ∈ tab → TyP Try.prog p.1 p.2 :=
  all_cons ty2 (all_cons ty3 (all_cons ty4 (all_cons ty5 (all_cons ty6 (all_cons ty7 (all_cons ty9 (all_cons ty12 (all_cons ty13 (all_cons ty18 (all_cons ty21 (all_cons ty22 (all_cons ty24 (all_cons ty25 (all_cons ty26 (all_cons ty27 (all_cons ty34 (all_cons ty35 (all_cons ty36 (all_cons ty37 (all_cons ty38 (all_cons ty39 (all_cons ty40 (all_cons ty41 (all_cons ty42 (all_cons ty52 (all_cons ty53 (all_cons ty54 (all_cons ty55 (all_cons ty56 (all_cons ty57 (all_cons ty58 (all_cons ty59 (all_cons ty60 (all_cons ty61 (all_cons ty64 (all_cons ty68 (all_cons ty69 (all_cons ty70 (all_cons ty71 (all_cons ty72 (all_cons ty79 (all_cons ty80 (all_cons ty81 (all_cons ty82 (all_cons ty83 (all_cons ty88 (all_cons ty100 (all_cons ty137 (all_cons ty138 (all_cons ty149 (all_cons ty150 (all_cons ty151 (all_cons ty157 (all_cons ty158 (all_cons ty165 (all_cons ty176 (all_cons ty177 (all_cons ty179 (all_cons ty180 (all_cons ty182 (all_cons ty183 (all_cons ty187 (all_cons ty188 (all_cons ty206 (all_cons ty211 (all_cons ty223 (all_cons ty224 (all_cons ty229 (all_cons ty230 (all_cons ty233 (all_cons ty234 (all_cons ty235 ((fun p hp => by cases hp))))))))))))))))))))))))))))))))))))))))))))))))))))))))))))))))))))))))))
theorem hτ : Tys Try.prog τ := fun t i h => tabAll (t, i) (look_mem h)
theorem hmix : Try.prog.follows .mixedOrders = true := by kernel_rfl
/-! ### data -/
theorem tl_inj {a b : ByteArray} : a.toList = b.toList ↔ a = b := by
  constructor
  · intro h
    rw [ByteArray.toList_eq, ByteArray.toList_eq] at h
    obtain ⟨⟨x⟩⟩ := a
    obtain ⟨⟨y⟩⟩ := b
    have h : x = y := h
    rw [h]
  · intro h; rw [h]
theorem sm_no {α : Type} {f : α → α → Bool} (h : ∀ x y, f x y = true ↔ x = y) {x y : α} (hn : f x y = false) : x ≠ y := fun e => by rw [(h x y).2 e] at hn; cases hn
def dI (n : Int) : List D := [.v (.int .i64 n)]
def dS (s : ByteArray) : List D := [.v (.string s)]
structure S35 where
  f0 : Int
  f1 : ByteArray
  f2 : ByteArray
  f3 : Int
  f4 : Int
def d35 (x : S35) : List D := [.v (.int .i64 x.f0), .v (.string x.f1), .v (.string x.f2), .v (.int .i64 x.f3), .v (.int .i64 x.f4)]
def sm35 (x y : S35) : Bool := (x.f0 == y.f0) && ((x.f1.toList == y.f1.toList) && ((x.f2.toList == y.f2.toList) && ((x.f3 == y.f3) && ((x.f4 == y.f4)))))
theorem sm35_iff (x y : S35) : sm35 x y = true ↔ x = y := by
  obtain ⟨x0, x1, x2, x3, x4⟩ := x
  obtain ⟨y0, y1, y2, y3, y4⟩ := y
  simp [sm35, tl_inj]
def z35 : S35 := ⟨0, ⟨#[]⟩, ⟨#[]⟩, 0, 0⟩
structure S55 where
  f0 : Int
  f1 : Int
  f2 : List ByteArray
def d55 (x : S55) : List D := [.v (.int .i64 x.f0), .v (.int .i64 x.f1), .sl (x.f2.map dS)]
def z55 : S55 := ⟨0, 0, []⟩
structure S58 where
  f0 : Int
  f1 : List ByteArray
  f2 : List Int
def d58 (x : S58) : List D := [.v (.int .i64 x.f0), .sl (x.f1.map dS), .sl (x.f2.map dI)]
def z58 : S58 := ⟨0, [], []⟩
structure S100 where
  f0 : Int
  f1 : ByteArray
  f2 : ByteArray
  f3 : Int
  f4 : Int
def d100 (x : S100) : List D := [.v (.int .i64 x.f0), .v (.string x.f1), .v (.string x.f2), .v (.int .i64 x.f3), .v (.int .i64 x.f4)]
structure S158 where
  f0 : ByteArray
  f1 : Int
def d158 (x : S158) : List D := [.v (.string x.f0), .v (.int .i64 x.f1)]
structure S61 where
  f0 : Int
  f1 : Int
  f2 : Int
  f3 : ByteArray
  f4 : S55
  f5 : S58
  f6 : List S100
  f7 : Bool
  f8 : List S158
  f9 : ByteArray
def d61 (x : S61) : List D := [.v (.int .i64 x.f0), .v (.int .i64 x.f1), .v (.int .i64 x.f2), .v (.string x.f3), .v (.int .i64 x.f4.f0), .v (.int .i64 x.f4.f1), .sl (x.f4.f2.map dS), .v (.int .i64 x.f5.f0), .sl (x.f5.f1.map dS), .sl (x.f5.f2.map dI), .sl (x.f6.map d100), .v (.bool x.f7), .sl (x.f8.map d158), .v (.string x.f9)]
def z61 : S61 := ⟨0, 0, 0, ⟨#[]⟩, z55, z58, [], false, [], ⟨#[]⟩⟩
structure S68 where
  f0 : Int
  f1 : Int
  f2 : List ByteArray
def d68 (x : S68) : List D := [.v (.int .i64 x.f0), .v (.int .i64 x.f1), .sl (x.f2.map dS)]
def z68 : S68 := ⟨0, 0, []⟩
structure S69 where
  f0 : Int
  f1 : List ByteArray
  f2 : List Int
def d69 (x : S69) : List D := [.v (.int .i64 x.f0), .sl (x.f1.map dS), .sl (x.f2.map dI)]
def z69 : S69 := ⟨0, [], []⟩
structure S165 where
  f0 : ByteArray
  f1 : Int
def d165 (x : S165) : List D := [.v (.string x.f0), .v (.int .i64 x.f1)]
def sm165 (x y : S165) : Bool := (x.f0.toList == y.f0.toList) && ((x.f1 == y.f1))
theorem sm165_iff (x y : S165) : sm165 x y = true ↔ x = y := by
  obtain ⟨x0, x1⟩ := x
  obtain ⟨y0, y1⟩ := y
  simp [sm165, tl_inj]
def z165 : S165 := ⟨⟨#[]⟩, 0⟩
structure S72 where
  f0 : Int
  f1 : Int
  f2 : Int
  f3 : ByteArray
  f4 : S68
  f5 : S69
  f6 : List S35
  f7 : Bool
  f8 : List S165
  f9 : ByteArray
def d72 (x : S72) : List D := [.v (.int .i64 x.f0), .v (.int .i64 x.f1), .v (.int .i64 x.f2), .v (.string x.f3), .v (.int .i64 x.f4.f0), .v (.int .i64 x.f4.f1), .sl (x.f4.f2.map dS), .v (.int .i64 x.f5.f0), .sl (x.f5.f1.map dS), .sl (x.f5.f2.map dI), .sl (x.f6.map d35), .v (.bool x.f7), .sl (x.f8.map d165), .v (.string x.f9)]
def z72 : S72 := ⟨0, 0, 0, ⟨#[]⟩, z68, z69, [], false, [], ⟨#[]⟩⟩
end Go.Proofs.Ytggmeldoecnkaaa.Av

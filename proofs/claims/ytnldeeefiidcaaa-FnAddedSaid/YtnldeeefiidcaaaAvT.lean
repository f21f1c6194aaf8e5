/-
The types, as the walks ask for them; the data of structs.
Conditions: none.
-/
import Derived.Test.YtnldeeefiidcaaaAv23
import Derived.Test.YtnldeeefiidcaaaProg
set_option linter.unusedVariables false
namespace Go.Proofs.Ytnldeeefiidcaaa.Av
open Go.RowKit
set_option maxRecDepth 20000

theorem ty2 : TyP Try.prog 2 { kd := 7, sz := 1, bys := 8, zero := [.int .i64 0], ik := .i64 } :=
  ⟨_, (Try.prog.info? 2).getD default, Try.underlying2, by kernel_rfl, by kernel_rfl, by kernel_rfl, by kernel_rfl, by first | exact ⟨rfl, rfl⟩ | exact ⟨rfl, rfl, rfl⟩ | exact rfl, by decide⟩
theorem ty3 : TyP Try.prog 3 { kd := 7, sz := 1, bys := 8, zero := [.int .i64 0], ik := .i64 } :=
  ⟨_, (Try.prog.info? 3).getD default, Try.underlying3, by kernel_rfl, by kernel_rfl, by kernel_rfl, by kernel_rfl, by first | exact ⟨rfl, rfl⟩ | exact ⟨rfl, rfl, rfl⟩ | exact rfl, by decide⟩
theorem ty4 : TyP Try.prog 4 { kd := 6, sz := 1, bys := 1, zero := [.bool false] } :=
  ⟨_, (Try.prog.info? 4).getD default, Try.underlying4, by kernel_rfl, by kernel_rfl, by kernel_rfl, by kernel_rfl, by first | exact ⟨rfl, rfl⟩ | exact ⟨rfl, rfl, rfl⟩ | exact rfl, by decide⟩
theorem ty5 : TyP Try.prog 5 { kd := 7, sz := 1, bys := 1, zero := [.int .u8 0], ik := .u8 } :=
  ⟨_, (Try.prog.info? 5).getD default, Try.underlying5, by kernel_rfl, by kernel_rfl, by kernel_rfl, by kernel_rfl, by first | exact ⟨rfl, rfl⟩ | exact ⟨rfl, rfl, rfl⟩ | exact rfl, by decide⟩
theorem ty6 : TyP Try.prog 6 { kd := 7, sz := 1, bys := 1, zero := [.int .u8 0], ik := .u8 } :=
  ⟨_, (Try.prog.info? 6).getD default, Try.underlying6, by kernel_rfl, by kernel_rfl, by kernel_rfl, by kernel_rfl, by first | exact ⟨rfl, rfl⟩ | exact ⟨rfl, rfl, rfl⟩ | exact rfl, by decide⟩
theorem ty7 : TyP Try.prog 7 { kd := 2, sz := 4, bys := 24, zero := [.int .i64 0, .int .i64 0, .bool false, .int .u8 0], fl := [(0, 2), (1, 3), (2, 4), (3, 6)] } :=
  ⟨_, (Try.prog.info? 7).getD default, Try.underlying7, by kernel_rfl, by kernel_rfl, by kernel_rfl, by kernel_rfl, by first | exact ⟨rfl, rfl⟩ | exact ⟨rfl, rfl, rfl⟩ | exact rfl, by decide⟩
theorem ty9 : TyP Try.prog 9 { kd := 5, sz := 1, bys := 16, zero := [.string ⟨#[]⟩] } :=
  ⟨_, (Try.prog.info? 9).getD default, Try.underlying9, by kernel_rfl, by kernel_rfl, by kernel_rfl, by kernel_rfl, by first | exact ⟨rfl, rfl⟩ | exact ⟨rfl, rfl, rfl⟩ | exact rfl, by decide⟩
theorem ty12 : TyP Try.prog 12 { kd := 7, sz := 1, bys := 8, zero := [.int .u64 0], ik := .u64 } :=
  ⟨_, (Try.prog.info? 12).getD default, Try.underlying12, by kernel_rfl, by kernel_rfl, by kernel_rfl, by kernel_rfl, by first | exact ⟨rfl, rfl⟩ | exact ⟨rfl, rfl, rfl⟩ | exact rfl, by decide⟩
theorem ty13 : TyP Try.prog 13 { kd := 2, sz := 2, bys := 24, zero := [.string ⟨#[]⟩, .int .u64 0], fl := [(0, 9), (1, 12)] } :=
  ⟨_, (Try.prog.info? 13).getD default, Try.underlying13, by kernel_rfl, by kernel_rfl, by kernel_rfl, by kernel_rfl, by first | exact ⟨rfl, rfl⟩ | exact ⟨rfl, rfl, rfl⟩ | exact rfl, by decide⟩
theorem ty18 : TyP Try.prog 18 { kd := 2, sz := 1, bys := 8, zero := [.pointer none], fl := [(0, 17)] } :=
  ⟨_, (Try.prog.info? 18).getD default, Try.underlying18, by kernel_rfl, by kernel_rfl, by kernel_rfl, by kernel_rfl, by first | exact ⟨rfl, rfl⟩ | exact ⟨rfl, rfl, rfl⟩ | exact rfl, by decide⟩
theorem ty21 : TyP Try.prog 21 { kd := 7, sz := 1, bys := 4, zero := [.int .i32 0], ik := .i32 } :=
  ⟨_, (Try.prog.info? 21).getD default, Try.underlying21, by kernel_rfl, by kernel_rfl, by kernel_rfl, by kernel_rfl, by first | exact ⟨rfl, rfl⟩ | exact ⟨rfl, rfl, rfl⟩ | exact rfl, by decide⟩
theorem ty22 : TyP Try.prog 22 { kd := 1, sz := 1, bys := 24, zero := [.slice none 0 0], el := 51 } :=
  ⟨_, (Try.prog.info? 22).getD default, Try.underlying22, by kernel_rfl, by kernel_rfl, by kernel_rfl, by kernel_rfl, by first | exact ⟨rfl, rfl⟩ | exact ⟨rfl, rfl, rfl⟩ | exact rfl, by decide⟩
theorem ty23 : TyP Try.prog 23 { kd := 1, sz := 1, bys := 24, zero := [.slice none 0 0], el := 9 } :=
  ⟨_, (Try.prog.info? 23).getD default, Try.underlying23, by kernel_rfl, by kernel_rfl, by kernel_rfl, by kernel_rfl, by first | exact ⟨rfl, rfl⟩ | exact ⟨rfl, rfl, rfl⟩ | exact rfl, by decide⟩
theorem ty24 : TyP Try.prog 24 { kd := 2, sz := 3, bys := 40, zero := [.int .i64 0, .int .i64 0, .slice none 0 0], fl := [(0, 3), (1, 3), (2, 23)] } :=
  ⟨_, (Try.prog.info? 24).getD default, Try.underlying24, by kernel_rfl, by kernel_rfl, by kernel_rfl, by kernel_rfl, by first | exact ⟨rfl, rfl⟩ | exact ⟨rfl, rfl, rfl⟩ | exact rfl, by decide⟩
theorem ty25 : TyP Try.prog 25 { kd := 2, sz := 3, bys := 40, zero := [.int .i64 0, .int .i64 0, .slice none 0 0], fl := [(0, 3), (1, 3), (2, 23)] } :=
  ⟨_, (Try.prog.info? 25).getD default, Try.underlying25, by kernel_rfl, by kernel_rfl, by kernel_rfl, by kernel_rfl, by first | exact ⟨rfl, rfl⟩ | exact ⟨rfl, rfl, rfl⟩ | exact rfl, by decide⟩
theorem ty29 : TyP Try.prog 29 { kd := 1, sz := 1, bys := 24, zero := [.slice none 0 0], el := 59 } :=
  ⟨_, (Try.prog.info? 29).getD default, Try.underlying29, by kernel_rfl, by kernel_rfl, by kernel_rfl, by kernel_rfl, by first | exact ⟨rfl, rfl⟩ | exact ⟨rfl, rfl, rfl⟩ | exact rfl, by decide⟩
theorem ty31 : TyP Try.prog 31 { kd := 2, sz := 3, bys := 40, zero := [.int .i64 0, .int .i64 0, .slice none 0 0], fl := [(0, 3), (1, 3), (2, 23)] } :=
  ⟨_, (Try.prog.info? 31).getD default, Try.underlying31, by kernel_rfl, by kernel_rfl, by kernel_rfl, by kernel_rfl, by first | exact ⟨rfl, rfl⟩ | exact ⟨rfl, rfl, rfl⟩ | exact rfl, by decide⟩
theorem ty40 : TyP Try.prog 40 { kd := 1, sz := 1, bys := 24, zero := [.slice none 0 0], el := 3 } :=
  ⟨_, (Try.prog.info? 40).getD default, Try.underlying40, by kernel_rfl, by kernel_rfl, by kernel_rfl, by kernel_rfl, by first | exact ⟨rfl, rfl⟩ | exact ⟨rfl, rfl, rfl⟩ | exact rfl, by decide⟩
theorem ty46 : TyP Try.prog 46 { kd := 2, sz := 3, bys := 56, zero := [.int .i64 0, .slice none 0 0, .slice none 0 0], fl := [(0, 3), (1, 23), (2, 40)] } :=
  ⟨_, (Try.prog.info? 46).getD default, Try.underlying46, by kernel_rfl, by kernel_rfl, by kernel_rfl, by kernel_rfl, by first | exact ⟨rfl, rfl⟩ | exact ⟨rfl, rfl, rfl⟩ | exact rfl, by decide⟩
theorem ty47 : TyP Try.prog 47 { kd := 2, sz := 3, bys := 56, zero := [.int .i64 0, .slice none 0 0, .slice none 0 0], fl := [(0, 3), (1, 23), (2, 40)] } :=
  ⟨_, (Try.prog.info? 47).getD default, Try.underlying47, by kernel_rfl, by kernel_rfl, by kernel_rfl, by kernel_rfl, by first | exact ⟨rfl, rfl⟩ | exact ⟨rfl, rfl, rfl⟩ | exact rfl, by decide⟩
theorem ty48 : TyP Try.prog 48 { kd := 1, sz := 1, bys := 24, zero := [.slice none 0 0], el := 143 } :=
  ⟨_, (Try.prog.info? 48).getD default, Try.underlying48, by kernel_rfl, by kernel_rfl, by kernel_rfl, by kernel_rfl, by first | exact ⟨rfl, rfl⟩ | exact ⟨rfl, rfl, rfl⟩ | exact rfl, by decide⟩
theorem ty49 : TyP Try.prog 49 { kd := 1, sz := 1, bys := 24, zero := [.slice none 0 0], el := 145 } :=
  ⟨_, (Try.prog.info? 49).getD default, Try.underlying49, by kernel_rfl, by kernel_rfl, by kernel_rfl, by kernel_rfl, by first | exact ⟨rfl, rfl⟩ | exact ⟨rfl, rfl, rfl⟩ | exact rfl, by decide⟩
theorem ty50 : TyP Try.prog 50 { kd := 2, sz := 14, bys := 208, zero := [.int .i64 0, .int .i64 0, .int .i64 0, .string ⟨#[]⟩, .int .i64 0, .int .i64 0, .slice none 0 0, .int .i64 0, .slice none 0 0, .slice none 0 0, .slice none 0 0, .bool false, .slice none 0 0, .string ⟨#[]⟩], fl := [(0, 3), (1, 3), (2, 3), (3, 9), (4, 25), (7, 47), (10, 48), (11, 4), (12, 49), (13, 9)] } :=
  ⟨_, (Try.prog.info? 50).getD default, Try.underlying50, by kernel_rfl, by kernel_rfl, by kernel_rfl, by kernel_rfl, by first | exact ⟨rfl, rfl⟩ | exact ⟨rfl, rfl, rfl⟩ | exact rfl, by decide⟩
theorem ty51 : TyP Try.prog 51 { kd := 2, sz := 14, bys := 208, zero := [.int .i64 0, .int .i64 0, .int .i64 0, .string ⟨#[]⟩, .int .i64 0, .int .i64 0, .slice none 0 0, .int .i64 0, .slice none 0 0, .slice none 0 0, .slice none 0 0, .bool false, .slice none 0 0, .string ⟨#[]⟩], fl := [(0, 3), (1, 3), (2, 3), (3, 9), (4, 25), (7, 47), (10, 48), (11, 4), (12, 49), (13, 9)] } :=
  ⟨_, (Try.prog.info? 51).getD default, Try.underlying51, by kernel_rfl, by kernel_rfl, by kernel_rfl, by kernel_rfl, by first | exact ⟨rfl, rfl⟩ | exact ⟨rfl, rfl, rfl⟩ | exact rfl, by decide⟩
theorem ty55 : TyP Try.prog 55 { kd := 2, sz := 3, bys := 56, zero := [.int .i64 0, .slice none 0 0, .slice none 0 0], fl := [(0, 3), (1, 23), (2, 40)] } :=
  ⟨_, (Try.prog.info? 55).getD default, Try.underlying55, by kernel_rfl, by kernel_rfl, by kernel_rfl, by kernel_rfl, by first | exact ⟨rfl, rfl⟩ | exact ⟨rfl, rfl, rfl⟩ | exact rfl, by decide⟩
theorem ty56 : TyP Try.prog 56 { kd := 1, sz := 1, bys := 24, zero := [.slice none 0 0], el := 120 } :=
  ⟨_, (Try.prog.info? 56).getD default, Try.underlying56, by kernel_rfl, by kernel_rfl, by kernel_rfl, by kernel_rfl, by first | exact ⟨rfl, rfl⟩ | exact ⟨rfl, rfl, rfl⟩ | exact rfl, by decide⟩
theorem ty57 : TyP Try.prog 57 { kd := 1, sz := 1, bys := 24, zero := [.slice none 0 0], el := 122 } :=
  ⟨_, (Try.prog.info? 57).getD default, Try.underlying57, by kernel_rfl, by kernel_rfl, by kernel_rfl, by kernel_rfl, by first | exact ⟨rfl, rfl⟩ | exact ⟨rfl, rfl, rfl⟩ | exact rfl, by decide⟩
theorem ty58 : TyP Try.prog 58 { kd := 2, sz := 14, bys := 208, zero := [.int .i64 0, .int .i64 0, .int .i64 0, .string ⟨#[]⟩, .int .i64 0, .int .i64 0, .slice none 0 0, .int .i64 0, .slice none 0 0, .slice none 0 0, .slice none 0 0, .bool false, .slice none 0 0, .string ⟨#[]⟩], fl := [(0, 3), (1, 3), (2, 3), (3, 9), (4, 31), (7, 55), (10, 56), (11, 4), (12, 57), (13, 9)] } :=
  ⟨_, (Try.prog.info? 58).getD default, Try.underlying58, by kernel_rfl, by kernel_rfl, by kernel_rfl, by kernel_rfl, by first | exact ⟨rfl, rfl⟩ | exact ⟨rfl, rfl, rfl⟩ | exact rfl, by decide⟩
theorem ty59 : TyP Try.prog 59 { kd := 2, sz := 14, bys := 208, zero := [.int .i64 0, .int .i64 0, .int .i64 0, .string ⟨#[]⟩, .int .i64 0, .int .i64 0, .slice none 0 0, .int .i64 0, .slice none 0 0, .slice none 0 0, .slice none 0 0, .bool false, .slice none 0 0, .string ⟨#[]⟩], fl := [(0, 3), (1, 3), (2, 3), (3, 9), (4, 31), (7, 55), (10, 56), (11, 4), (12, 57), (13, 9)] } :=
  ⟨_, (Try.prog.info? 59).getD default, Try.underlying59, by kernel_rfl, by kernel_rfl, by kernel_rfl, by kernel_rfl, by first | exact ⟨rfl, rfl⟩ | exact ⟨rfl, rfl, rfl⟩ | exact rfl, by decide⟩
theorem ty65 : TyP Try.prog 65 { kd := 1, sz := 1, bys := 24, zero := [.slice none 0 0], el := 5 } :=
  ⟨_, (Try.prog.info? 65).getD default, Try.underlying65, by kernel_rfl, by kernel_rfl, by kernel_rfl, by kernel_rfl, by first | exact ⟨rfl, rfl⟩ | exact ⟨rfl, rfl, rfl⟩ | exact rfl, by decide⟩
theorem ty74 : TyP Try.prog 74 { kd := 1, sz := 1, bys := 24, zero := [.slice none 0 0], el := 87 } :=
  ⟨_, (Try.prog.info? 74).getD default, Try.underlying74, by kernel_rfl, by kernel_rfl, by kernel_rfl, by kernel_rfl, by first | exact ⟨rfl, rfl⟩ | exact ⟨rfl, rfl, rfl⟩ | exact rfl, by decide⟩
theorem ty75 : TyP Try.prog 75 { kd := 2, sz := 3, bys := 32, zero := [.int .i64 0, .int .i64 0, .string ⟨#[]⟩], fl := [(0, 3), (1, 3), (2, 9)] } :=
  ⟨_, (Try.prog.info? 75).getD default, Try.underlying75, by kernel_rfl, by kernel_rfl, by kernel_rfl, by kernel_rfl, by first | exact ⟨rfl, rfl⟩ | exact ⟨rfl, rfl, rfl⟩ | exact rfl, by decide⟩
theorem ty76 : TyP Try.prog 76 { kd := 2, sz := 3, bys := 32, zero := [.int .i64 0, .int .i64 0, .string ⟨#[]⟩], fl := [(0, 3), (1, 3), (2, 9)] } :=
  ⟨_, (Try.prog.info? 76).getD default, Try.underlying76, by kernel_rfl, by kernel_rfl, by kernel_rfl, by kernel_rfl, by first | exact ⟨rfl, rfl⟩ | exact ⟨rfl, rfl, rfl⟩ | exact rfl, by decide⟩
theorem ty77 : TyP Try.prog 77 { kd := 2, sz := 3, bys := 32, zero := [.int .i64 0, .int .i64 0, .string ⟨#[]⟩], fl := [(0, 3), (1, 3), (2, 9)] } :=
  ⟨_, (Try.prog.info? 77).getD default, Try.underlying77, by kernel_rfl, by kernel_rfl, by kernel_rfl, by kernel_rfl, by first | exact ⟨rfl, rfl⟩ | exact ⟨rfl, rfl, rfl⟩ | exact rfl, by decide⟩
theorem ty78 : TyP Try.prog 78 { kd := 2, sz := 3, bys := 32, zero := [.int .i64 0, .int .i64 0, .string ⟨#[]⟩], fl := [(0, 3), (1, 3), (2, 9)] } :=
  ⟨_, (Try.prog.info? 78).getD default, Try.underlying78, by kernel_rfl, by kernel_rfl, by kernel_rfl, by kernel_rfl, by first | exact ⟨rfl, rfl⟩ | exact ⟨rfl, rfl, rfl⟩ | exact rfl, by decide⟩
theorem ty79 : TyP Try.prog 79 { kd := 2, sz := 16, bys := 216, zero := [.int .i64 0, .string ⟨#[]⟩, .int .i64 0, .slice none 0 0, .int .i64 0, .int .i64 0, .string ⟨#[]⟩, .int .i64 0, .int .i64 0, .string ⟨#[]⟩, .int .i64 0, .int .i64 0, .slice none 0 0, .int .i64 0, .slice none 0 0, .slice none 0 0], fl := [(0, 3), (1, 9), (2, 3), (3, 29), (4, 76), (7, 78), (10, 31), (13, 55)] } :=
  ⟨_, (Try.prog.info? 79).getD default, Try.underlying79, by kernel_rfl, by kernel_rfl, by kernel_rfl, by kernel_rfl, by first | exact ⟨rfl, rfl⟩ | exact ⟨rfl, rfl, rfl⟩ | exact rfl, by decide⟩
theorem ty80 : TyP Try.prog 80 { kd := 2, sz := 16, bys := 216, zero := [.int .i64 0, .string ⟨#[]⟩, .int .i64 0, .slice none 0 0, .int .i64 0, .int .i64 0, .string ⟨#[]⟩, .int .i64 0, .int .i64 0, .string ⟨#[]⟩, .int .i64 0, .int .i64 0, .slice none 0 0, .int .i64 0, .slice none 0 0, .slice none 0 0], fl := [(0, 3), (1, 9), (2, 3), (3, 29), (4, 76), (7, 78), (10, 31), (13, 55)] } :=
  ⟨_, (Try.prog.info? 80).getD default, Try.underlying80, by kernel_rfl, by kernel_rfl, by kernel_rfl, by kernel_rfl, by first | exact ⟨rfl, rfl⟩ | exact ⟨rfl, rfl, rfl⟩ | exact rfl, by decide⟩
theorem ty86 : TyP Try.prog 86 { kd := 2, sz := 5, bys := 48, zero := [.int .i64 0, .int .i64 0, .int .i64 0, .int .i64 0, .string ⟨#[]⟩], fl := [(0, 3), (1, 3), (2, 3), (3, 3), (4, 9)] } :=
  ⟨_, (Try.prog.info? 86).getD default, Try.underlying86, by kernel_rfl, by kernel_rfl, by kernel_rfl, by kernel_rfl, by first | exact ⟨rfl, rfl⟩ | exact ⟨rfl, rfl, rfl⟩ | exact rfl, by decide⟩
theorem ty87 : TyP Try.prog 87 { kd := 2, sz := 5, bys := 48, zero := [.int .i64 0, .int .i64 0, .int .i64 0, .int .i64 0, .string ⟨#[]⟩], fl := [(0, 3), (1, 3), (2, 3), (3, 3), (4, 9)] } :=
  ⟨_, (Try.prog.info? 87).getD default, Try.underlying87, by kernel_rfl, by kernel_rfl, by kernel_rfl, by kernel_rfl, by first | exact ⟨rfl, rfl⟩ | exact ⟨rfl, rfl, rfl⟩ | exact rfl, by decide⟩
theorem ty112 : TyP Try.prog 112 { kd := 4, sz := 1, bys := 8, zero := [.pointer none], el := 159 } :=
  ⟨_, (Try.prog.info? 112).getD default, Try.underlying112, by kernel_rfl, by kernel_rfl, by kernel_rfl, by kernel_rfl, by first | exact ⟨rfl, rfl⟩ | exact ⟨rfl, rfl, rfl⟩ | exact rfl, by decide⟩
theorem ty119 : TyP Try.prog 119 { kd := 2, sz := 5, bys := 56, zero := [.int .i64 0, .string ⟨#[]⟩, .string ⟨#[]⟩, .int .i64 0, .int .i64 0], fl := [(0, 3), (1, 9), (2, 9), (3, 3), (4, 3)] } :=
  ⟨_, (Try.prog.info? 119).getD default, Try.underlying119, by kernel_rfl, by kernel_rfl, by kernel_rfl, by kernel_rfl, by first | exact ⟨rfl, rfl⟩ | exact ⟨rfl, rfl, rfl⟩ | exact rfl, by decide⟩
theorem ty120 : TyP Try.prog 120 { kd := 2, sz := 5, bys := 56, zero := [.int .i64 0, .string ⟨#[]⟩, .string ⟨#[]⟩, .int .i64 0, .int .i64 0], fl := [(0, 3), (1, 9), (2, 9), (3, 3), (4, 3)] } :=
  ⟨_, (Try.prog.info? 120).getD default, Try.underlying120, by kernel_rfl, by kernel_rfl, by kernel_rfl, by kernel_rfl, by first | exact ⟨rfl, rfl⟩ | exact ⟨rfl, rfl, rfl⟩ | exact rfl, by decide⟩
theorem ty121 : TyP Try.prog 121 { kd := 2, sz := 2, bys := 24, zero := [.string ⟨#[]⟩, .int .i64 0], fl := [(0, 9), (1, 3)] } :=
  ⟨_, (Try.prog.info? 121).getD default, Try.underlying121, by kernel_rfl, by kernel_rfl, by kernel_rfl, by kernel_rfl, by first | exact ⟨rfl, rfl⟩ | exact ⟨rfl, rfl, rfl⟩ | exact rfl, by decide⟩
theorem ty122 : TyP Try.prog 122 { kd := 2, sz := 2, bys := 24, zero := [.string ⟨#[]⟩, .int .i64 0], fl := [(0, 9), (1, 3)] } :=
  ⟨_, (Try.prog.info? 122).getD default, Try.underlying122, by kernel_rfl, by kernel_rfl, by kernel_rfl, by kernel_rfl, by first | exact ⟨rfl, rfl⟩ | exact ⟨rfl, rfl, rfl⟩ | exact rfl, by decide⟩
theorem ty143 : TyP Try.prog 143 { kd := 2, sz := 5, bys := 56, zero := [.int .i64 0, .string ⟨#[]⟩, .string ⟨#[]⟩, .int .i64 0, .int .i64 0], fl := [(0, 3), (1, 9), (2, 9), (3, 3), (4, 3)] } :=
  ⟨_, (Try.prog.info? 143).getD default, Try.underlying143, by kernel_rfl, by kernel_rfl, by kernel_rfl, by kernel_rfl, by first | exact ⟨rfl, rfl⟩ | exact ⟨rfl, rfl, rfl⟩ | exact rfl, by decide⟩
theorem ty145 : TyP Try.prog 145 { kd := 2, sz := 2, bys := 24, zero := [.string ⟨#[]⟩, .int .i64 0], fl := [(0, 9), (1, 3)] } :=
  ⟨_, (Try.prog.info? 145).getD default, Try.underlying145, by kernel_rfl, by kernel_rfl, by kernel_rfl, by kernel_rfl, by first | exact ⟨rfl, rfl⟩ | exact ⟨rfl, rfl, rfl⟩ | exact rfl, by decide⟩
theorem ty158 : TyP Try.prog 158 { kd := 2, sz := 3, bys := 40, zero := [.slice none 0 0, .int .i64 0, .int .i64 0], fl := [(0, 65), (1, 3), (2, 3)] } :=
  ⟨_, (Try.prog.info? 158).getD default, Try.underlying158, by kernel_rfl, by kernel_rfl, by kernel_rfl, by kernel_rfl, by first | exact ⟨rfl, rfl⟩ | exact ⟨rfl, rfl, rfl⟩ | exact rfl, by decide⟩
theorem ty159 : TyP Try.prog 159 { kd := 2, sz := 3, bys := 40, zero := [.slice none 0 0, .int .i64 0, .int .i64 0], fl := [(0, 65), (1, 3), (2, 3)] } :=
  ⟨_, (Try.prog.info? 159).getD default, Try.underlying159, by kernel_rfl, by kernel_rfl, by kernel_rfl, by kernel_rfl, by first | exact ⟨rfl, rfl⟩ | exact ⟨rfl, rfl, rfl⟩ | exact rfl, by decide⟩
theorem ty173 : TyP Try.prog 173 { kd := 7, sz := 1, bys := 8, zero := [.int .u64 0], ik := .u64 } :=
  ⟨_, (Try.prog.info? 173).getD default, Try.underlying173, by kernel_rfl, by kernel_rfl, by kernel_rfl, by kernel_rfl, by first | exact ⟨rfl, rfl⟩ | exact ⟨rfl, rfl, rfl⟩ | exact rfl, by decide⟩
theorem ty181 : TyP Try.prog 181 { kd := 2, sz := 4, bys := 40, zero := [.pointer none, .pointer none, .pointer none, .string ⟨#[]⟩], fl := [(0, 17), (1, 17), (2, 17), (3, 9)] } :=
  ⟨_, (Try.prog.info? 181).getD default, Try.underlying181, by kernel_rfl, by kernel_rfl, by kernel_rfl, by kernel_rfl, by first | exact ⟨rfl, rfl⟩ | exact ⟨rfl, rfl, rfl⟩ | exact rfl, by decide⟩
theorem ty182 : TyP Try.prog 182 { kd := 2, sz := 4, bys := 40, zero := [.pointer none, .pointer none, .pointer none, .string ⟨#[]⟩], fl := [(0, 17), (1, 17), (2, 17), (3, 9)] } :=
  ⟨_, (Try.prog.info? 182).getD default, Try.underlying182, by kernel_rfl, by kernel_rfl, by kernel_rfl, by kernel_rfl, by first | exact ⟨rfl, rfl⟩ | exact ⟨rfl, rfl, rfl⟩ | exact rfl, by decide⟩
theorem ty187 : TyP Try.prog 187 { kd := 7, sz := 1, bys := 4, zero := [.int .u32 0], ik := .u32 } :=
  ⟨_, (Try.prog.info? 187).getD default, Try.underlying187, by kernel_rfl, by kernel_rfl, by kernel_rfl, by kernel_rfl, by first | exact ⟨rfl, rfl⟩ | exact ⟨rfl, rfl, rfl⟩ | exact rfl, by decide⟩
theorem ty188 : TyP Try.prog 188 { kd := 7, sz := 1, bys := 1, zero := [.int .u8 0], ik := .u8 } :=
  ⟨_, (Try.prog.info? 188).getD default, Try.underlying188, by kernel_rfl, by kernel_rfl, by kernel_rfl, by kernel_rfl, by first | exact ⟨rfl, rfl⟩ | exact ⟨rfl, rfl, rfl⟩ | exact rfl, by decide⟩
theorem ty191 : TyP Try.prog 191 { kd := 4, sz := 1, bys := 8, zero := [.pointer none], el := 5 } :=
  ⟨_, (Try.prog.info? 191).getD default, Try.underlying191, by kernel_rfl, by kernel_rfl, by kernel_rfl, by kernel_rfl, by first | exact ⟨rfl, rfl⟩ | exact ⟨rfl, rfl, rfl⟩ | exact rfl, by decide⟩
theorem ty192 : TyP Try.prog 192 { kd := 7, sz := 1, bys := 4, zero := [.int .i32 0], ik := .i32 } :=
  ⟨_, (Try.prog.info? 192).getD default, Try.underlying192, by kernel_rfl, by kernel_rfl, by kernel_rfl, by kernel_rfl, by first | exact ⟨rfl, rfl⟩ | exact ⟨rfl, rfl, rfl⟩ | exact rfl, by decide⟩
theorem ty193 : TyP Try.prog 193 { kd := 7, sz := 1, bys := 4, zero := [.int .i32 0], ik := .i32 } :=
  ⟨_, (Try.prog.info? 193).getD default, Try.underlying193, by kernel_rfl, by kernel_rfl, by kernel_rfl, by kernel_rfl, by first | exact ⟨rfl, rfl⟩ | exact ⟨rfl, rfl, rfl⟩ | exact rfl, by decide⟩
def tab : List (Nat × TI) := [(2, { kd := 7, sz := 1, bys := 8, zero := [.int .i64 0], ik := .i64 }),
  (3, { kd := 7, sz := 1, bys := 8, zero := [.int .i64 0], ik := .i64 }),
  (4, { kd := 6, sz := 1, bys := 1, zero := [.bool false] }),
  (5, { kd := 7, sz := 1, bys := 1, zero := [.int .u8 0], ik := .u8 }),
  (6, { kd := 7, sz := 1, bys := 1, zero := [.int .u8 0], ik := .u8 }),
  (7, { kd := 2, sz := 4, bys := 24, zero := [.int .i64 0, .int .i64 0, .bool false, .int .u8 0], fl := [(0, 2), (1, 3), (2, 4), (3, 6)] }),
  (9, { kd := 5, sz := 1, bys := 16, zero := [.string ⟨#[]⟩] }),
  (12, { kd := 7, sz := 1, bys := 8, zero := [.int .u64 0], ik := .u64 }),
  (13, { kd := 2, sz := 2, bys := 24, zero := [.string ⟨#[]⟩, .int .u64 0], fl := [(0, 9), (1, 12)] }),
  (18, { kd := 2, sz := 1, bys := 8, zero := [.pointer none], fl := [(0, 17)] }),
  (21, { kd := 7, sz := 1, bys := 4, zero := [.int .i32 0], ik := .i32 }),
  (22, { kd := 1, sz := 1, bys := 24, zero := [.slice none 0 0], el := 51 }),
  (23, { kd := 1, sz := 1, bys := 24, zero := [.slice none 0 0], el := 9 }),
  (24, { kd := 2, sz := 3, bys := 40, zero := [.int .i64 0, .int .i64 0, .slice none 0 0], fl := [(0, 3), (1, 3), (2, 23)] }),
  (25, { kd := 2, sz := 3, bys := 40, zero := [.int .i64 0, .int .i64 0, .slice none 0 0], fl := [(0, 3), (1, 3), (2, 23)] }),
  (29, { kd := 1, sz := 1, bys := 24, zero := [.slice none 0 0], el := 59 }),
  (31, { kd := 2, sz := 3, bys := 40, zero := [.int .i64 0, .int .i64 0, .slice none 0 0], fl := [(0, 3), (1, 3), (2, 23)] }),
  (40, { kd := 1, sz := 1, bys := 24, zero := [.slice none 0 0], el := 3 }),
  (46, { kd := 2, sz := 3, bys := 56, zero := [.int .i64 0, .slice none 0 0, .slice none 0 0], fl := [(0, 3), (1, 23), (2, 40)] }),
  (47, { kd := 2, sz := 3, bys := 56, zero := [.int .i64 0, .slice none 0 0, .slice none 0 0], fl := [(0, 3), (1, 23), (2, 40)] }),
  (48, { kd := 1, sz := 1, bys := 24, zero := [.slice none 0 0], el := 143 }),
  (49, { kd := 1, sz := 1, bys := 24, zero := [.slice none 0 0], el := 145 }),
  (50, { kd := 2, sz := 14, bys := 208, zero := [.int .i64 0, .int .i64 0, .int .i64 0, .string ⟨#[]⟩, .int .i64 0, .int .i64 0, .slice none 0 0, .int .i64 0, .slice none 0 0, .slice none 0 0, .slice none 0 0, .bool false, .slice none 0 0, .string ⟨#[]⟩], fl := [(0, 3), (1, 3), (2, 3), (3, 9), (4, 25), (7, 47), (10, 48), (11, 4), (12, 49), (13, 9)] }),
  (51, { kd := 2, sz := 14, bys := 208, zero := [.int .i64 0, .int .i64 0, .int .i64 0, .string ⟨#[]⟩, .int .i64 0, .int .i64 0, .slice none 0 0, .int .i64 0, .slice none 0 0, .slice none 0 0, .slice none 0 0, .bool false, .slice none 0 0, .string ⟨#[]⟩], fl := [(0, 3), (1, 3), (2, 3), (3, 9), (4, 25), (7, 47), (10, 48), (11, 4), (12, 49), (13, 9)] }),
  (55, { kd := 2, sz := 3, bys := 56, zero := [.int .i64 0, .slice none 0 0, .slice none 0 0], fl := [(0, 3), (1, 23), (2, 40)] }),
  (56, { kd := 1, sz := 1, bys := 24, zero := [.slice none 0 0], el := 120 }),
  (57, { kd := 1, sz := 1, bys := 24, zero := [.slice none 0 0], el := 122 }),
  (58, { kd := 2, sz := 14, bys := 208, zero := [.int .i64 0, .int .i64 0, .int .i64 0, .string ⟨#[]⟩, .int .i64 0, .int .i64 0, .slice none 0 0, .int .i64 0, .slice none 0 0, .slice none 0 0, .slice none 0 0, .bool false, .slice none 0 0, .string ⟨#[]⟩], fl := [(0, 3), (1, 3), (2, 3), (3, 9), (4, 31), (7, 55), (10, 56), (11, 4), (12, 57), (13, 9)] }),
  (59, { kd := 2, sz := 14, bys := 208, zero := [.int .i64 0, .int .i64 0, .int .i64 0, .string ⟨#[]⟩, .int .i64 0, .int .i64 0, .slice none 0 0, .int .i64 0, .slice none 0 0, .slice none 0 0, .slice none 0 0, .bool false, .slice none 0 0, .string ⟨#[]⟩], fl := [(0, 3), (1, 3), (2, 3), (3, 9), (4, 31), (7, 55), (10, 56), (11, 4), (12, 57), (13, 9)] }),
  (65, { kd := 1, sz := 1, bys := 24, zero := [.slice none 0 0], el := 5 }),
  (74, { kd := 1, sz := 1, bys := 24, zero := [.slice none 0 0], el := 87 }),
  (75, { kd := 2, sz := 3, bys := 32, zero := [.int .i64 0, .int .i64 0, .string ⟨#[]⟩], fl := [(0, 3), (1, 3), (2, 9)] }),
  (76, { kd := 2, sz := 3, bys := 32, zero := [.int .i64 0, .int .i64 0, .string ⟨#[]⟩], fl := [(0, 3), (1, 3), (2, 9)] }),
  (77, { kd := 2, sz := 3, bys := 32, zero := [.int .i64 0, .int .i64 0, .string ⟨#[]⟩], fl := [(0, 3), (1, 3), (2, 9)] }),
  (78, { kd := 2, sz := 3, bys := 32, zero := [.int .i64 0, .int .i64 0, .string ⟨#[]⟩], fl := [(0, 3), (1, 3), (2, 9)] }),
  (79, { kd := 2, sz := 16, bys := 216, zero := [.int .i64 0, .string ⟨#[]⟩, .int .i64 0, .slice none 0 0, .int .i64 0, .int .i64 0, .string ⟨#[]⟩, .int .i64 0, .int .i64 0, .string ⟨#[]⟩, .int .i64 0, .int .i64 0, .slice none 0 0, .int .i64 0, .slice none 0 0, .slice none 0 0], fl := [(0, 3), (1, 9), (2, 3), (3, 29), (4, 76), (7, 78), (10, 31), (13, 55)] }),
  (80, { kd := 2, sz := 16, bys := 216, zero := [.int .i64 0, .string ⟨#[]⟩, .int .i64 0, .slice none 0 0, .int .i64 0, .int .i64 0, .string ⟨#[]⟩, .int .i64 0, .int .i64 0, .string ⟨#[]⟩, .int .i64 0, .int .i64 0, .slice none 0 0, .int .i64 0, .slice none 0 0, .slice none 0 0], fl := [(0, 3), (1, 9), (2, 3), (3, 29), (4, 76), (7, 78), (10, 31), (13, 55)] }),
  (86, { kd := 2, sz := 5, bys := 48, zero := [.int .i64 0, .int .i64 0, .int .i64 0, .int .i64 0, .string ⟨#[]⟩], fl := [(0, 3), (1, 3), (2, 3), (3, 3), (4, 9)] }),
  (87, { kd := 2, sz := 5, bys := 48, zero := [.int .i64 0, .int .i64 0, .int .i64 0, .int .i64 0, .string ⟨#[]⟩], fl := [(0, 3), (1, 3), (2, 3), (3, 3), (4, 9)] }),
  (112, { kd := 4, sz := 1, bys := 8, zero := [.pointer none], el := 159 }),
  (119, { kd := 2, sz := 5, bys := 56, zero := [.int .i64 0, .string ⟨#[]⟩, .string ⟨#[]⟩, .int .i64 0, .int .i64 0], fl := [(0, 3), (1, 9), (2, 9), (3, 3), (4, 3)] }),
  (120, { kd := 2, sz := 5, bys := 56, zero := [.int .i64 0, .string ⟨#[]⟩, .string ⟨#[]⟩, .int .i64 0, .int .i64 0], fl := [(0, 3), (1, 9), (2, 9), (3, 3), (4, 3)] }),
  (121, { kd := 2, sz := 2, bys := 24, zero := [.string ⟨#[]⟩, .int .i64 0], fl := [(0, 9), (1, 3)] }),
  (122, { kd := 2, sz := 2, bys := 24, zero := [.string ⟨#[]⟩, .int .i64 0], fl := [(0, 9), (1, 3)] }),
  (143, { kd := 2, sz := 5, bys := 56, zero := [.int .i64 0, .string ⟨#[]⟩, .string ⟨#[]⟩, .int .i64 0, .int .i64 0], fl := [(0, 3), (1, 9), (2, 9), (3, 3), (4, 3)] }),
  (145, { kd := 2, sz := 2, bys := 24, zero := [.string ⟨#[]⟩, .int .i64 0], fl := [(0, 9), (1, 3)] }),
  (158, { kd := 2, sz := 3, bys := 40, zero := [.slice none 0 0, .int .i64 0, .int .i64 0], fl := [(0, 65), (1, 3), (2, 3)] }),
  (159, { kd := 2, sz := 3, bys := 40, zero := [.slice none 0 0, .int .i64 0, .int .i64 0], fl := [(0, 65), (1, 3), (2, 3)] }),
  (173, { kd := 7, sz := 1, bys := 8, zero := [.int .u64 0], ik := .u64 }),
  (181, { kd := 2, sz := 4, bys := 40, zero := [.pointer none, .pointer none, .pointer none, .string ⟨#[]⟩], fl := [(0, 17), (1, 17), (2, 17), (3, 9)] }),
  (182, { kd := 2, sz := 4, bys := 40, zero := [.pointer none, .pointer none, .pointer none, .string ⟨#[]⟩], fl := [(0, 17), (1, 17), (2, 17), (3, 9)] }),
  (187, { kd := 7, sz := 1, bys := 4, zero := [.int .u32 0], ik := .u32 }),
  (188, { kd := 7, sz := 1, bys := 1, zero := [.int .u8 0], ik := .u8 }),
  (191, { kd := 4, sz := 1, bys := 8, zero := [.pointer none], el := 5 }),
  (192, { kd := 7, sz := 1, bys := 4, zero := [.int .i32 0], ik := .i32 }),
  (193, { kd := 7, sz := 1, bys := 4, zero := [.int .i32 0], ik := .i32 })]
def τ : Ty := look tab
theorem all_cons {β : Type} {Q : β → Prop} {x : β} {l : List β} (h : Q x) (hs : ∀ p, p ∈ l → Q p) : ∀ p, p ∈ x :: l → Q p := fun p hp => (List.mem_cons.1 hp).elim (fun e => e ▸ h) (hs p)
theorem tabAll : ∀ p, p ∈ tab → TyP Try.prog p.1 p.2 :=
  all_cons ty2 (all_cons ty3 (all_cons ty4 (all_cons ty5 (all_cons ty6 (all_cons ty7 (all_cons ty9 (all_cons ty12 (all_cons ty13 (all_cons ty18 (all_cons ty21 (all_cons ty22 (all_cons ty23 (all_cons ty24 (all_cons ty25 (all_cons ty29 (all_cons ty31 (all_cons ty40 (all_cons ty46 (all_cons ty47 (all_cons ty48 (all_cons ty49 (all_cons ty50 (all_cons ty51 (all_cons ty55 (all_cons ty56 (all_cons ty57 (all_cons ty58 (all_cons ty59 (all_cons ty65 (all_cons ty74 (all_cons ty75 (all_cons ty76 (all_cons ty77 (all_cons ty78 (all_cons ty79 (all_cons ty80 (all_cons ty86 (all_cons ty87 (all_cons ty112 (all_cons ty119 (all_cons ty120 (all_cons ty121 (all_cons ty122 (all_cons ty143 (all_cons ty145 (all_cons ty158 (all_cons ty159 (all_cons ty173 (all_cons ty181 (all_cons ty182 (all_cons ty187 (all_cons ty188 (all_cons ty191 (all_cons ty192 (all_cons ty193 ((fun p hp => by cases hp)))))))))))))))))))))))))))))))))))))))))))))))))))))))))
theorem hτ : Tys Try.prog τ := fun t i h => tabAll (t, i) (look_mem h)
theorem hmix : Try.prog.follows .mixedOrders = true := by kernel_rfl
/-! ### data -/
theorem tl_inj {a b : ByteArray} : a.toList = b.toList ↔ a = b := by
  constructor
  · intro h
    rw [ByteArray.toList_eq, ByteArray.toList_eq] at h
    obtain ⟨⟨x⟩⟩ := a
    obtain ⟨⟨y⟩⟩ := b
    have h : x = y := h
    rw [h]
  · intro h; rw [h]
theorem sm_no {α : Type} {f : α → α → Bool} (h : ∀ x y, f x y = true ↔ x = y) {x y : α} (hn : f x y = false) : x ≠ y := fun e => by rw [(h x y).2 e] at hn; cases hn
def dI (n : Int) : List D := [.v (.int .i64 n)]
def dS (s : ByteArray) : List D := [.v (.string s)]
structure S31 where
  f0 : Int
  f1 : Int
  f2 : List ByteArray
def d31 (x : S31) : List D := [.v (.int .i64 x.f0), .v (.int .i64 x.f1), .sl (x.f2.map dS)]
def z31 : S31 := ⟨0, 0, []⟩
structure S55 where
  f0 : Int
  f1 : List ByteArray
  f2 : List Int
def d55 (x : S55) : List D := [.v (.int .i64 x.f0), .sl (x.f1.map dS), .sl (x.f2.map dI)]
def z55 : S55 := ⟨0, [], []⟩
structure S120 where
  f0 : Int
  f1 : ByteArray
  f2 : ByteArray
  f3 : Int
  f4 : Int
def d120 (x : S120) : List D := [.v (.int .i64 x.f0), .v (.string x.f1), .v (.string x.f2), .v (.int .i64 x.f3), .v (.int .i64 x.f4)]
def sm120 (x y : S120) : Bool := (x.f0 == y.f0) && ((x.f1.toList == y.f1.toList) && ((x.f2.toList == y.f2.toList) && ((x.f3 == y.f3) && ((x.f4 == y.f4)))))
theorem sm120_iff (x y : S120) : sm120 x y = true ↔ x = y := by
  obtain ⟨x0, x1, x2, x3, x4⟩ := x
  obtain ⟨y0, y1, y2, y3, y4⟩ := y
  simp [sm120, tl_inj]
theorem flatS120 (x : S120) : flatT Try.prog 120 [(.int .i64 x.f0), (.string x.f1), (.string x.f2), (.int .i64 x.f3), (.int .i64 x.f4)] = true := by kernel_rfl
structure S122 where
  f0 : ByteArray
  f1 : Int
def d122 (x : S122) : List D := [.v (.string x.f0), .v (.int .i64 x.f1)]
def sm122 (x y : S122) : Bool := (x.f0.toList == y.f0.toList) && ((x.f1 == y.f1))
theorem sm122_iff (x y : S122) : sm122 x y = true ↔ x = y := by
  obtain ⟨x0, x1⟩ := x
  obtain ⟨y0, y1⟩ := y
  simp [sm122, tl_inj]
theorem flatS122 (x : S122) : flatT Try.prog 122 [(.string x.f0), (.int .i64 x.f1)] = true := by kernel_rfl
structure S59 where
  f0 : Int
  f1 : Int
  f2 : Int
  f3 : ByteArray
  f4 : S31
  f5 : S55
  f6 : List S120
  f7 : Bool
  f8 : List S122
  f9 : ByteArray
def d59 (x : S59) : List D := [.v (.int .i64 x.f0), .v (.int .i64 x.f1), .v (.int .i64 x.f2), .v (.string x.f3), .v (.int .i64 x.f4.f0), .v (.int .i64 x.f4.f1), .sl (x.f4.f2.map dS), .v (.int .i64 x.f5.f0), .sl (x.f5.f1.map dS), .sl (x.f5.f2.map dI), .sl (x.f6.map d120), .v (.bool x.f7), .sl (x.f8.map d122), .v (.string x.f9)]
def z59 : S59 := ⟨0, 0, 0, ⟨#[]⟩, z31, z55, [], false, [], ⟨#[]⟩⟩
end Go.Proofs.Ytnldeeefiidcaaa.Av

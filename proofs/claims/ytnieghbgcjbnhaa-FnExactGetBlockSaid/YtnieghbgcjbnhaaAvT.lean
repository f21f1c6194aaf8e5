/-
The types, as the walks ask for them; the data of structs.
Conditions: none.
-/
import Derived.Test.YtnieghbgcjbnhaaAv23
import Derived.Test.YtnieghbgcjbnhaaProg
set_option linter.unusedVariables false
namespace Go.Proofs.Ytnieghbgcjbnhaa.Av
open Go.RowKit
set_option maxRecDepth 20000

theorem ty2 : TyP Try.prog 2 { kd := 7, sz := 1, bys := 8, zero := [.int .i64 0], ik := .i64 } :=
  ⟨_, (Try.prog.info? 2).getD default, Try.underlying2, by kernel_rfl, by kernel_rfl, by kernel_rfl, by kernel_rfl, by first | exact ⟨rfl, rfl⟩ | exact ⟨rfl, rfl, rfl⟩ | exact rfl, by decide⟩
theorem ty3 : TyP Try.prog 3 { kd := 7, sz := 1, bys := 8, zero := [.int .i64 0], ik := .i64 } :=
  ⟨_, (Try.prog.info? 3).getD default, Try.underlying3, by kernel_rfl, by kernel_rfl, by kernel_rfl, by kernel_rfl, by first | exact ⟨rfl, rfl⟩ | exact ⟨rfl, rfl, rfl⟩ | exact rfl, by decide⟩
theorem ty4 : TyP Try.prog 4 { kd := 6, sz := 1, bys := 1, zero := [.bool false] } :=
  ⟨_, (Try.prog.info? 4).getD default, Try.underlying4, by kernel_rfl, by kernel_rfl, by kernel_rfl, by kernel_rfl, by first | exact ⟨rfl, rfl⟩ | exact ⟨rfl, rfl, rfl⟩ | exact rfl, by decide⟩
theorem ty5 : TyP Try.prog 5 { kd := 7, sz := 1, bys := 1, zero := [.int .u8 0], ik := .u8 } :=
  ⟨_, (Try.prog.info? 5).getD default, Try.underlying5, by kernel_rfl, by kernel_rfl, by kernel_rfl, by kernel_rfl, by first | exact ⟨rfl, rfl⟩ | exact ⟨rfl, rfl, rfl⟩ | exact rfl, by decide⟩
theorem ty6 : TyP Try.prog 6 { kd := 7, sz := 1, bys := 1, zero := [.int .u8 0], ik := .u8 } :=
  ⟨_, (Try.prog.info? 6).getD default, Try.underlying6, by kernel_rfl, by kernel_rfl, by kernel_rfl, by kernel_rfl, by first | exact ⟨rfl, rfl⟩ | exact ⟨rfl, rfl, rfl⟩ | exact rfl, by decide⟩
theorem ty7 : TyP Try.prog 7 { kd := 2, sz := 4, bys := 24, zero := [.int .i64 0, .int .i64 0, .bool false, .int .u8 0], fl := [(0, 2), (1, 3), (2, 4), (3, 6)] } :=
  ⟨_, (Try.prog.info? 7).getD default, Try.underlying7, by kernel_rfl, by kernel_rfl, by kernel_rfl, by kernel_rfl, by first | exact ⟨rfl, rfl⟩ | exact ⟨rfl, rfl, rfl⟩ | exact rfl, by decide⟩
theorem ty9 : TyP Try.prog 9 { kd := 5, sz := 1, bys := 16, zero := [.string ⟨#[]⟩] } :=
  ⟨_, (Try.prog.info? 9).getD default, Try.underlying9, by kernel_rfl, by kernel_rfl, by kernel_rfl, by kernel_rfl, by first | exact ⟨rfl, rfl⟩ | exact ⟨rfl, rfl, rfl⟩ | exact rfl, by decide⟩
theorem ty12 : TyP Try.prog 12 { kd := 7, sz := 1, bys := 8, zero := [.int .u64 0], ik := .u64 } :=
  ⟨_, (Try.prog.info? 12).getD default, Try.underlying12, by kernel_rfl, by kernel_rfl, by kernel_rfl, by kernel_rfl, by first | exact ⟨rfl, rfl⟩ | exact ⟨rfl, rfl, rfl⟩ | exact rfl, by decide⟩
theorem ty13 : TyP Try.prog 13 { kd := 2, sz := 2, bys := 24, zero := [.string ⟨#[]⟩, .int .u64 0], fl := [(0, 9), (1, 12)] } :=
  ⟨_, (Try.prog.info? 13).getD default, Try.underlying13, by kernel_rfl, by kernel_rfl, by kernel_rfl, by kernel_rfl, by first | exact ⟨rfl, rfl⟩ | exact ⟨rfl, rfl, rfl⟩ | exact rfl, by decide⟩
theorem ty18 : TyP Try.prog 18 { kd := 2, sz := 1, bys := 8, zero := [.pointer none], fl := [(0, 17)] } :=
  ⟨_, (Try.prog.info? 18).getD default, Try.underlying18, by kernel_rfl, by kernel_rfl, by kernel_rfl, by kernel_rfl, by first | exact ⟨rfl, rfl⟩ | exact ⟨rfl, rfl, rfl⟩ | exact rfl, by decide⟩
theorem ty21 : TyP Try.prog 21 { kd := 7, sz := 1, bys := 4, zero := [.int .i32 0], ik := .i32 } :=
  ⟨_, (Try.prog.info? 21).getD default, Try.underlying21, by kernel_rfl, by kernel_rfl, by kernel_rfl, by kernel_rfl, by first | exact ⟨rfl, rfl⟩ | exact ⟨rfl, rfl, rfl⟩ | exact rfl, by decide⟩
theorem ty22 : TyP Try.prog 22 { kd := 1, sz := 1, bys := 24, zero := [.slice none 0 0], el := 5 } :=
  ⟨_, (Try.prog.info? 22).getD default, Try.underlying22, by kernel_rfl, by kernel_rfl, by kernel_rfl, by kernel_rfl, by first | exact ⟨rfl, rfl⟩ | exact ⟨rfl, rfl, rfl⟩ | exact rfl, by decide⟩
theorem ty24 : TyP Try.prog 24 { kd := 1, sz := 1, bys := 24, zero := [.slice none 0 0], el := 26 } :=
  ⟨_, (Try.prog.info? 24).getD default, Try.underlying24, by kernel_rfl, by kernel_rfl, by kernel_rfl, by kernel_rfl, by first | exact ⟨rfl, rfl⟩ | exact ⟨rfl, rfl, rfl⟩ | exact rfl, by decide⟩
theorem ty25 : TyP Try.prog 25 { kd := 2, sz := 5, bys := 56, zero := [.int .i64 0, .string ⟨#[]⟩, .string ⟨#[]⟩, .int .i64 0, .int .i64 0], fl := [(0, 3), (1, 9), (2, 9), (3, 3), (4, 3)] } :=
  ⟨_, (Try.prog.info? 25).getD default, Try.underlying25, by kernel_rfl, by kernel_rfl, by kernel_rfl, by kernel_rfl, by first | exact ⟨rfl, rfl⟩ | exact ⟨rfl, rfl, rfl⟩ | exact rfl, by decide⟩
theorem ty26 : TyP Try.prog 26 { kd := 2, sz := 5, bys := 56, zero := [.int .i64 0, .string ⟨#[]⟩, .string ⟨#[]⟩, .int .i64 0, .int .i64 0], fl := [(0, 3), (1, 9), (2, 9), (3, 3), (4, 3)] } :=
  ⟨_, (Try.prog.info? 26).getD default, Try.underlying26, by kernel_rfl, by kernel_rfl, by kernel_rfl, by kernel_rfl, by first | exact ⟨rfl, rfl⟩ | exact ⟨rfl, rfl, rfl⟩ | exact rfl, by decide⟩
theorem ty32 : TyP Try.prog 32 { kd := 1, sz := 1, bys := 24, zero := [.slice none 0 0], el := 33 } :=
  ⟨_, (Try.prog.info? 32).getD default, Try.underlying32, by kernel_rfl, by kernel_rfl, by kernel_rfl, by kernel_rfl, by first | exact ⟨rfl, rfl⟩ | exact ⟨rfl, rfl, rfl⟩ | exact rfl, by decide⟩
theorem ty33 : TyP Try.prog 33 { kd := 2, sz := 5, bys := 56, zero := [.int .i64 0, .string ⟨#[]⟩, .string ⟨#[]⟩, .int .i64 0, .int .i64 0], fl := [(0, 3), (1, 9), (2, 9), (3, 3), (4, 3)] } :=
  ⟨_, (Try.prog.info? 33).getD default, Try.underlying33, by kernel_rfl, by kernel_rfl, by kernel_rfl, by kernel_rfl, by first | exact ⟨rfl, rfl⟩ | exact ⟨rfl, rfl, rfl⟩ | exact rfl, by decide⟩
theorem ty41 : TyP Try.prog 41 { kd := 1, sz := 1, bys := 24, zero := [.slice none 0 0], el := 9 } :=
  ⟨_, (Try.prog.info? 41).getD default, Try.underlying41, by kernel_rfl, by kernel_rfl, by kernel_rfl, by kernel_rfl, by first | exact ⟨rfl, rfl⟩ | exact ⟨rfl, rfl, rfl⟩ | exact rfl, by decide⟩
theorem ty42 : TyP Try.prog 42 { kd := 2, sz := 3, bys := 40, zero := [.int .i64 0, .int .i64 0, .slice none 0 0], fl := [(0, 3), (1, 3), (2, 41)] } :=
  ⟨_, (Try.prog.info? 42).getD default, Try.underlying42, by kernel_rfl, by kernel_rfl, by kernel_rfl, by kernel_rfl, by first | exact ⟨rfl, rfl⟩ | exact ⟨rfl, rfl, rfl⟩ | exact rfl, by decide⟩
theorem ty43 : TyP Try.prog 43 { kd := 2, sz := 3, bys := 40, zero := [.int .i64 0, .int .i64 0, .slice none 0 0], fl := [(0, 3), (1, 3), (2, 41)] } :=
  ⟨_, (Try.prog.info? 43).getD default, Try.underlying43, by kernel_rfl, by kernel_rfl, by kernel_rfl, by kernel_rfl, by first | exact ⟨rfl, rfl⟩ | exact ⟨rfl, rfl, rfl⟩ | exact rfl, by decide⟩
theorem ty44 : TyP Try.prog 44 { kd := 1, sz := 1, bys := 24, zero := [.slice none 0 0], el := 3 } :=
  ⟨_, (Try.prog.info? 44).getD default, Try.underlying44, by kernel_rfl, by kernel_rfl, by kernel_rfl, by kernel_rfl, by first | exact ⟨rfl, rfl⟩ | exact ⟨rfl, rfl, rfl⟩ | exact rfl, by decide⟩
theorem ty45 : TyP Try.prog 45 { kd := 2, sz := 3, bys := 56, zero := [.int .i64 0, .slice none 0 0, .slice none 0 0], fl := [(0, 3), (1, 41), (2, 44)] } :=
  ⟨_, (Try.prog.info? 45).getD default, Try.underlying45, by kernel_rfl, by kernel_rfl, by kernel_rfl, by kernel_rfl, by first | exact ⟨rfl, rfl⟩ | exact ⟨rfl, rfl, rfl⟩ | exact rfl, by decide⟩
theorem ty46 : TyP Try.prog 46 { kd := 2, sz := 3, bys := 56, zero := [.int .i64 0, .slice none 0 0, .slice none 0 0], fl := [(0, 3), (1, 41), (2, 44)] } :=
  ⟨_, (Try.prog.info? 46).getD default, Try.underlying46, by kernel_rfl, by kernel_rfl, by kernel_rfl, by kernel_rfl, by first | exact ⟨rfl, rfl⟩ | exact ⟨rfl, rfl, rfl⟩ | exact rfl, by decide⟩
theorem ty47 : TyP Try.prog 47 { kd := 1, sz := 1, bys := 24, zero := [.slice none 0 0], el := 107 } :=
  ⟨_, (Try.prog.info? 47).getD default, Try.underlying47, by kernel_rfl, by kernel_rfl, by kernel_rfl, by kernel_rfl, by first | exact ⟨rfl, rfl⟩ | exact ⟨rfl, rfl, rfl⟩ | exact rfl, by decide⟩
theorem ty48 : TyP Try.prog 48 { kd := 2, sz := 14, bys := 208, zero := [.int .i64 0, .int .i64 0, .int .i64 0, .string ⟨#[]⟩, .int .i64 0, .int .i64 0, .slice none 0 0, .int .i64 0, .slice none 0 0, .slice none 0 0, .slice none 0 0, .bool false, .slice none 0 0, .string ⟨#[]⟩], fl := [(0, 3), (1, 3), (2, 3), (3, 9), (4, 43), (7, 46), (10, 24), (11, 4), (12, 47), (13, 9)] } :=
  ⟨_, (Try.prog.info? 48).getD default, Try.underlying48, by kernel_rfl, by kernel_rfl, by kernel_rfl, by kernel_rfl, by first | exact ⟨rfl, rfl⟩ | exact ⟨rfl, rfl, rfl⟩ | exact rfl, by decide⟩
theorem ty49 : TyP Try.prog 49 { kd := 2, sz := 14, bys := 208, zero := [.int .i64 0, .int .i64 0, .int .i64 0, .string ⟨#[]⟩, .int .i64 0, .int .i64 0, .slice none 0 0, .int .i64 0, .slice none 0 0, .slice none 0 0, .slice none 0 0, .bool false, .slice none 0 0, .string ⟨#[]⟩], fl := [(0, 3), (1, 3), (2, 3), (3, 9), (4, 43), (7, 46), (10, 24), (11, 4), (12, 47), (13, 9)] } :=
  ⟨_, (Try.prog.info? 49).getD default, Try.underlying49, by kernel_rfl, by kernel_rfl, by kernel_rfl, by kernel_rfl, by first | exact ⟨rfl, rfl⟩ | exact ⟨rfl, rfl, rfl⟩ | exact rfl, by decide⟩
theorem ty56 : TyP Try.prog 56 { kd := 1, sz := 1, bys := 24, zero := [.slice none 0 0], el := 67 } :=
  ⟨_, (Try.prog.info? 56).getD default, Try.underlying56, by kernel_rfl, by kernel_rfl, by kernel_rfl, by kernel_rfl, by first | exact ⟨rfl, rfl⟩ | exact ⟨rfl, rfl, rfl⟩ | exact rfl, by decide⟩
theorem ty57 : TyP Try.prog 57 { kd := 2, sz := 2, bys := 32, zero := [.int .i64 0, .slice none 0 0], fl := [(0, 3), (1, 56)] } :=
  ⟨_, (Try.prog.info? 57).getD default, Try.underlying57, by kernel_rfl, by kernel_rfl, by kernel_rfl, by kernel_rfl, by first | exact ⟨rfl, rfl⟩ | exact ⟨rfl, rfl, rfl⟩ | exact rfl, by decide⟩
theorem ty58 : TyP Try.prog 58 { kd := 2, sz := 2, bys := 32, zero := [.int .i64 0, .slice none 0 0], fl := [(0, 3), (1, 56)] } :=
  ⟨_, (Try.prog.info? 58).getD default, Try.underlying58, by kernel_rfl, by kernel_rfl, by kernel_rfl, by kernel_rfl, by first | exact ⟨rfl, rfl⟩ | exact ⟨rfl, rfl, rfl⟩ | exact rfl, by decide⟩
theorem ty65 : TyP Try.prog 65 { kd := 1, sz := 1, bys := 24, zero := [.slice none 0 0], el := 191 } :=
  ⟨_, (Try.prog.info? 65).getD default, Try.underlying65, by kernel_rfl, by kernel_rfl, by kernel_rfl, by kernel_rfl, by first | exact ⟨rfl, rfl⟩ | exact ⟨rfl, rfl, rfl⟩ | exact rfl, by decide⟩
theorem ty66 : TyP Try.prog 66 { kd := 2, sz := 5, bys := 64, zero := [.string ⟨#[]⟩, .int .i64 0, .int .i64 0, .int .i64 0, .slice none 0 0], fl := [(0, 9), (1, 3), (2, 3), (3, 3), (4, 65)] } :=
  ⟨_, (Try.prog.info? 66).getD default, Try.underlying66, by kernel_rfl, by kernel_rfl, by kernel_rfl, by kernel_rfl, by first | exact ⟨rfl, rfl⟩ | exact ⟨rfl, rfl, rfl⟩ | exact rfl, by decide⟩
theorem ty67 : TyP Try.prog 67 { kd := 2, sz := 5, bys := 64, zero := [.string ⟨#[]⟩, .int .i64 0, .int .i64 0, .int .i64 0, .slice none 0 0], fl := [(0, 9), (1, 3), (2, 3), (3, 3), (4, 65)] } :=
  ⟨_, (Try.prog.info? 67).getD default, Try.underlying67, by kernel_rfl, by kernel_rfl, by kernel_rfl, by kernel_rfl, by first | exact ⟨rfl, rfl⟩ | exact ⟨rfl, rfl, rfl⟩ | exact rfl, by decide⟩
theorem ty69 : TyP Try.prog 69 { kd := 1, sz := 1, bys := 24, zero := [.slice none 0 0], el := 176 } :=
  ⟨_, (Try.prog.info? 69).getD default, Try.underlying69, by kernel_rfl, by kernel_rfl, by kernel_rfl, by kernel_rfl, by first | exact ⟨rfl, rfl⟩ | exact ⟨rfl, rfl, rfl⟩ | exact rfl, by decide⟩
theorem ty70 : TyP Try.prog 70 { kd := 2, sz := 2, bys := 32, zero := [.int .i64 0, .slice none 0 0], fl := [(0, 3), (1, 69)] } :=
  ⟨_, (Try.prog.info? 70).getD default, Try.underlying70, by kernel_rfl, by kernel_rfl, by kernel_rfl, by kernel_rfl, by first | exact ⟨rfl, rfl⟩ | exact ⟨rfl, rfl, rfl⟩ | exact rfl, by decide⟩
theorem ty71 : TyP Try.prog 71 { kd := 2, sz := 2, bys := 32, zero := [.int .i64 0, .slice none 0 0], fl := [(0, 3), (1, 69)] } :=
  ⟨_, (Try.prog.info? 71).getD default, Try.underlying71, by kernel_rfl, by kernel_rfl, by kernel_rfl, by kernel_rfl, by first | exact ⟨rfl, rfl⟩ | exact ⟨rfl, rfl, rfl⟩ | exact rfl, by decide⟩
theorem ty80 : TyP Try.prog 80 { kd := 4, sz := 1, bys := 8, zero := [.pointer none], el := 134 } :=
  ⟨_, (Try.prog.info? 80).getD default, Try.underlying80, by kernel_rfl, by kernel_rfl, by kernel_rfl, by kernel_rfl, by first | exact ⟨rfl, rfl⟩ | exact ⟨rfl, rfl, rfl⟩ | exact rfl, by decide⟩
theorem ty100 : TyP Try.prog 100 { kd := 2, sz := 3, bys := 40, zero := [.slice none 0 0, .int .i64 0, .bool false], fl := [(0, 22), (1, 3), (2, 4)] } :=
  ⟨_, (Try.prog.info? 100).getD default, Try.underlying100, by kernel_rfl, by kernel_rfl, by kernel_rfl, by kernel_rfl, by first | exact ⟨rfl, rfl⟩ | exact ⟨rfl, rfl, rfl⟩ | exact rfl, by decide⟩
theorem ty101 : TyP Try.prog 101 { kd := 2, sz := 3, bys := 40, zero := [.slice none 0 0, .int .i64 0, .bool false], fl := [(0, 22), (1, 3), (2, 4)] } :=
  ⟨_, (Try.prog.info? 101).getD default, Try.underlying101, by kernel_rfl, by kernel_rfl, by kernel_rfl, by kernel_rfl, by first | exact ⟨rfl, rfl⟩ | exact ⟨rfl, rfl, rfl⟩ | exact rfl, by decide⟩
theorem ty106 : TyP Try.prog 106 { kd := 2, sz := 2, bys := 24, zero := [.string ⟨#[]⟩, .int .i64 0], fl := [(0, 9), (1, 3)] } :=
  ⟨_, (Try.prog.info? 106).getD default, Try.underlying106, by kernel_rfl, by kernel_rfl, by kernel_rfl, by kernel_rfl, by first | exact ⟨rfl, rfl⟩ | exact ⟨rfl, rfl, rfl⟩ | exact rfl, by decide⟩
theorem ty107 : TyP Try.prog 107 { kd := 2, sz := 2, bys := 24, zero := [.string ⟨#[]⟩, .int .i64 0], fl := [(0, 9), (1, 3)] } :=
  ⟨_, (Try.prog.info? 107).getD default, Try.underlying107, by kernel_rfl, by kernel_rfl, by kernel_rfl, by kernel_rfl, by first | exact ⟨rfl, rfl⟩ | exact ⟨rfl, rfl, rfl⟩ | exact rfl, by decide⟩
theorem ty117 : TyP Try.prog 117 { kd := 4, sz := 1, bys := 8, zero := [.pointer none], el := 119 } :=
  ⟨_, (Try.prog.info? 117).getD default, Try.underlying117, by kernel_rfl, by kernel_rfl, by kernel_rfl, by kernel_rfl, by first | exact ⟨rfl, rfl⟩ | exact ⟨rfl, rfl, rfl⟩ | exact rfl, by decide⟩
theorem ty118 : TyP Try.prog 118 { kd := 2, sz := 3, bys := 40, zero := [.slice none 0 0, .int .i64 0, .bool false], fl := [(0, 22), (1, 3), (2, 4)] } :=
  ⟨_, (Try.prog.info? 118).getD default, Try.underlying118, by kernel_rfl, by kernel_rfl, by kernel_rfl, by kernel_rfl, by first | exact ⟨rfl, rfl⟩ | exact ⟨rfl, rfl, rfl⟩ | exact rfl, by decide⟩
theorem ty119 : TyP Try.prog 119 { kd := 2, sz := 3, bys := 40, zero := [.slice none 0 0, .int .i64 0, .bool false], fl := [(0, 22), (1, 3), (2, 4)] } :=
  ⟨_, (Try.prog.info? 119).getD default, Try.underlying119, by kernel_rfl, by kernel_rfl, by kernel_rfl, by kernel_rfl, by first | exact ⟨rfl, rfl⟩ | exact ⟨rfl, rfl, rfl⟩ | exact rfl, by decide⟩
theorem ty133 : TyP Try.prog 133 { kd := 2, sz := 3, bys := 40, zero := [.slice none 0 0, .int .i64 0, .int .i64 0], fl := [(0, 22), (1, 3), (2, 3)] } :=
  ⟨_, (Try.prog.info? 133).getD default, Try.underlying133, by kernel_rfl, by kernel_rfl, by kernel_rfl, by kernel_rfl, by first | exact ⟨rfl, rfl⟩ | exact ⟨rfl, rfl, rfl⟩ | exact rfl, by decide⟩
theorem ty134 : TyP Try.prog 134 { kd := 2, sz := 3, bys := 40, zero := [.slice none 0 0, .int .i64 0, .int .i64 0], fl := [(0, 22), (1, 3), (2, 3)] } :=
  ⟨_, (Try.prog.info? 134).getD default, Try.underlying134, by kernel_rfl, by kernel_rfl, by kernel_rfl, by kernel_rfl, by first | exact ⟨rfl, rfl⟩ | exact ⟨rfl, rfl, rfl⟩ | exact rfl, by decide⟩
theorem ty137 : TyP Try.prog 137 { kd := 7, sz := 1, bys := 8, zero := [.int .u64 0], ik := .u64 } :=
  ⟨_, (Try.prog.info? 137).getD default, Try.underlying137, by kernel_rfl, by kernel_rfl, by kernel_rfl, by kernel_rfl, by first | exact ⟨rfl, rfl⟩ | exact ⟨rfl, rfl, rfl⟩ | exact rfl, by decide⟩
theorem ty174 : TyP Try.prog 174 { kd := 1, sz := 1, bys := 24, zero := [.slice none 0 0], el := 212 } :=
  ⟨_, (Try.prog.info? 174).getD default, Try.underlying174, by kernel_rfl, by kernel_rfl, by kernel_rfl, by kernel_rfl, by first | exact ⟨rfl, rfl⟩ | exact ⟨rfl, rfl, rfl⟩ | exact rfl, by decide⟩
theorem ty175 : TyP Try.prog 175 { kd := 2, sz := 5, bys := 64, zero := [.string ⟨#[]⟩, .int .i64 0, .int .i64 0, .int .i64 0, .slice none 0 0], fl := [(0, 9), (1, 3), (2, 3), (3, 3), (4, 174)] } :=
  ⟨_, (Try.prog.info? 175).getD default, Try.underlying175, by kernel_rfl, by kernel_rfl, by kernel_rfl, by kernel_rfl, by first | exact ⟨rfl, rfl⟩ | exact ⟨rfl, rfl, rfl⟩ | exact rfl, by decide⟩
theorem ty176 : TyP Try.prog 176 { kd := 2, sz := 5, bys := 64, zero := [.string ⟨#[]⟩, .int .i64 0, .int .i64 0, .int .i64 0, .slice none 0 0], fl := [(0, 9), (1, 3), (2, 3), (3, 3), (4, 174)] } :=
  ⟨_, (Try.prog.info? 176).getD default, Try.underlying176, by kernel_rfl, by kernel_rfl, by kernel_rfl, by kernel_rfl, by first | exact ⟨rfl, rfl⟩ | exact ⟨rfl, rfl, rfl⟩ | exact rfl, by decide⟩
theorem ty190 : TyP Try.prog 190 { kd := 2, sz := 2, bys := 16, zero := [.int .i64 0, .int .i64 0], fl := [(0, 3), (1, 3)] } :=
  ⟨_, (Try.prog.info? 190).getD default, Try.underlying190, by kernel_rfl, by kernel_rfl, by kernel_rfl, by kernel_rfl, by first | exact ⟨rfl, rfl⟩ | exact ⟨rfl, rfl, rfl⟩ | exact rfl, by decide⟩
theorem ty191 : TyP Try.prog 191 { kd := 2, sz := 2, bys := 16, zero := [.int .i64 0, .int .i64 0], fl := [(0, 3), (1, 3)] } :=
  ⟨_, (Try.prog.info? 191).getD default, Try.underlying191, by kernel_rfl, by kernel_rfl, by kernel_rfl, by kernel_rfl, by first | exact ⟨rfl, rfl⟩ | exact ⟨rfl, rfl, rfl⟩ | exact rfl, by decide⟩
theorem ty212 : TyP Try.prog 212 { kd := 2, sz := 2, bys := 16, zero := [.int .i64 0, .int .i64 0], fl := [(0, 3), (1, 3)] } :=
  ⟨_, (Try.prog.info? 212).getD default, Try.underlying212, by kernel_rfl, by kernel_rfl, by kernel_rfl, by kernel_rfl, by first | exact ⟨rfl, rfl⟩ | exact ⟨rfl, rfl, rfl⟩ | exact rfl, by decide⟩
theorem ty219 : TyP Try.prog 219 { kd := 2, sz := 4, bys := 40, zero := [.pointer none, .pointer none, .pointer none, .string ⟨#[]⟩], fl := [(0, 17), (1, 17), (2, 17), (3, 9)] } :=
  ⟨_, (Try.prog.info? 219).getD default, Try.underlying219, by kernel_rfl, by kernel_rfl, by kernel_rfl, by kernel_rfl, by first | exact ⟨rfl, rfl⟩ | exact ⟨rfl, rfl, rfl⟩ | exact rfl, by decide⟩
theorem ty220 : TyP Try.prog 220 { kd := 2, sz := 4, bys := 40, zero := [.pointer none, .pointer none, .pointer none, .string ⟨#[]⟩], fl := [(0, 17), (1, 17), (2, 17), (3, 9)] } :=
  ⟨_, (Try.prog.info? 220).getD default, Try.underlying220, by kernel_rfl, by kernel_rfl, by kernel_rfl, by kernel_rfl, by first | exact ⟨rfl, rfl⟩ | exact ⟨rfl, rfl, rfl⟩ | exact rfl, by decide⟩
theorem ty224 : TyP Try.prog 224 { kd := 7, sz := 1, bys := 4, zero := [.int .u32 0], ik := .u32 } :=
  ⟨_, (Try.prog.info? 224).getD default, Try.underlying224, by kernel_rfl, by kernel_rfl, by kernel_rfl, by kernel_rfl, by first | exact ⟨rfl, rfl⟩ | exact ⟨rfl, rfl, rfl⟩ | exact rfl, by decide⟩
theorem ty225 : TyP Try.prog 225 { kd := 7, sz := 1, bys := 1, zero := [.int .u8 0], ik := .u8 } :=
  ⟨_, (Try.prog.info? 225).getD default, Try.underlying225, by kernel_rfl, by kernel_rfl, by kernel_rfl, by kernel_rfl, by first | exact ⟨rfl, rfl⟩ | exact ⟨rfl, rfl, rfl⟩ | exact rfl, by decide⟩
theorem ty228 : TyP Try.prog 228 { kd := 4, sz := 1, bys := 8, zero := [.pointer none], el := 5 } :=
  ⟨_, (Try.prog.info? 228).getD default, Try.underlying228, by kernel_rfl, by kernel_rfl, by kernel_rfl, by kernel_rfl, by first | exact ⟨rfl, rfl⟩ | exact ⟨rfl, rfl, rfl⟩ | exact rfl, by decide⟩
theorem ty229 : TyP Try.prog 229 { kd := 7, sz := 1, bys := 4, zero := [.int .i32 0], ik := .i32 } :=
  ⟨_, (Try.prog.info? 229).getD default, Try.underlying229, by kernel_rfl, by kernel_rfl, by kernel_rfl, by kernel_rfl, by first | exact ⟨rfl, rfl⟩ | exact ⟨rfl, rfl, rfl⟩ | exact rfl, by decide⟩
theorem ty230 : TyP Try.prog 230 { kd := 7, sz := 1, bys := 4, zero := [.int .i32 0], ik := .i32 } :=
  ⟨_, (Try.prog.info? 230).getD default, Try.underlying230, by kernel_rfl, by kernel_rfl, by kernel_rfl, by kernel_rfl, by first | exact ⟨rfl, rfl⟩ | exact ⟨rfl, rfl, rfl⟩ | exact rfl, by decide⟩
def tab : List (Nat × TI) := [(2, { kd := 7, sz := 1, bys := 8, zero := [.int .i64 0], ik := .i64 }),
  (3, { kd := 7, sz := 1, bys := 8, zero := [.int .i64 0], ik := .i64 }),
  (4, { kd := 6, sz := 1, bys := 1, zero := [.bool false] }),
  (5, { kd := 7, sz := 1, bys := 1, zero := [.int .u8 0], ik := .u8 }),
  (6, { kd := 7, sz := 1, bys := 1, zero := [.int .u8 0], ik := .u8 }),
  (7, { kd := 2, sz := 4, bys := 24, zero := [.int .i64 0, .int .i64 0, .bool false, .int .u8 0], fl := [(0, 2), (1, 3), (2, 4), (3, 6)] }),
  (9, { kd := 5, sz := 1, bys := 16, zero := [.string ⟨#[]⟩] }),
  (12, { kd := 7, sz := 1, bys := 8, zero := [.int .u64 0], ik := .u64 }),
  (13, { kd := 2, sz := 2, bys := 24, zero := [.string ⟨#[]⟩, .int .u64 0], fl := [(0, 9), (1, 12)] }),
  (18, { kd := 2, sz := 1, bys := 8, zero := [.pointer none], fl := [(0, 17)] }),
  (21, { kd := 7, sz := 1, bys := 4, zero := [.int .i32 0], ik := .i32 }),
  (22, { kd := 1, sz := 1, bys := 24, zero := [.slice none 0 0], el := 5 }),
  (24, { kd := 1, sz := 1, bys := 24, zero := [.slice none 0 0], el := 26 }),
  (25, { kd := 2, sz := 5, bys := 56, zero := [.int .i64 0, .string ⟨#[]⟩, .string ⟨#[]⟩, .int .i64 0, .int .i64 0], fl := [(0, 3), (1, 9), (2, 9), (3, 3), (4, 3)] }),
  (26, { kd := 2, sz := 5, bys := 56, zero := [.int .i64 0, .string ⟨#[]⟩, .string ⟨#[]⟩, .int .i64 0, .int .i64 0], fl := [(0, 3), (1, 9), (2, 9), (3, 3), (4, 3)] }),
  (32, { kd := 1, sz := 1, bys := 24, zero := [.slice none 0 0], el := 33 }),
  (33, { kd := 2, sz := 5, bys := 56, zero := [.int .i64 0, .string ⟨#[]⟩, .string ⟨#[]⟩, .int .i64 0, .int .i64 0], fl := [(0, 3), (1, 9), (2, 9), (3, 3), (4, 3)] }),
  (41, { kd := 1, sz := 1, bys := 24, zero := [.slice none 0 0], el := 9 }),
  (42, { kd := 2, sz := 3, bys := 40, zero := [.int .i64 0, .int .i64 0, .slice none 0 0], fl := [(0, 3), (1, 3), (2, 41)] }),
  (43, { kd := 2, sz := 3, bys := 40, zero := [.int .i64 0, .int .i64 0, .slice none 0 0], fl := [(0, 3), (1, 3), (2, 41)] }),
  (44, { kd := 1, sz := 1, bys := 24, zero := [.slice none 0 0], el := 3 }),
  (45, { kd := 2, sz := 3, bys := 56, zero := [.int .i64 0, .slice none 0 0, .slice none 0 0], fl := [(0, 3), (1, 41), (2, 44)] }),
  (46, { kd := 2, sz := 3, bys := 56, zero := [.int .i64 0, .slice none 0 0, .slice none 0 0], fl := [(0, 3), (1, 41), (2, 44)] }),
  (47, { kd := 1, sz := 1, bys := 24, zero := [.slice none 0 0], el := 107 }),
  (48, { kd := 2, sz := 14, bys := 208, zero := [.int .i64 0, .int .i64 0, .int .i64 0, .string ⟨#[]⟩, .int .i64 0, .int .i64 0, .slice none 0 0, .int .i64 0, .slice none 0 0, .slice none 0 0, .slice none 0 0, .bool false, .slice none 0 0, .string ⟨#[]⟩], fl := [(0, 3), (1, 3), (2, 3), (3, 9), (4, 43), (7, 46), (10, 24), (11, 4), (12, 47), (13, 9)] }),
  (49, { kd := 2, sz := 14, bys := 208, zero := [.int .i64 0, .int .i64 0, .int .i64 0, .string ⟨#[]⟩, .int .i64 0, .int .i64 0, .slice none 0 0, .int .i64 0, .slice none 0 0, .slice none 0 0, .slice none 0 0, .bool false, .slice none 0 0, .string ⟨#[]⟩], fl := [(0, 3), (1, 3), (2, 3), (3, 9), (4, 43), (7, 46), (10, 24), (11, 4), (12, 47), (13, 9)] }),
  (56, { kd := 1, sz := 1, bys := 24, zero := [.slice none 0 0], el := 67 }),
  (57, { kd := 2, sz := 2, bys := 32, zero := [.int .i64 0, .slice none 0 0], fl := [(0, 3), (1, 56)] }),
  (58, { kd := 2, sz := 2, bys := 32, zero := [.int .i64 0, .slice none 0 0], fl := [(0, 3), (1, 56)] }),
  (65, { kd := 1, sz := 1, bys := 24, zero := [.slice none 0 0], el := 191 }),
  (66, { kd := 2, sz := 5, bys := 64, zero := [.string ⟨#[]⟩, .int .i64 0, .int .i64 0, .int .i64 0, .slice none 0 0], fl := [(0, 9), (1, 3), (2, 3), (3, 3), (4, 65)] }),
  (67, { kd := 2, sz := 5, bys := 64, zero := [.string ⟨#[]⟩, .int .i64 0, .int .i64 0, .int .i64 0, .slice none 0 0], fl := [(0, 9), (1, 3), (2, 3), (3, 3), (4, 65)] }),
  (69, { kd := 1, sz := 1, bys := 24, zero := [.slice none 0 0], el := 176 }),
  (70, { kd := 2, sz := 2, bys := 32, zero := [.int .i64 0, .slice none 0 0], fl := [(0, 3), (1, 69)] }),
  (71, { kd := 2, sz := 2, bys := 32, zero := [.int .i64 0, .slice none 0 0], fl := [(0, 3), (1, 69)] }),
  (80, { kd := 4, sz := 1, bys := 8, zero := [.pointer none], el := 134 }),
  (100, { kd := 2, sz := 3, bys := 40, zero := [.slice none 0 0, .int .i64 0, .bool false], fl := [(0, 22), (1, 3), (2, 4)] }),
  (101, { kd := 2, sz := 3, bys := 40, zero := [.slice none 0 0, .int .i64 0, .bool false], fl := [(0, 22), (1, 3), (2, 4)] }),
  (106, { kd := 2, sz := 2, bys := 24, zero := [.string ⟨#[]⟩, .int .i64 0], fl := [(0, 9), (1, 3)] }),
  (107, { kd := 2, sz := 2, bys := 24, zero := [.string ⟨#[]⟩, .int .i64 0], fl := [(0, 9), (1, 3)] }),
  (117, { kd := 4, sz := 1, bys := 8, zero := [.pointer none], el := 119 }),
  (118, { kd := 2, sz := 3, bys := 40, zero := [.slice none 0 0, .int .i64 0, .bool false], fl := [(0, 22), (1, 3), (2, 4)] }),
  (119, { kd := 2, sz := 3, bys := 40, zero := [.slice none 0 0, .int .i64 0, .bool false], fl := [(0, 22), (1, 3), (2, 4)] }),
  (133, { kd := 2, sz := 3, bys := 40, zero := [.slice none 0 0, .int .i64 0, .int .i64 0], fl := [(0, 22), (1, 3), (2, 3)] }),
  (134, { kd := 2, sz := 3, bys := 40, zero := [.slice none 0 0, .int .i64 0, .int .i64 0], fl := [(0, 22), (1, 3), (2, 3)] }),
  (137, { kd := 7, sz := 1, bys := 8, zero := [.int .u64 0], ik := .u64 }),
  (174, { kd := 1, sz := 1, bys := 24, zero := [.slice none 0 0], el := 212 }),
  (175, { kd := 2, sz := 5, bys := 64, zero := [.string ⟨#[]⟩, .int .i64 0, .int .i64 0, .int .i64 0, .slice none 0 0], fl := [(0, 9), (1, 3), (2, 3), (3, 3), (4, 174)] }),
  (176, { kd := 2, sz := 5, bys := 64, zero := [.string ⟨#[]⟩, .int .i64 0, .int .i64 0, .int .i64 0, .slice none 0 0], fl := [(0, 9), (1, 3), (2, 3), (3, 3), (4, 174)] }),
  (190, { kd := 2, sz := 2, bys := 16, zero := [.int .i64 0, .int .i64 0], fl := [(0, 3), (1, 3)] }),
  (191, { kd := 2, sz := 2, bys := 16, zero := [.int .i64 0, .int .i64 0], fl := [(0, 3), (1, 3)] }),
  (212, { kd := 2, sz := 2, bys := 16, zero := [.int .i64 0, .int .i64 0], fl := [(0, 3), (1, 3)] }),
  (219, { kd := 2, sz := 4, bys := 40, zero := [.pointer none, .pointer none, .pointer none, .string ⟨#[]⟩], fl := [(0, 17), (1, 17), (2, 17), (3, 9)] }),
  (220, { kd := 2, sz := 4, bys := 40, zero := [.pointer none, .pointer none, .pointer none, .string ⟨#[]⟩], fl := [(0, 17), (1, 17), (2, 17), (3, 9)] }),
  (224, { kd := 7, sz := 1, bys := 4, zero := [.int .u32 0], ik := .u32 }),
  (225, { kd := 7, sz := 1, bys := 1, zero := [.int .u8 0], ik := .u8 }),
  (228, { kd := 4, sz := 1, bys := 8, zero := [.pointer none], el := 5 }),
  (229, { kd := 7, sz := 1, bys := 4, zero := [.int .i32 0], ik := .i32 }),
  (230, { kd := 7, sz := 1, bys := 4, zero := [.int .i32 0], ik := .i32 })]
def τ : Ty := look tab
theorem all_cons {β : Type} {Q : β → Prop} {x : β} {l : List β} (h : Q x) (hs : ∀ p, p ∈ l → Q p) : ∀ p, p ∈ x :: l → Q p := fun p hp => (List.mem_cons.1 hp).elim (fun e => e ▸ h) (hs p)
theorem tabAll : ∀ p, p ∈ tab → TyP Try.prog p.1 p.2 :=
  all_cons ty2 (all_cons ty3 (all_cons ty4 (all_cons ty5 (all_cons ty6 (all_cons ty7 (all_cons ty9 (all_cons ty12 (all_cons ty13 (all_cons ty18 (all_cons ty21 (all_cons ty22 (all_cons ty24 (all_cons ty25 (all_cons ty26 (all_cons ty32 (all_cons ty33 (all_cons ty41 (all_cons ty42 (all_cons ty43 (all_cons ty44 (all_cons ty45 (all_cons ty46 (all_cons ty47 (all_cons ty48 (all_cons ty49 (all_cons ty56 (all_cons ty57 (all_cons ty58 (all_cons ty65 (all_cons ty66 (all_cons ty67 (all_cons ty69 (all_cons ty70 (all_cons ty71 (all_cons ty80 (all_cons ty100 (all_cons ty101 (all_cons ty106 (all_cons ty107 (all_cons ty117 (all_cons ty118 (all_cons ty119 (all_cons ty133 (all_cons ty134 (all_cons ty137 (all_cons ty174 (all_cons ty175 (all_cons ty176 (all_cons ty190 (all_cons ty191 (all_cons ty212 (all_cons ty219 (all_cons ty220 (all_cons ty224 (all_cons ty225 (all_cons ty228 (all_cons ty229 (all_cons ty230 ((fun p hp => by cases hp))))))))))))))))))))))))))))))))))))))))))))))))))))))))))))
theorem hτ : Tys Try.prog τ := fun t i h => tabAll (t, i) (look_mem h)
theorem hmix : Try.prog.follows .mixedOrders = true := by kernel_rfl
/-! ### data -/
theorem tl_inj {a b : ByteArray} : a.toList = b.toList ↔ a = b := by
  constructor
  · intro h
    rw [ByteArray.toList_eq, ByteArray.toList_eq] at h
    obtain ⟨⟨x⟩⟩ := a
    obtain ⟨⟨y⟩⟩ := b
    have h : x = y := h
    rw [h]
  · intro h; rw [h]
theorem sm_no {α : Type} {f : α → α → Bool} (h : ∀ x y, f x y = true ↔ x = y) {x y : α} (hn : f x y = false) : x ≠ y := fun e => by rw [(h x y).2 e] at hn; cases hn
def dI (n : Int) : List D := [.v (.int .i64 n)]
def dS (s : ByteArray) : List D := [.v (.string s)]
structure S26 where
  f0 : Int
  f1 : ByteArray
  f2 : ByteArray
  f3 : Int
  f4 : Int
def d26 (x : S26) : List D := [.v (.int .i64 x.f0), .v (.string x.f1), .v (.string x.f2), .v (.int .i64 x.f3), .v (.int .i64 x.f4)]
def sm26 (x y : S26) : Bool := (x.f0 == y.f0) && ((x.f1.toList == y.f1.toList) && ((x.f2.toList == y.f2.toList) && ((x.f3 == y.f3) && ((x.f4 == y.f4)))))
theorem sm26_iff (x y : S26) : sm26 x y = true ↔ x = y := by
  obtain ⟨x0, x1, x2, x3, x4⟩ := x
  obtain ⟨y0, y1, y2, y3, y4⟩ := y
  simp [sm26, tl_inj]
def z26 : S26 := ⟨0, ⟨#[]⟩, ⟨#[]⟩, 0, 0⟩
structure S43 where
  f0 : Int
  f1 : Int
  f2 : List ByteArray
def d43 (x : S43) : List D := [.v (.int .i64 x.f0), .v (.int .i64 x.f1), .sl (x.f2.map dS)]
def z43 : S43 := ⟨0, 0, []⟩
structure S46 where
  f0 : Int
  f1 : List ByteArray
  f2 : List Int
def d46 (x : S46) : List D := [.v (.int .i64 x.f0), .sl (x.f1.map dS), .sl (x.f2.map dI)]
def z46 : S46 := ⟨0, [], []⟩
structure S107 where
  f0 : ByteArray
  f1 : Int
def d107 (x : S107) : List D := [.v (.string x.f0), .v (.int .i64 x.f1)]
def sm107 (x y : S107) : Bool := (x.f0.toList == y.f0.toList) && ((x.f1 == y.f1))
theorem sm107_iff (x y : S107) : sm107 x y = true ↔ x = y := by
  obtain ⟨x0, x1⟩ := x
  obtain ⟨y0, y1⟩ := y
  simp [sm107, tl_inj]
structure S49 where
  f0 : Int
  f1 : Int
  f2 : Int
  f3 : ByteArray
  f4 : S43
  f5 : S46
  f6 : List S26
  f7 : Bool
  f8 : List S107
  f9 : ByteArray
def d49 (x : S49) : List D := [.v (.int .i64 x.f0), .v (.int .i64 x.f1), .v (.int .i64 x.f2), .v (.string x.f3), .v (.int .i64 x.f4.f0), .v (.int .i64 x.f4.f1), .sl (x.f4.f2.map dS), .v (.int .i64 x.f5.f0), .sl (x.f5.f1.map dS), .sl (x.f5.f2.map dI), .sl (x.f6.map d26), .v (.bool x.f7), .sl (x.f8.map d107), .v (.string x.f9)]
def z49 : S49 := ⟨0, 0, 0, ⟨#[]⟩, z43, z46, [], false, [], ⟨#[]⟩⟩
end Go.Proofs.Ytnieghbgcjbnhaa.Av

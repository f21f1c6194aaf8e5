/-
The types, as the walks ask for them; the data of structs.
Conditions: none.
-/
import Derived.Test.YtpegmlbbeookbaaGreatAv23
import Derived.Test.YtpegmlbbeookbaaGreatProg
set_option linter.unusedVariables false
namespace Go.Proofs.YtpegmlbbeookbaaGreat.Av
open Go.RowKit
set_option maxRecDepth 20000

theorem ty2 : TyP Tryz.prog 2 { kd := 7, sz := 1, bys := 8, zero := [.int .i64 0], ik := .i64 } :=
  ⟨_, (Tryz.prog.info? 2).getD default, Tryz.underlying2, by kernel_rfl, by kernel_rfl, by kernel_rfl, by kernel_rfl, by first | exact ⟨rfl, rfl⟩ | exact ⟨rfl, rfl, rfl⟩ | exact rfl, by decide⟩
theorem ty3 : TyP Tryz.prog 3 { kd := 7, sz := 1, bys := 8, zero := [.int .i64 0], ik := .i64 } :=
  ⟨_, (Tryz.prog.info? 3).getD default, Tryz.underlying3, by kernel_rfl, by kernel_rfl, by kernel_rfl, by kernel_rfl, by first | exact ⟨rfl, rfl⟩ | exact ⟨rfl, rfl, rfl⟩ | exact rfl, by decide⟩
theorem ty4 : TyP Tryz.prog 4 { kd := 6, sz := 1, bys := 1, zero := [.bool false] } :=
  ⟨_, (Tryz.prog.info? 4).getD default, Tryz.underlying4, by kernel_rfl, by kernel_rfl, by kernel_rfl, by kernel_rfl, by first | exact ⟨rfl, rfl⟩ | exact ⟨rfl, rfl, rfl⟩ | exact rfl, by decide⟩
theorem ty5 : TyP Tryz.prog 5 { kd := 7, sz := 1, bys := 1, zero := [.int .u8 0], ik := .u8 } :=
  ⟨_, (Tryz.prog.info? 5).getD default, Tryz.underlying5, by kernel_rfl, by kernel_rfl, by kernel_rfl, by kernel_rfl, by first | exact ⟨rfl, rfl⟩ | exact ⟨rfl, rfl, rfl⟩ | exact rfl, by decide⟩
theorem ty6 : TyP Tryz.prog 6 { kd := 7, sz := 1, bys := 1, zero := [.int .u8 0], ik := .u8 } :=
  ⟨_, (Tryz.prog.info? 6).getD default, Tryz.underlying6, by kernel_rfl, by kernel_rfl, by kernel_rfl, by kernel_rfl, by first | exact ⟨rfl, rfl⟩ | exact ⟨rfl, rfl, rfl⟩ | exact rfl, by decide⟩
theorem ty7 : TyP Tryz.prog 7 { kd := 2, sz := 4, bys := 24, zero := [.int .i64 0, .int .i64 0, .bool false, .int .u8 0], fl := [(0, 2), (1, 3), (2, 4), (3, 6)] } :=
  ⟨_, (Tryz.prog.info? 7).getD default, Tryz.underlying7, by kernel_rfl, by kernel_rfl, by kernel_rfl, by kernel_rfl, by first | exact ⟨rfl, rfl⟩ | exact ⟨rfl, rfl, rfl⟩ | exact rfl, by decide⟩
theorem ty9 : TyP Tryz.prog 9 { kd := 5, sz := 1, bys := 16, zero := [.string ⟨#[]⟩] } :=
  ⟨_, (Tryz.prog.info? 9).getD default, Tryz.underlying9, by kernel_rfl, by kernel_rfl, by kernel_rfl, by kernel_rfl, by first | exact ⟨rfl, rfl⟩ | exact ⟨rfl, rfl, rfl⟩ | exact rfl, by decide⟩
theorem ty12 : TyP Tryz.prog 12 { kd := 7, sz := 1, bys := 8, zero := [.int .u64 0], ik := .u64 } :=
  ⟨_, (Tryz.prog.info? 12).getD default, Tryz.underlying12, by kernel_rfl, by kernel_rfl, by kernel_rfl, by kernel_rfl, by first | exact ⟨rfl, rfl⟩ | exact ⟨rfl, rfl, rfl⟩ | exact rfl, by decide⟩
theorem ty13 : TyP Tryz.prog 13 { kd := 2, sz := 2, bys := 24, zero := [.string ⟨#[]⟩, .int .u64 0], fl := [(0, 9), (1, 12)] } :=
  ⟨_, (Tryz.prog.info? 13).getD default, Tryz.underlying13, by kernel_rfl, by kernel_rfl, by kernel_rfl, by kernel_rfl, by first | exact ⟨rfl, rfl⟩ | exact ⟨rfl, rfl, rfl⟩ | exact rfl, by decide⟩
theorem ty18 : TyP Tryz.prog 18 { kd := 2, sz := 1, bys := 8, zero := [.pointer none], fl := [(0, 17)] } :=
  ⟨_, (Tryz.prog.info? 18).getD default, Tryz.underlying18, by kernel_rfl, by kernel_rfl, by kernel_rfl, by kernel_rfl, by first | exact ⟨rfl, rfl⟩ | exact ⟨rfl, rfl, rfl⟩ | exact rfl, by decide⟩
theorem ty21 : TyP Tryz.prog 21 { kd := 7, sz := 1, bys := 4, zero := [.int .i32 0], ik := .i32 } :=
  ⟨_, (Tryz.prog.info? 21).getD default, Tryz.underlying21, by kernel_rfl, by kernel_rfl, by kernel_rfl, by kernel_rfl, by first | exact ⟨rfl, rfl⟩ | exact ⟨rfl, rfl, rfl⟩ | exact rfl, by decide⟩
theorem ty22 : TyP Tryz.prog 22 { kd := 1, sz := 1, bys := 24, zero := [.slice none 0 0], el := 151 } :=
  ⟨_, (Tryz.prog.info? 22).getD default, Tryz.underlying22, by kernel_rfl, by kernel_rfl, by kernel_rfl, by kernel_rfl, by first | exact ⟨rfl, rfl⟩ | exact ⟨rfl, rfl, rfl⟩ | exact rfl, by decide⟩
theorem ty23 : TyP Tryz.prog 23 { kd := 2, sz := 2, bys := 32, zero := [.int .i64 0, .slice none 0 0], fl := [(0, 3), (1, 22)] } :=
  ⟨_, (Tryz.prog.info? 23).getD default, Tryz.underlying23, by kernel_rfl, by kernel_rfl, by kernel_rfl, by kernel_rfl, by first | exact ⟨rfl, rfl⟩ | exact ⟨rfl, rfl, rfl⟩ | exact rfl, by decide⟩
theorem ty24 : TyP Tryz.prog 24 { kd := 2, sz := 2, bys := 32, zero := [.int .i64 0, .slice none 0 0], fl := [(0, 3), (1, 22)] } :=
  ⟨_, (Tryz.prog.info? 24).getD default, Tryz.underlying24, by kernel_rfl, by kernel_rfl, by kernel_rfl, by kernel_rfl, by first | exact ⟨rfl, rfl⟩ | exact ⟨rfl, rfl, rfl⟩ | exact rfl, by decide⟩
theorem ty25 : TyP Tryz.prog 25 { kd := 1, sz := 1, bys := 24, zero := [.slice none 0 0], el := 100 } :=
  ⟨_, (Tryz.prog.info? 25).getD default, Tryz.underlying25, by kernel_rfl, by kernel_rfl, by kernel_rfl, by kernel_rfl, by first | exact ⟨rfl, rfl⟩ | exact ⟨rfl, rfl, rfl⟩ | exact rfl, by decide⟩
theorem ty26 : TyP Tryz.prog 26 { kd := 1, sz := 1, bys := 24, zero := [.slice none 0 0], el := 103 } :=
  ⟨_, (Tryz.prog.info? 26).getD default, Tryz.underlying26, by kernel_rfl, by kernel_rfl, by kernel_rfl, by kernel_rfl, by first | exact ⟨rfl, rfl⟩ | exact ⟨rfl, rfl, rfl⟩ | exact rfl, by decide⟩
theorem ty27 : TyP Tryz.prog 27 { kd := 1, sz := 1, bys := 24, zero := [.slice none 0 0], el := 9 } :=
  ⟨_, (Tryz.prog.info? 27).getD default, Tryz.underlying27, by kernel_rfl, by kernel_rfl, by kernel_rfl, by kernel_rfl, by first | exact ⟨rfl, rfl⟩ | exact ⟨rfl, rfl, rfl⟩ | exact rfl, by decide⟩
theorem ty28 : TyP Tryz.prog 28 { kd := 2, sz := 3, bys := 40, zero := [.int .i64 0, .int .i64 0, .slice none 0 0], fl := [(0, 3), (1, 3), (2, 27)] } :=
  ⟨_, (Tryz.prog.info? 28).getD default, Tryz.underlying28, by kernel_rfl, by kernel_rfl, by kernel_rfl, by kernel_rfl, by first | exact ⟨rfl, rfl⟩ | exact ⟨rfl, rfl, rfl⟩ | exact rfl, by decide⟩
theorem ty29 : TyP Tryz.prog 29 { kd := 2, sz := 3, bys := 40, zero := [.int .i64 0, .int .i64 0, .slice none 0 0], fl := [(0, 3), (1, 3), (2, 27)] } :=
  ⟨_, (Tryz.prog.info? 29).getD default, Tryz.underlying29, by kernel_rfl, by kernel_rfl, by kernel_rfl, by kernel_rfl, by first | exact ⟨rfl, rfl⟩ | exact ⟨rfl, rfl, rfl⟩ | exact rfl, by decide⟩
theorem ty30 : TyP Tryz.prog 30 { kd := 1, sz := 1, bys := 24, zero := [.slice none 0 0], el := 3 } :=
  ⟨_, (Tryz.prog.info? 30).getD default, Tryz.underlying30, by kernel_rfl, by kernel_rfl, by kernel_rfl, by kernel_rfl, by first | exact ⟨rfl, rfl⟩ | exact ⟨rfl, rfl, rfl⟩ | exact rfl, by decide⟩
theorem ty31 : TyP Tryz.prog 31 { kd := 2, sz := 3, bys := 56, zero := [.int .i64 0, .slice none 0 0, .slice none 0 0], fl := [(0, 3), (1, 27), (2, 30)] } :=
  ⟨_, (Tryz.prog.info? 31).getD default, Tryz.underlying31, by kernel_rfl, by kernel_rfl, by kernel_rfl, by kernel_rfl, by first | exact ⟨rfl, rfl⟩ | exact ⟨rfl, rfl, rfl⟩ | exact rfl, by decide⟩
theorem ty32 : TyP Tryz.prog 32 { kd := 2, sz := 3, bys := 56, zero := [.int .i64 0, .slice none 0 0, .slice none 0 0], fl := [(0, 3), (1, 27), (2, 30)] } :=
  ⟨_, (Tryz.prog.info? 32).getD default, Tryz.underlying32, by kernel_rfl, by kernel_rfl, by kernel_rfl, by kernel_rfl, by first | exact ⟨rfl, rfl⟩ | exact ⟨rfl, rfl, rfl⟩ | exact rfl, by decide⟩
theorem ty33 : TyP Tryz.prog 33 { kd := 1, sz := 1, bys := 24, zero := [.slice none 0 0], el := 107 } :=
  ⟨_, (Tryz.prog.info? 33).getD default, Tryz.underlying33, by kernel_rfl, by kernel_rfl, by kernel_rfl, by kernel_rfl, by first | exact ⟨rfl, rfl⟩ | exact ⟨rfl, rfl, rfl⟩ | exact rfl, by decide⟩
theorem ty34 : TyP Tryz.prog 34 { kd := 1, sz := 1, bys := 24, zero := [.slice none 0 0], el := 110 } :=
  ⟨_, (Tryz.prog.info? 34).getD default, Tryz.underlying34, by kernel_rfl, by kernel_rfl, by kernel_rfl, by kernel_rfl, by first | exact ⟨rfl, rfl⟩ | exact ⟨rfl, rfl, rfl⟩ | exact rfl, by decide⟩
theorem ty35 : TyP Tryz.prog 35 { kd := 1, sz := 1, bys := 24, zero := [.slice none 0 0], el := 113 } :=
  ⟨_, (Tryz.prog.info? 35).getD default, Tryz.underlying35, by kernel_rfl, by kernel_rfl, by kernel_rfl, by kernel_rfl, by first | exact ⟨rfl, rfl⟩ | exact ⟨rfl, rfl, rfl⟩ | exact rfl, by decide⟩
theorem ty36 : TyP Tryz.prog 36 { kd := 1, sz := 1, bys := 24, zero := [.slice none 0 0], el := 116 } :=
  ⟨_, (Tryz.prog.info? 36).getD default, Tryz.underlying36, by kernel_rfl, by kernel_rfl, by kernel_rfl, by kernel_rfl, by first | exact ⟨rfl, rfl⟩ | exact ⟨rfl, rfl, rfl⟩ | exact rfl, by decide⟩
theorem ty37 : TyP Tryz.prog 37 { kd := 2, sz := 20, bys := 344, zero := [.string ⟨#[]⟩, .int .i64 0, .int .i64 0, .slice none 0 0, .slice none 0 0, .slice none 0 0, .int .i64 0, .int .i64 0, .int .i64 0, .int .i64 0, .slice none 0 0, .int .i64 0, .slice none 0 0, .slice none 0 0, .int .i64 0, .slice none 0 0, .slice none 0 0, .slice none 0 0, .slice none 0 0, .slice none 0 0], fl := [(0, 9), (1, 3), (2, 24), (4, 25), (5, 26), (6, 3), (7, 3), (8, 29), (11, 32), (14, 3), (15, 33), (16, 34), (17, 30), (18, 35), (19, 36)] } :=
  ⟨_, (Tryz.prog.info? 37).getD default, Tryz.underlying37, by kernel_rfl, by kernel_rfl, by kernel_rfl, by kernel_rfl, by first | exact ⟨rfl, rfl⟩ | exact ⟨rfl, rfl, rfl⟩ | exact rfl, by decide⟩
theorem ty38 : TyP Tryz.prog 38 { kd := 2, sz := 20, bys := 344, zero := [.string ⟨#[]⟩, .int .i64 0, .int .i64 0, .slice none 0 0, .slice none 0 0, .slice none 0 0, .int .i64 0, .int .i64 0, .int .i64 0, .int .i64 0, .slice none 0 0, .int .i64 0, .slice none 0 0, .slice none 0 0, .int .i64 0, .slice none 0 0, .slice none 0 0, .slice none 0 0, .slice none 0 0, .slice none 0 0], fl := [(0, 9), (1, 3), (2, 24), (4, 25), (5, 26), (6, 3), (7, 3), (8, 29), (11, 32), (14, 3), (15, 33), (16, 34), (17, 30), (18, 35), (19, 36)] } :=
  ⟨_, (Tryz.prog.info? 38).getD default, Tryz.underlying38, by kernel_rfl, by kernel_rfl, by kernel_rfl, by kernel_rfl, by first | exact ⟨rfl, rfl⟩ | exact ⟨rfl, rfl, rfl⟩ | exact rfl, by decide⟩
theorem ty41 : TyP Tryz.prog 41 { kd := 1, sz := 1, bys := 24, zero := [.slice none 0 0], el := 155 } :=
  ⟨_, (Tryz.prog.info? 41).getD default, Tryz.underlying41, by kernel_rfl, by kernel_rfl, by kernel_rfl, by kernel_rfl, by first | exact ⟨rfl, rfl⟩ | exact ⟨rfl, rfl, rfl⟩ | exact rfl, by decide⟩
theorem ty42 : TyP Tryz.prog 42 { kd := 2, sz := 2, bys := 32, zero := [.int .i64 0, .slice none 0 0], fl := [(0, 3), (1, 41)] } :=
  ⟨_, (Tryz.prog.info? 42).getD default, Tryz.underlying42, by kernel_rfl, by kernel_rfl, by kernel_rfl, by kernel_rfl, by first | exact ⟨rfl, rfl⟩ | exact ⟨rfl, rfl, rfl⟩ | exact rfl, by decide⟩
theorem ty43 : TyP Tryz.prog 43 { kd := 2, sz := 2, bys := 32, zero := [.int .i64 0, .slice none 0 0], fl := [(0, 3), (1, 41)] } :=
  ⟨_, (Tryz.prog.info? 43).getD default, Tryz.underlying43, by kernel_rfl, by kernel_rfl, by kernel_rfl, by kernel_rfl, by first | exact ⟨rfl, rfl⟩ | exact ⟨rfl, rfl, rfl⟩ | exact rfl, by decide⟩
theorem ty44 : TyP Tryz.prog 44 { kd := 1, sz := 1, bys := 24, zero := [.slice none 0 0], el := 121 } :=
  ⟨_, (Tryz.prog.info? 44).getD default, Tryz.underlying44, by kernel_rfl, by kernel_rfl, by kernel_rfl, by kernel_rfl, by first | exact ⟨rfl, rfl⟩ | exact ⟨rfl, rfl, rfl⟩ | exact rfl, by decide⟩
theorem ty45 : TyP Tryz.prog 45 { kd := 1, sz := 1, bys := 24, zero := [.slice none 0 0], el := 73 } :=
  ⟨_, (Tryz.prog.info? 45).getD default, Tryz.underlying45, by kernel_rfl, by kernel_rfl, by kernel_rfl, by kernel_rfl, by first | exact ⟨rfl, rfl⟩ | exact ⟨rfl, rfl, rfl⟩ | exact rfl, by decide⟩
theorem ty46 : TyP Tryz.prog 46 { kd := 2, sz := 3, bys := 40, zero := [.int .i64 0, .int .i64 0, .slice none 0 0], fl := [(0, 3), (1, 3), (2, 27)] } :=
  ⟨_, (Tryz.prog.info? 46).getD default, Tryz.underlying46, by kernel_rfl, by kernel_rfl, by kernel_rfl, by kernel_rfl, by first | exact ⟨rfl, rfl⟩ | exact ⟨rfl, rfl, rfl⟩ | exact rfl, by decide⟩
theorem ty47 : TyP Tryz.prog 47 { kd := 2, sz := 3, bys := 56, zero := [.int .i64 0, .slice none 0 0, .slice none 0 0], fl := [(0, 3), (1, 27), (2, 30)] } :=
  ⟨_, (Tryz.prog.info? 47).getD default, Tryz.underlying47, by kernel_rfl, by kernel_rfl, by kernel_rfl, by kernel_rfl, by first | exact ⟨rfl, rfl⟩ | exact ⟨rfl, rfl, rfl⟩ | exact rfl, by decide⟩
theorem ty48 : TyP Tryz.prog 48 { kd := 1, sz := 1, bys := 24, zero := [.slice none 0 0], el := 131 } :=
  ⟨_, (Tryz.prog.info? 48).getD default, Tryz.underlying48, by kernel_rfl, by kernel_rfl, by kernel_rfl, by kernel_rfl, by first | exact ⟨rfl, rfl⟩ | exact ⟨rfl, rfl, rfl⟩ | exact rfl, by decide⟩
theorem ty49 : TyP Tryz.prog 49 { kd := 1, sz := 1, bys := 24, zero := [.slice none 0 0], el := 133 } :=
  ⟨_, (Tryz.prog.info? 49).getD default, Tryz.underlying49, by kernel_rfl, by kernel_rfl, by kernel_rfl, by kernel_rfl, by first | exact ⟨rfl, rfl⟩ | exact ⟨rfl, rfl, rfl⟩ | exact rfl, by decide⟩
theorem ty50 : TyP Tryz.prog 50 { kd := 1, sz := 1, bys := 24, zero := [.slice none 0 0], el := 119 } :=
  ⟨_, (Tryz.prog.info? 50).getD default, Tryz.underlying50, by kernel_rfl, by kernel_rfl, by kernel_rfl, by kernel_rfl, by first | exact ⟨rfl, rfl⟩ | exact ⟨rfl, rfl, rfl⟩ | exact rfl, by decide⟩
theorem ty51 : TyP Tryz.prog 51 { kd := 1, sz := 1, bys := 24, zero := [.slice none 0 0], el := 137 } :=
  ⟨_, (Tryz.prog.info? 51).getD default, Tryz.underlying51, by kernel_rfl, by kernel_rfl, by kernel_rfl, by kernel_rfl, by first | exact ⟨rfl, rfl⟩ | exact ⟨rfl, rfl, rfl⟩ | exact rfl, by decide⟩
theorem ty52 : TyP Tryz.prog 52 { kd := 2, sz := 20, bys := 344, zero := [.string ⟨#[]⟩, .int .i64 0, .int .i64 0, .slice none 0 0, .slice none 0 0, .slice none 0 0, .int .i64 0, .int .i64 0, .int .i64 0, .int .i64 0, .slice none 0 0, .int .i64 0, .slice none 0 0, .slice none 0 0, .int .i64 0, .slice none 0 0, .slice none 0 0, .slice none 0 0, .slice none 0 0, .slice none 0 0], fl := [(0, 9), (1, 3), (2, 43), (4, 44), (5, 45), (6, 3), (7, 3), (8, 46), (11, 47), (14, 3), (15, 48), (16, 49), (17, 30), (18, 50), (19, 51)] } :=
  ⟨_, (Tryz.prog.info? 52).getD default, Tryz.underlying52, by kernel_rfl, by kernel_rfl, by kernel_rfl, by kernel_rfl, by first | exact ⟨rfl, rfl⟩ | exact ⟨rfl, rfl, rfl⟩ | exact rfl, by decide⟩
theorem ty53 : TyP Tryz.prog 53 { kd := 2, sz := 20, bys := 344, zero := [.string ⟨#[]⟩, .int .i64 0, .int .i64 0, .slice none 0 0, .slice none 0 0, .slice none 0 0, .int .i64 0, .int .i64 0, .int .i64 0, .int .i64 0, .slice none 0 0, .int .i64 0, .slice none 0 0, .slice none 0 0, .int .i64 0, .slice none 0 0, .slice none 0 0, .slice none 0 0, .slice none 0 0, .slice none 0 0], fl := [(0, 9), (1, 3), (2, 43), (4, 44), (5, 45), (6, 3), (7, 3), (8, 46), (11, 47), (14, 3), (15, 48), (16, 49), (17, 30), (18, 50), (19, 51)] } :=
  ⟨_, (Tryz.prog.info? 53).getD default, Tryz.underlying53, by kernel_rfl, by kernel_rfl, by kernel_rfl, by kernel_rfl, by first | exact ⟨rfl, rfl⟩ | exact ⟨rfl, rfl, rfl⟩ | exact rfl, by decide⟩
theorem ty72 : TyP Tryz.prog 72 { kd := 2, sz := 14, bys := 208, zero := [.int .i64 0, .int .i64 0, .int .i64 0, .string ⟨#[]⟩, .int .i64 0, .int .i64 0, .slice none 0 0, .int .i64 0, .slice none 0 0, .slice none 0 0, .slice none 0 0, .bool false, .slice none 0 0, .string ⟨#[]⟩], fl := [(0, 3), (1, 3), (2, 3), (3, 9), (4, 46), (7, 47), (10, 50), (11, 4), (12, 44), (13, 9)] } :=
  ⟨_, (Tryz.prog.info? 72).getD default, Tryz.underlying72, by kernel_rfl, by kernel_rfl, by kernel_rfl, by kernel_rfl, by first | exact ⟨rfl, rfl⟩ | exact ⟨rfl, rfl, rfl⟩ | exact rfl, by decide⟩
theorem ty73 : TyP Tryz.prog 73 { kd := 2, sz := 14, bys := 208, zero := [.int .i64 0, .int .i64 0, .int .i64 0, .string ⟨#[]⟩, .int .i64 0, .int .i64 0, .slice none 0 0, .int .i64 0, .slice none 0 0, .slice none 0 0, .slice none 0 0, .bool false, .slice none 0 0, .string ⟨#[]⟩], fl := [(0, 3), (1, 3), (2, 3), (3, 9), (4, 46), (7, 47), (10, 50), (11, 4), (12, 44), (13, 9)] } :=
  ⟨_, (Tryz.prog.info? 73).getD default, Tryz.underlying73, by kernel_rfl, by kernel_rfl, by kernel_rfl, by kernel_rfl, by first | exact ⟨rfl, rfl⟩ | exact ⟨rfl, rfl, rfl⟩ | exact rfl, by decide⟩
theorem ty99 : TyP Tryz.prog 99 { kd := 2, sz := 2, bys := 24, zero := [.string ⟨#[]⟩, .int .i64 0], fl := [(0, 9), (1, 3)] } :=
  ⟨_, (Tryz.prog.info? 99).getD default, Tryz.underlying99, by kernel_rfl, by kernel_rfl, by kernel_rfl, by kernel_rfl, by first | exact ⟨rfl, rfl⟩ | exact ⟨rfl, rfl, rfl⟩ | exact rfl, by decide⟩
theorem ty100 : TyP Tryz.prog 100 { kd := 2, sz := 2, bys := 24, zero := [.string ⟨#[]⟩, .int .i64 0], fl := [(0, 9), (1, 3)] } :=
  ⟨_, (Tryz.prog.info? 100).getD default, Tryz.underlying100, by kernel_rfl, by kernel_rfl, by kernel_rfl, by kernel_rfl, by first | exact ⟨rfl, rfl⟩ | exact ⟨rfl, rfl, rfl⟩ | exact rfl, by decide⟩
theorem ty102 : TyP Tryz.prog 102 { kd := 2, sz := 14, bys := 208, zero := [.int .i64 0, .int .i64 0, .int .i64 0, .string ⟨#[]⟩, .int .i64 0, .int .i64 0, .slice none 0 0, .int .i64 0, .slice none 0 0, .slice none 0 0, .slice none 0 0, .bool false, .slice none 0 0, .string ⟨#[]⟩], fl := [(0, 3), (1, 3), (2, 3), (3, 9), (4, 29), (7, 32), (10, 35), (11, 4), (12, 25), (13, 9)] } :=
  ⟨_, (Tryz.prog.info? 102).getD default, Tryz.underlying102, by kernel_rfl, by kernel_rfl, by kernel_rfl, by kernel_rfl, by first | exact ⟨rfl, rfl⟩ | exact ⟨rfl, rfl, rfl⟩ | exact rfl, by decide⟩
theorem ty103 : TyP Tryz.prog 103 { kd := 2, sz := 14, bys := 208, zero := [.int .i64 0, .int .i64 0, .int .i64 0, .string ⟨#[]⟩, .int .i64 0, .int .i64 0, .slice none 0 0, .int .i64 0, .slice none 0 0, .slice none 0 0, .slice none 0 0, .bool false, .slice none 0 0, .string ⟨#[]⟩], fl := [(0, 3), (1, 3), (2, 3), (3, 9), (4, 29), (7, 32), (10, 35), (11, 4), (12, 25), (13, 9)] } :=
  ⟨_, (Tryz.prog.info? 103).getD default, Tryz.underlying103, by kernel_rfl, by kernel_rfl, by kernel_rfl, by kernel_rfl, by first | exact ⟨rfl, rfl⟩ | exact ⟨rfl, rfl, rfl⟩ | exact rfl, by decide⟩
theorem ty106 : TyP Tryz.prog 106 { kd := 2, sz := 3, bys := 32, zero := [.int .i64 0, .int .i64 0, .string ⟨#[]⟩], fl := [(0, 3), (1, 3), (2, 9)] } :=
  ⟨_, (Tryz.prog.info? 106).getD default, Tryz.underlying106, by kernel_rfl, by kernel_rfl, by kernel_rfl, by kernel_rfl, by first | exact ⟨rfl, rfl⟩ | exact ⟨rfl, rfl, rfl⟩ | exact rfl, by decide⟩
theorem ty107 : TyP Tryz.prog 107 { kd := 2, sz := 3, bys := 32, zero := [.int .i64 0, .int .i64 0, .string ⟨#[]⟩], fl := [(0, 3), (1, 3), (2, 9)] } :=
  ⟨_, (Tryz.prog.info? 107).getD default, Tryz.underlying107, by kernel_rfl, by kernel_rfl, by kernel_rfl, by kernel_rfl, by first | exact ⟨rfl, rfl⟩ | exact ⟨rfl, rfl, rfl⟩ | exact rfl, by decide⟩
theorem ty109 : TyP Tryz.prog 109 { kd := 2, sz := 3, bys := 32, zero := [.int .i64 0, .int .i64 0, .string ⟨#[]⟩], fl := [(0, 3), (1, 3), (2, 9)] } :=
  ⟨_, (Tryz.prog.info? 109).getD default, Tryz.underlying109, by kernel_rfl, by kernel_rfl, by kernel_rfl, by kernel_rfl, by first | exact ⟨rfl, rfl⟩ | exact ⟨rfl, rfl, rfl⟩ | exact rfl, by decide⟩
theorem ty110 : TyP Tryz.prog 110 { kd := 2, sz := 3, bys := 32, zero := [.int .i64 0, .int .i64 0, .string ⟨#[]⟩], fl := [(0, 3), (1, 3), (2, 9)] } :=
  ⟨_, (Tryz.prog.info? 110).getD default, Tryz.underlying110, by kernel_rfl, by kernel_rfl, by kernel_rfl, by kernel_rfl, by first | exact ⟨rfl, rfl⟩ | exact ⟨rfl, rfl, rfl⟩ | exact rfl, by decide⟩
theorem ty112 : TyP Tryz.prog 112 { kd := 2, sz := 5, bys := 56, zero := [.int .i64 0, .string ⟨#[]⟩, .string ⟨#[]⟩, .int .i64 0, .int .i64 0], fl := [(0, 3), (1, 9), (2, 9), (3, 3), (4, 3)] } :=
  ⟨_, (Tryz.prog.info? 112).getD default, Tryz.underlying112, by kernel_rfl, by kernel_rfl, by kernel_rfl, by kernel_rfl, by first | exact ⟨rfl, rfl⟩ | exact ⟨rfl, rfl, rfl⟩ | exact rfl, by decide⟩
theorem ty113 : TyP Tryz.prog 113 { kd := 2, sz := 5, bys := 56, zero := [.int .i64 0, .string ⟨#[]⟩, .string ⟨#[]⟩, .int .i64 0, .int .i64 0], fl := [(0, 3), (1, 9), (2, 9), (3, 3), (4, 3)] } :=
  ⟨_, (Tryz.prog.info? 113).getD default, Tryz.underlying113, by kernel_rfl, by kernel_rfl, by kernel_rfl, by kernel_rfl, by first | exact ⟨rfl, rfl⟩ | exact ⟨rfl, rfl, rfl⟩ | exact rfl, by decide⟩
theorem ty115 : TyP Tryz.prog 115 { kd := 2, sz := 5, bys := 72, zero := [.int .i64 0, .slice none 0 0, .int .i64 0, .int .i64 0, .slice none 0 0], fl := [(0, 3), (1, 26), (2, 29)] } :=
  ⟨_, (Tryz.prog.info? 115).getD default, Tryz.underlying115, by kernel_rfl, by kernel_rfl, by kernel_rfl, by kernel_rfl, by first | exact ⟨rfl, rfl⟩ | exact ⟨rfl, rfl, rfl⟩ | exact rfl, by decide⟩
theorem ty116 : TyP Tryz.prog 116 { kd := 2, sz := 5, bys := 72, zero := [.int .i64 0, .slice none 0 0, .int .i64 0, .int .i64 0, .slice none 0 0], fl := [(0, 3), (1, 26), (2, 29)] } :=
  ⟨_, (Tryz.prog.info? 116).getD default, Tryz.underlying116, by kernel_rfl, by kernel_rfl, by kernel_rfl, by kernel_rfl, by first | exact ⟨rfl, rfl⟩ | exact ⟨rfl, rfl, rfl⟩ | exact rfl, by decide⟩
theorem ty119 : TyP Tryz.prog 119 { kd := 2, sz := 5, bys := 56, zero := [.int .i64 0, .string ⟨#[]⟩, .string ⟨#[]⟩, .int .i64 0, .int .i64 0], fl := [(0, 3), (1, 9), (2, 9), (3, 3), (4, 3)] } :=
  ⟨_, (Tryz.prog.info? 119).getD default, Tryz.underlying119, by kernel_rfl, by kernel_rfl, by kernel_rfl, by kernel_rfl, by first | exact ⟨rfl, rfl⟩ | exact ⟨rfl, rfl, rfl⟩ | exact rfl, by decide⟩
theorem ty121 : TyP Tryz.prog 121 { kd := 2, sz := 2, bys := 24, zero := [.string ⟨#[]⟩, .int .i64 0], fl := [(0, 9), (1, 3)] } :=
  ⟨_, (Tryz.prog.info? 121).getD default, Tryz.underlying121, by kernel_rfl, by kernel_rfl, by kernel_rfl, by kernel_rfl, by first | exact ⟨rfl, rfl⟩ | exact ⟨rfl, rfl, rfl⟩ | exact rfl, by decide⟩
theorem ty131 : TyP Tryz.prog 131 { kd := 2, sz := 3, bys := 32, zero := [.int .i64 0, .int .i64 0, .string ⟨#[]⟩], fl := [(0, 3), (1, 3), (2, 9)] } :=
  ⟨_, (Tryz.prog.info? 131).getD default, Tryz.underlying131, by kernel_rfl, by kernel_rfl, by kernel_rfl, by kernel_rfl, by first | exact ⟨rfl, rfl⟩ | exact ⟨rfl, rfl, rfl⟩ | exact rfl, by decide⟩
theorem ty133 : TyP Tryz.prog 133 { kd := 2, sz := 3, bys := 32, zero := [.int .i64 0, .int .i64 0, .string ⟨#[]⟩], fl := [(0, 3), (1, 3), (2, 9)] } :=
  ⟨_, (Tryz.prog.info? 133).getD default, Tryz.underlying133, by kernel_rfl, by kernel_rfl, by kernel_rfl, by kernel_rfl, by first | exact ⟨rfl, rfl⟩ | exact ⟨rfl, rfl, rfl⟩ | exact rfl, by decide⟩
theorem ty136 : TyP Tryz.prog 136 { kd := 2, sz := 5, bys := 72, zero := [.int .i64 0, .slice none 0 0, .int .i64 0, .int .i64 0, .slice none 0 0], fl := [(0, 3), (1, 45), (2, 46)] } :=
  ⟨_, (Tryz.prog.info? 136).getD default, Tryz.underlying136, by kernel_rfl, by kernel_rfl, by kernel_rfl, by kernel_rfl, by first | exact ⟨rfl, rfl⟩ | exact ⟨rfl, rfl, rfl⟩ | exact rfl, by decide⟩
theorem ty137 : TyP Tryz.prog 137 { kd := 2, sz := 5, bys := 72, zero := [.int .i64 0, .slice none 0 0, .int .i64 0, .int .i64 0, .slice none 0 0], fl := [(0, 3), (1, 45), (2, 46)] } :=
  ⟨_, (Tryz.prog.info? 137).getD default, Tryz.underlying137, by kernel_rfl, by kernel_rfl, by kernel_rfl, by kernel_rfl, by first | exact ⟨rfl, rfl⟩ | exact ⟨rfl, rfl, rfl⟩ | exact rfl, by decide⟩
theorem ty149 : TyP Tryz.prog 149 { kd := 1, sz := 1, bys := 24, zero := [.slice none 0 0], el := 179 } :=
  ⟨_, (Tryz.prog.info? 149).getD default, Tryz.underlying149, by kernel_rfl, by kernel_rfl, by kernel_rfl, by kernel_rfl, by first | exact ⟨rfl, rfl⟩ | exact ⟨rfl, rfl, rfl⟩ | exact rfl, by decide⟩
theorem ty150 : TyP Tryz.prog 150 { kd := 2, sz := 5, bys := 64, zero := [.string ⟨#[]⟩, .int .i64 0, .int .i64 0, .int .i64 0, .slice none 0 0], fl := [(0, 9), (1, 3), (2, 3), (3, 3), (4, 149)] } :=
  ⟨_, (Tryz.prog.info? 150).getD default, Tryz.underlying150, by kernel_rfl, by kernel_rfl, by kernel_rfl, by kernel_rfl, by first | exact ⟨rfl, rfl⟩ | exact ⟨rfl, rfl, rfl⟩ | exact rfl, by decide⟩
theorem ty151 : TyP Tryz.prog 151 { kd := 2, sz := 5, bys := 64, zero := [.string ⟨#[]⟩, .int .i64 0, .int .i64 0, .int .i64 0, .slice none 0 0], fl := [(0, 9), (1, 3), (2, 3), (3, 3), (4, 149)] } :=
  ⟨_, (Tryz.prog.info? 151).getD default, Tryz.underlying151, by kernel_rfl, by kernel_rfl, by kernel_rfl, by kernel_rfl, by first | exact ⟨rfl, rfl⟩ | exact ⟨rfl, rfl, rfl⟩ | exact rfl, by decide⟩
theorem ty153 : TyP Tryz.prog 153 { kd := 1, sz := 1, bys := 24, zero := [.slice none 0 0], el := 167 } :=
  ⟨_, (Tryz.prog.info? 153).getD default, Tryz.underlying153, by kernel_rfl, by kernel_rfl, by kernel_rfl, by kernel_rfl, by first | exact ⟨rfl, rfl⟩ | exact ⟨rfl, rfl, rfl⟩ | exact rfl, by decide⟩
theorem ty154 : TyP Tryz.prog 154 { kd := 2, sz := 5, bys := 64, zero := [.string ⟨#[]⟩, .int .i64 0, .int .i64 0, .int .i64 0, .slice none 0 0], fl := [(0, 9), (1, 3), (2, 3), (3, 3), (4, 153)] } :=
  ⟨_, (Tryz.prog.info? 154).getD default, Tryz.underlying154, by kernel_rfl, by kernel_rfl, by kernel_rfl, by kernel_rfl, by first | exact ⟨rfl, rfl⟩ | exact ⟨rfl, rfl, rfl⟩ | exact rfl, by decide⟩
theorem ty155 : TyP Tryz.prog 155 { kd := 2, sz := 5, bys := 64, zero := [.string ⟨#[]⟩, .int .i64 0, .int .i64 0, .int .i64 0, .slice none 0 0], fl := [(0, 9), (1, 3), (2, 3), (3, 3), (4, 153)] } :=
  ⟨_, (Tryz.prog.info? 155).getD default, Tryz.underlying155, by kernel_rfl, by kernel_rfl, by kernel_rfl, by kernel_rfl, by first | exact ⟨rfl, rfl⟩ | exact ⟨rfl, rfl, rfl⟩ | exact rfl, by decide⟩
theorem ty166 : TyP Tryz.prog 166 { kd := 2, sz := 2, bys := 16, zero := [.int .i64 0, .int .i64 0], fl := [(0, 3), (1, 3)] } :=
  ⟨_, (Tryz.prog.info? 166).getD default, Tryz.underlying166, by kernel_rfl, by kernel_rfl, by kernel_rfl, by kernel_rfl, by first | exact ⟨rfl, rfl⟩ | exact ⟨rfl, rfl, rfl⟩ | exact rfl, by decide⟩
theorem ty167 : TyP Tryz.prog 167 { kd := 2, sz := 2, bys := 16, zero := [.int .i64 0, .int .i64 0], fl := [(0, 3), (1, 3)] } :=
  ⟨_, (Tryz.prog.info? 167).getD default, Tryz.underlying167, by kernel_rfl, by kernel_rfl, by kernel_rfl, by kernel_rfl, by first | exact ⟨rfl, rfl⟩ | exact ⟨rfl, rfl, rfl⟩ | exact rfl, by decide⟩
theorem ty179 : TyP Tryz.prog 179 { kd := 2, sz := 2, bys := 16, zero := [.int .i64 0, .int .i64 0], fl := [(0, 3), (1, 3)] } :=
  ⟨_, (Tryz.prog.info? 179).getD default, Tryz.underlying179, by kernel_rfl, by kernel_rfl, by kernel_rfl, by kernel_rfl, by first | exact ⟨rfl, rfl⟩ | exact ⟨rfl, rfl, rfl⟩ | exact rfl, by decide⟩
theorem ty184 : TyP Tryz.prog 184 { kd := 2, sz := 4, bys := 40, zero := [.pointer none, .pointer none, .pointer none, .string ⟨#[]⟩], fl := [(0, 17), (1, 17), (2, 17), (3, 9)] } :=
  ⟨_, (Tryz.prog.info? 184).getD default, Tryz.underlying184, by kernel_rfl, by kernel_rfl, by kernel_rfl, by kernel_rfl, by first | exact ⟨rfl, rfl⟩ | exact ⟨rfl, rfl, rfl⟩ | exact rfl, by decide⟩
theorem ty185 : TyP Tryz.prog 185 { kd := 2, sz := 4, bys := 40, zero := [.pointer none, .pointer none, .pointer none, .string ⟨#[]⟩], fl := [(0, 17), (1, 17), (2, 17), (3, 9)] } :=
  ⟨_, (Tryz.prog.info? 185).getD default, Tryz.underlying185, by kernel_rfl, by kernel_rfl, by kernel_rfl, by kernel_rfl, by first | exact ⟨rfl, rfl⟩ | exact ⟨rfl, rfl, rfl⟩ | exact rfl, by decide⟩
theorem ty190 : TyP Tryz.prog 190 { kd := 7, sz := 1, bys := 4, zero := [.int .u32 0], ik := .u32 } :=
  ⟨_, (Tryz.prog.info? 190).getD default, Tryz.underlying190, by kernel_rfl, by kernel_rfl, by kernel_rfl, by kernel_rfl, by first | exact ⟨rfl, rfl⟩ | exact ⟨rfl, rfl, rfl⟩ | exact rfl, by decide⟩
theorem ty191 : TyP Tryz.prog 191 { kd := 7, sz := 1, bys := 1, zero := [.int .u8 0], ik := .u8 } :=
  ⟨_, (Tryz.prog.info? 191).getD default, Tryz.underlying191, by kernel_rfl, by kernel_rfl, by kernel_rfl, by kernel_rfl, by first | exact ⟨rfl, rfl⟩ | exact ⟨rfl, rfl, rfl⟩ | exact rfl, by decide⟩
theorem ty194 : TyP Tryz.prog 194 { kd := 4, sz := 1, bys := 8, zero := [.pointer none], el := 5 } :=
  ⟨_, (Tryz.prog.info? 194).getD default, Tryz.underlying194, by kernel_rfl, by kernel_rfl, by kernel_rfl, by kernel_rfl, by first | exact ⟨rfl, rfl⟩ | exact ⟨rfl, rfl, rfl⟩ | exact rfl, by decide⟩
theorem ty195 : TyP Tryz.prog 195 { kd := 7, sz := 1, bys := 4, zero := [.int .i32 0], ik := .i32 } :=
  ⟨_, (Tryz.prog.info? 195).getD default, Tryz.underlying195, by kernel_rfl, by kernel_rfl, by kernel_rfl, by kernel_rfl, by first | exact ⟨rfl, rfl⟩ | exact ⟨rfl, rfl, rfl⟩ | exact rfl, by decide⟩
theorem ty196 : TyP Tryz.prog 196 { kd := 7, sz := 1, bys := 4, zero := [.int .i32 0], ik := .i32 } :=
  ⟨_, (Tryz.prog.info? 196).getD default, Tryz.underlying196, by kernel_rfl, by kernel_rfl, by kernel_rfl, by kernel_rfl, by first | exact ⟨rfl, rfl⟩ | exact ⟨rfl, rfl, rfl⟩ | exact rfl, by decide⟩
def tab : List (Nat × TI) := [(2, { kd := 7, sz := 1, bys := 8, zero := [.int .i64 0], ik := .i64 }),
  (3, { kd := 7, sz := 1, bys := 8, zero := [.int .i64 0], ik := .i64 }),
  (4, { kd := 6, sz := 1, bys := 1, zero := [.bool false] }),
  (5, { kd := 7, sz := 1, bys := 1, zero := [.int .u8 0], ik := .u8 }),
  (6, { kd := 7, sz := 1, bys := 1, zero := [.int .u8 0], ik := .u8 }),
  (7, { kd := 2, sz := 4, bys := 24, zero := [.int .i64 0, .int .i64 0, .bool false, .int .u8 0], fl := [(0, 2), (1, 3), (2, 4), (3, 6)] }),
  (9, { kd := 5, sz := 1, bys := 16, zero := [.string ⟨#[]⟩] }),
  (12, { kd := 7, sz := 1, bys := 8, zero := [.int .u64 0], ik := .u64 }),
  (13, { kd := 2, sz := 2, bys := 24, zero := [.string ⟨#[]⟩, .int .u64 0], fl := [(0, 9), (1, 12)] }),
  (18, { kd := 2, sz := 1, bys := 8, zero := [.pointer none], fl := [(0, 17)] }),
  (21, { kd := 7, sz := 1, bys := 4, zero := [.int .i32 0], ik := .i32 }),
  (22, { kd := 1, sz := 1, bys := 24, zero := [.slice none 0 0], el := 151 }),
  (23, { kd := 2, sz := 2, bys := 32, zero := [.int .i64 0, .slice none 0 0], fl := [(0, 3), (1, 22)] }),
  (24, { kd := 2, sz := 2, bys := 32, zero := [.int .i64 0, .slice none 0 0], fl := [(0, 3), (1, 22)] }),
  (25, { kd := 1, sz := 1, bys := 24, zero := [.slice none 0 0], el := 100 }),
  (26, { kd := 1, sz := 1, bys := 24, zero := [.slice none 0 0], el := 103 }),
  (27, { kd := 1, sz := 1, bys := 24, zero := [.slice none 0 0], el := 9 }),
  (28, { kd := 2, sz := 3, bys := 40, zero := [.int .i64 0, .int .i64 0, .slice none 0 0], fl := [(0, 3), (1, 3), (2, 27)] }),
  (29, { kd := 2, sz := 3, bys := 40, zero := [.int .i64 0, .int .i64 0, .slice none 0 0], fl := [(0, 3), (1, 3), (2, 27)] }),
  (30, { kd := 1, sz := 1, bys := 24, zero := [.slice none 0 0], el := 3 }),
  (31, { kd := 2, sz := 3, bys := 56, zero := [.int .i64 0, .slice none 0 0, .slice none 0 0], fl := [(0, 3), (1, 27), (2, 30)] }),
  (32, { kd := 2, sz := 3, bys := 56, zero := [.int .i64 0, .slice none 0 0, .slice none 0 0], fl := [(0, 3), (1, 27), (2, 30)] }),
  (33, { kd := 1, sz := 1, bys := 24, zero := [.slice none 0 0], el := 107 }),
  (34, { kd := 1, sz := 1, bys := 24, zero := [.slice none 0 0], el := 110 }),
  (35, { kd := 1, sz := 1, bys := 24, zero := [.slice none 0 0], el := 113 }),
  (36, { kd := 1, sz := 1, bys := 24, zero := [.slice none 0 0], el := 116 }),
  (37, { kd := 2, sz := 20, bys := 344, zero := [.string ⟨#[]⟩, .int .i64 0, .int .i64 0, .slice none 0 0, .slice none 0 0, .slice none 0 0, .int .i64 0, .int .i64 0, .int .i64 0, .int .i64 0, .slice none 0 0, .int .i64 0, .slice none 0 0, .slice none 0 0, .int .i64 0, .slice none 0 0, .slice none 0 0, .slice none 0 0, .slice none 0 0, .slice none 0 0], fl := [(0, 9), (1, 3), (2, 24), (4, 25), (5, 26), (6, 3), (7, 3), (8, 29), (11, 32), (14, 3), (15, 33), (16, 34), (17, 30), (18, 35), (19, 36)] }),
  (38, { kd := 2, sz := 20, bys := 344, zero := [.string ⟨#[]⟩, .int .i64 0, .int .i64 0, .slice none 0 0, .slice none 0 0, .slice none 0 0, .int .i64 0, .int .i64 0, .int .i64 0, .int .i64 0, .slice none 0 0, .int .i64 0, .slice none 0 0, .slice none 0 0, .int .i64 0, .slice none 0 0, .slice none 0 0, .slice none 0 0, .slice none 0 0, .slice none 0 0], fl := [(0, 9), (1, 3), (2, 24), (4, 25), (5, 26), (6, 3), (7, 3), (8, 29), (11, 32), (14, 3), (15, 33), (16, 34), (17, 30), (18, 35), (19, 36)] }),
  (41, { kd := 1, sz := 1, bys := 24, zero := [.slice none 0 0], el := 155 }),
  (42, { kd := 2, sz := 2, bys := 32, zero := [.int .i64 0, .slice none 0 0], fl := [(0, 3), (1, 41)] }),
  (43, { kd := 2, sz := 2, bys := 32, zero := [.int .i64 0, .slice none 0 0], fl := [(0, 3), (1, 41)] }),
  (44, { kd := 1, sz := 1, bys := 24, zero := [.slice none 0 0], el := 121 }),
  (45, { kd := 1, sz := 1, bys := 24, zero := [.slice none 0 0], el := 73 }),
  (46, { kd := 2, sz := 3, bys := 40, zero := [.int .i64 0, .int .i64 0, .slice none 0 0], fl := [(0, 3), (1, 3), (2, 27)] }),
  (47, { kd := 2, sz := 3, bys := 56, zero := [.int .i64 0, .slice none 0 0, .slice none 0 0], fl := [(0, 3), (1, 27), (2, 30)] }),
  (48, { kd := 1, sz := 1, bys := 24, zero := [.slice none 0 0], el := 131 }),
  (49, { kd := 1, sz := 1, bys := 24, zero := [.slice none 0 0], el := 133 }),
  (50, { kd := 1, sz := 1, bys := 24, zero := [.slice none 0 0], el := 119 }),
  (51, { kd := 1, sz := 1, bys := 24, zero := [.slice none 0 0], el := 137 }),
  (52, { kd := 2, sz := 20, bys := 344, zero := [.string ⟨#[]⟩, .int .i64 0, .int .i64 0, .slice none 0 0, .slice none 0 0, .slice none 0 0, .int .i64 0, .int .i64 0, .int .i64 0, .int .i64 0, .slice none 0 0, .int .i64 0, .slice none 0 0, .slice none 0 0, .int .i64 0, .slice none 0 0, .slice none 0 0, .slice none 0 0, .slice none 0 0, .slice none 0 0], fl := [(0, 9), (1, 3), (2, 43), (4, 44), (5, 45), (6, 3), (7, 3), (8, 46), (11, 47), (14, 3), (15, 48), (16, 49), (17, 30), (18, 50), (19, 51)] }),
  (53, { kd := 2, sz := 20, bys := 344, zero := [.string ⟨#[]⟩, .int .i64 0, .int .i64 0, .slice none 0 0, .slice none 0 0, .slice none 0 0, .int .i64 0, .int .i64 0, .int .i64 0, .int .i64 0, .slice none 0 0, .int .i64 0, .slice none 0 0, .slice none 0 0, .int .i64 0, .slice none 0 0, .slice none 0 0, .slice none 0 0, .slice none 0 0, .slice none 0 0], fl := [(0, 9), (1, 3), (2, 43), (4, 44), (5, 45), (6, 3), (7, 3), (8, 46), (11, 47), (14, 3), (15, 48), (16, 49), (17, 30), (18, 50), (19, 51)] }),
  (72, { kd := 2, sz := 14, bys := 208, zero := [.int .i64 0, .int .i64 0, .int .i64 0, .string ⟨#[]⟩, .int .i64 0, .int .i64 0, .slice none 0 0, .int .i64 0, .slice none 0 0, .slice none 0 0, .slice none 0 0, .bool false, .slice none 0 0, .string ⟨#[]⟩], fl := [(0, 3), (1, 3), (2, 3), (3, 9), (4, 46), (7, 47), (10, 50), (11, 4), (12, 44), (13, 9)] }),
  (73, { kd := 2, sz := 14, bys := 208, zero := [.int .i64 0, .int .i64 0, .int .i64 0, .string ⟨#[]⟩, .int .i64 0, .int .i64 0, .slice none 0 0, .int .i64 0, .slice none 0 0, .slice none 0 0, .slice none 0 0, .bool false, .slice none 0 0, .string ⟨#[]⟩], fl := [(0, 3), (1, 3), (2, 3), (3, 9), (4, 46), (7, 47), (10, 50), (11, 4), (12, 44), (13, 9)] }),
  (99, { kd := 2, sz := 2, bys := 24, zero := [.string ⟨#[]⟩, .int .i64 0], fl := [(0, 9), (1, 3)] }),
  (100, { kd := 2, sz := 2, bys := 24, zero := [.string ⟨#[]⟩, .int .i64 0], fl := [(0, 9), (1, 3)] }),
  (102, { kd := 2, sz := 14, bys := 208, zero := [.int .i64 0, .int .i64 0, .int .i64 0, .string ⟨#[]⟩, .int .i64 0, .int .i64 0, .slice none 0 0, .int .i64 0, .slice none 0 0, .slice none 0 0, .slice none 0 0, .bool false, .slice none 0 0, .string ⟨#[]⟩], fl := [(0, 3), (1, 3), (2, 3), (3, 9), (4, 29), (7, 32), (10, 35), (11, 4), (12, 25), (13, 9)] }),
  (103, { kd := 2, sz := 14, bys := 208, zero := [.int .i64 0, .int .i64 0, .int .i64 0, .string ⟨#[]⟩, .int .i64 0, .int .i64 0, .slice none 0 0, .int .i64 0, .slice none 0 0, .slice none 0 0, .slice none 0 0, .bool false, .slice none 0 0, .string ⟨#[]⟩], fl := [(0, 3), (1, 3), (2, 3), (3, 9), (4, 29), (7, 32), (10, 35), (11, 4), (12, 25), (13, 9)] }),
  (106, { kd := 2, sz := 3, bys := 32, zero := [.int .i64 0, .int .i64 0, .string ⟨#[]⟩], fl := [(0, 3), (1, 3), (2, 9)] }),
  (107, { kd := 2, sz := 3, bys := 32, zero := [.int .i64 0, .int .i64 0, .string ⟨#[]⟩], fl := [(0, 3), (1, 3), (2, 9)] }),
  (109, { kd := 2, sz := 3, bys := 32, zero := [.int .i64 0, .int .i64 0, .string ⟨#[]⟩], fl := [(0, 3), (1, 3), (2, 9)] }),
  (110, { kd := 2, sz := 3, bys := 32, zero := [.int .i64 0, .int .i64 0, .string ⟨#[]⟩], fl := [(0, 3), (1, 3), (2, 9)] }),
  (112, { kd := 2, sz := 5, bys := 56, zero := [.int .i64 0, .string ⟨#[]⟩, .string ⟨#[]⟩, .int .i64 0, .int .i64 0], fl := [(0, 3), (1, 9), (2, 9), (3, 3), (4, 3)] }),
  (113, { kd := 2, sz := 5, bys := 56, zero := [.int .i64 0, .string ⟨#[]⟩, .string ⟨#[]⟩, .int .i64 0, .int .i64 0], fl := [(0, 3), (1, 9), (2, 9), (3, 3), (4, 3)] }),
  (115, { kd := 2, sz := 5, bys := 72, zero := [.int .i64 0, .slice none 0 0, .int .i64 0, .int .i64 0, .slice none 0 0], fl := [(0, 3), (1, 26), (2, 29)] }),
  (116, { kd := 2, sz := 5, bys := 72, zero := [.int .i64 0, .slice none 0 0, .int .i64 0, .int .i64 0, .slice none 0 0], fl := [(0, 3), (1, 26), (2, 29)] }),
  (119, { kd := 2, sz := 5, bys := 56, zero := [.int .i64 0, .string ⟨#[]⟩, .string ⟨#[]⟩, .int .i64 0, .int .i64 0], fl := [(0, 3), (1, 9), (2, 9), (3, 3), (4, 3)] }),
  (121, { kd := 2, sz := 2, bys := 24, zero := [.string ⟨#[]⟩, .int .i64 0], fl := [(0, 9), (1, 3)] }),
  (131, { kd := 2, sz := 3, bys := 32, zero := [.int .i64 0, .int .i64 0, .string ⟨#[]⟩], fl := [(0, 3), (1, 3), (2, 9)] }),
  (133, { kd := 2, sz := 3, bys := 32, zero := [.int .i64 0, .int .i64 0, .string ⟨#[]⟩], fl := [(0, 3), (1, 3), (2, 9)] }),
  (136, { kd := 2, sz := 5, bys := 72, zero := [.int .i64 0, .slice none 0 0, .int .i64 0, .int .i64 0, .slice none 0 0], fl := [(0, 3), (1, 45), (2, 46)] }),
  (137, { kd := 2, sz := 5, bys := 72, zero := [.int .i64 0, .slice none 0 0, .int .i64 0, .int .i64 0, .slice none 0 0], fl := [(0, 3), (1, 45), (2, 46)] }),
  (149, { kd := 1, sz := 1, bys := 24, zero := [.slice none 0 0], el := 179 }),
  (150, { kd := 2, sz := 5, bys := 64, zero := [.string ⟨#[]⟩, .int .i64 0, .int .i64 0, .int .i64 0, .slice none 0 0], fl := [(0, 9), (1, 3), (2, 3), (3, 3), (4, 149)] }),
  (151, { kd := 2, sz := 5, bys := 64, zero := [.string ⟨#[]⟩, .int .i64 0, .int .i64 0, .int .i64 0, .slice none 0 0], fl := [(0, 9), (1, 3), (2, 3), (3, 3), (4, 149)] }),
  (153, { kd := 1, sz := 1, bys := 24, zero := [.slice none 0 0], el := 167 }),
  (154, { kd := 2, sz := 5, bys := 64, zero := [.string ⟨#[]⟩, .int .i64 0, .int .i64 0, .int .i64 0, .slice none 0 0], fl := [(0, 9), (1, 3), (2, 3), (3, 3), (4, 153)] }),
  (155, { kd := 2, sz := 5, bys := 64, zero := [.string ⟨#[]⟩, .int .i64 0, .int .i64 0, .int .i64 0, .slice none 0 0], fl := [(0, 9), (1, 3), (2, 3), (3, 3), (4, 153)] }),
  (166, { kd := 2, sz := 2, bys := 16, zero := [.int .i64 0, .int .i64 0], fl := [(0, 3), (1, 3)] }),
  (167, { kd := 2, sz := 2, bys := 16, zero := [.int .i64 0, .int .i64 0], fl := [(0, 3), (1, 3)] }),
  (179, { kd := 2, sz := 2, bys := 16, zero := [.int .i64 0, .int .i64 0], fl := [(0, 3), (1, 3)] }),
  (184, { kd := 2, sz := 4, bys := 40, zero := [.pointer none, .pointer none, .pointer none, .string ⟨#[]⟩], fl := [(0, 17), (1, 17), (2, 17), (3, 9)] }),
  (185, { kd := 2, sz := 4, bys := 40, zero := [.pointer none, .pointer none, .pointer none, .string ⟨#[]⟩], fl := [(0, 17), (1, 17), (2, 17), (3, 9)] }),
  (190, { kd := 7, sz := 1, bys := 4, zero := [.int .u32 0], ik := .u32 }),
  (191, { kd := 7, sz := 1, bys := 1, zero := [.int .u8 0], ik := .u8 }),
  (194, { kd := 4, sz := 1, bys := 8, zero := [.pointer none], el := 5 }),
  (195, { kd := 7, sz := 1, bys := 4, zero := [.int .i32 0], ik := .i32 }),
  (196, { kd := 7, sz := 1, bys := 4, zero := [.int .i32 0], ik := .i32 })]
def τ : Ty := look tab
theorem all_cons {β : Type} {Q : β → Prop} {x : β} {l : List β} (h : Q x) (hs : ∀ p, p ∈ l → Q p) : ∀ p, p ∈ x :: l → Q p := fun p hp => (List.mem_cons.1 hp).elim (fun e => e ▸ h) (hs p)
theorem tabAll : ∀ p, p ∈ tab → TyP Tryz.prog p.1 p.2 :=
  all_cons ty2 (all_cons ty3 (all_cons ty4 (all_cons ty5 (all_cons ty6 (all_cons ty7 (all_cons ty9 (all_cons ty12 (all_cons ty13 (all_cons ty18 (all_cons ty21 (all_cons ty22 (all_cons ty23 (all_cons ty24 (all_cons ty25 (all_cons ty26 (all_cons ty27 (all_cons ty28 (all_cons ty29 (all_cons ty30 (all_cons ty31 (all_cons ty32 (all_cons ty33 (all_cons ty34 (all_cons ty35 (all_cons ty36 (all_cons ty37 (all_cons ty38 (all_cons ty41 (all_cons ty42 (all_cons ty43 (all_cons ty44 (all_cons ty45 (all_cons ty46 (all_cons ty47 (all_cons ty48 (all_cons ty49 (all_cons ty50 (all_cons ty51 (all_cons ty52 (all_cons ty53 (all_cons ty72 (all_cons ty73 (all_cons ty99 (all_cons ty100 (all_cons ty102 (all_cons ty103 (all_cons ty106 (all_cons ty107 (all_cons ty109 (all_cons ty110 (all_cons ty112 (all_cons ty113 (all_cons ty115 (all_cons ty116 (all_cons ty119 (all_cons ty121 (all_cons ty131 (all_cons ty133 (all_cons ty136 (all_cons ty137 (all_cons ty149 (all_cons ty150 (all_cons ty151 (all_cons ty153 (all_cons ty154 (all_cons ty155 (all_cons ty166 (all_cons ty167 (all_cons ty179 (all_cons ty184 (all_cons ty185 (all_cons ty190 (all_cons ty191 (all_cons ty194 (all_cons ty195 (all_cons ty196 ((fun p hp => by cases hp))))))))))))))))))))))))))))))))))))))))))))))))))))))))))))))))))))))))))))))
theorem hτ : Tys Tryz.prog τ := fun t i h => tabAll (t, i) (look_mem h)
theorem hmix : Tryz.prog.follows .mixedOrders = true := by kernel_rfl
/-! ### data -/
theorem tl_inj {a b : ByteArray} : a.toList = b.toList ↔ a = b := by
  constructor
  · intro h
    rw [ByteArray.toList_eq, ByteArray.toList_eq] at h
    obtain ⟨⟨x⟩⟩ := a
    obtain ⟨⟨y⟩⟩ := b
    have h : x = y := h
    rw [h]
  · intro h; rw [h]
def dI (n : Int) : List D := [.v (.int .i64 n)]
def dS (s : ByteArray) : List D := [.v (.string s)]
structure S179 where
  f0 : Int
  f1 : Int
def d179 (x : S179) : List D := [.v (.int .i64 x.f0), .v (.int .i64 x.f1)]
structure S151 where
  f0 : ByteArray
  f1 : Int
  f2 : Int
  f3 : Int
  f4 : List S179
def d151 (x : S151) : List D := [.v (.string x.f0), .v (.int .i64 x.f1), .v (.int .i64 x.f2), .v (.int .i64 x.f3), .sl (x.f4.map d179)]
structure S24 where
  f0 : Int
  f1 : List S151
def d24 (x : S24) : List D := [.v (.int .i64 x.f0), .sl (x.f1.map d151)]
structure S29 where
  f0 : Int
  f1 : Int
  f2 : List ByteArray
def d29 (x : S29) : List D := [.v (.int .i64 x.f0), .v (.int .i64 x.f1), .sl (x.f2.map dS)]
structure S32 where
  f0 : Int
  f1 : List ByteArray
  f2 : List Int
def d32 (x : S32) : List D := [.v (.int .i64 x.f0), .sl (x.f1.map dS), .sl (x.f2.map dI)]
structure S100 where
  f0 : ByteArray
  f1 : Int
def d100 (x : S100) : List D := [.v (.string x.f0), .v (.int .i64 x.f1)]
structure S113 where
  f0 : Int
  f1 : ByteArray
  f2 : ByteArray
  f3 : Int
  f4 : Int
def d113 (x : S113) : List D := [.v (.int .i64 x.f0), .v (.string x.f1), .v (.string x.f2), .v (.int .i64 x.f3), .v (.int .i64 x.f4)]
structure S103 where
  f0 : Int
  f1 : Int
  f2 : Int
  f3 : ByteArray
  f4 : S29
  f5 : S32
  f6 : List S113
  f7 : Bool
  f8 : List S100
  f9 : ByteArray
def d103 (x : S103) : List D := [.v (.int .i64 x.f0), .v (.int .i64 x.f1), .v (.int .i64 x.f2), .v (.string x.f3), .v (.int .i64 x.f4.f0), .v (.int .i64 x.f4.f1), .sl (x.f4.f2.map dS), .v (.int .i64 x.f5.f0), .sl (x.f5.f1.map dS), .sl (x.f5.f2.map dI), .sl (x.f6.map d113), .v (.bool x.f7), .sl (x.f8.map d100), .v (.string x.f9)]
structure S107 where
  f0 : Int
  f1 : Int
  f2 : ByteArray
def d107 (x : S107) : List D := [.v (.int .i64 x.f0), .v (.int .i64 x.f1), .v (.string x.f2)]
structure S110 where
  f0 : Int
  f1 : Int
  f2 : ByteArray
def d110 (x : S110) : List D := [.v (.int .i64 x.f0), .v (.int .i64 x.f1), .v (.string x.f2)]
structure S116 where
  f0 : Int
  f1 : List S103
  f2 : S29
def d116 (x : S116) : List D := [.v (.int .i64 x.f0), .sl (x.f1.map d103), .v (.int .i64 x.f2.f0), .v (.int .i64 x.f2.f1), .sl (x.f2.f2.map dS)]
structure S38 where
  f0 : ByteArray
  f1 : Int
  f2 : S24
  f3 : List S100
  f4 : List S103
  f5 : Int
  f6 : Int
  f7 : S29
  f8 : S32
  f9 : Int
  f10 : List S107
  f11 : List S110
  f12 : List Int
  f13 : List S113
  f14 : List S116
def d38 (x : S38) : List D := [.v (.string x.f0), .v (.int .i64 x.f1), .v (.int .i64 x.f2.f0), .sl (x.f2.f1.map d151), .sl (x.f3.map d100), .sl (x.f4.map d103), .v (.int .i64 x.f5), .v (.int .i64 x.f6), .v (.int .i64 x.f7.f0), .v (.int .i64 x.f7.f1), .sl (x.f7.f2.map dS), .v (.int .i64 x.f8.f0), .sl (x.f8.f1.map dS), .sl (x.f8.f2.map dI), .v (.int .i64 x.f9), .sl (x.f10.map d107), .sl (x.f11.map d110), .sl (x.f12.map dI), .sl (x.f13.map d113), .sl (x.f14.map d116)]
structure S167 where
  f0 : Int
  f1 : Int
def d167 (x : S167) : List D := [.v (.int .i64 x.f0), .v (.int .i64 x.f1)]
def z167 : S167 := ⟨0, 0⟩
structure S155 where
  f0 : ByteArray
  f1 : Int
  f2 : Int
  f3 : Int
  f4 : List S167
def d155 (x : S155) : List D := [.v (.string x.f0), .v (.int .i64 x.f1), .v (.int .i64 x.f2), .v (.int .i64 x.f3), .sl (x.f4.map d167)]
def z155 : S155 := ⟨⟨#[]⟩, 0, 0, 0, []⟩
structure S43 where
  f0 : Int
  f1 : List S155
structure S46 where
  f0 : Int
  f1 : Int
  f2 : List ByteArray
def d46 (x : S46) : List D := [.v (.int .i64 x.f0), .v (.int .i64 x.f1), .sl (x.f2.map dS)]
def z46 : S46 := ⟨0, 0, []⟩
structure S47 where
  f0 : Int
  f1 : List ByteArray
  f2 : List Int
def d47 (x : S47) : List D := [.v (.int .i64 x.f0), .sl (x.f1.map dS), .sl (x.f2.map dI)]
def z47 : S47 := ⟨0, [], []⟩
structure S121 where
  f0 : ByteArray
  f1 : Int
def d121 (x : S121) : List D := [.v (.string x.f0), .v (.int .i64 x.f1)]
def z121 : S121 := ⟨⟨#[]⟩, 0⟩
structure S119 where
  f0 : Int
  f1 : ByteArray
  f2 : ByteArray
  f3 : Int
  f4 : Int
def d119 (x : S119) : List D := [.v (.int .i64 x.f0), .v (.string x.f1), .v (.string x.f2), .v (.int .i64 x.f3), .v (.int .i64 x.f4)]
def z119 : S119 := ⟨0, ⟨#[]⟩, ⟨#[]⟩, 0, 0⟩
structure S73 where
  f0 : Int
  f1 : Int
  f2 : Int
  f3 : ByteArray
  f4 : S46
  f5 : S47
  f6 : List S119
  f7 : Bool
  f8 : List S121
  f9 : ByteArray
def d73 (x : S73) : List D := [.v (.int .i64 x.f0), .v (.int .i64 x.f1), .v (.int .i64 x.f2), .v (.string x.f3), .v (.int .i64 x.f4.f0), .v (.int .i64 x.f4.f1), .sl (x.f4.f2.map dS), .v (.int .i64 x.f5.f0), .sl (x.f5.f1.map dS), .sl (x.f5.f2.map dI), .sl (x.f6.map d119), .v (.bool x.f7), .sl (x.f8.map d121), .v (.string x.f9)]
def z73 : S73 := ⟨0, 0, 0, ⟨#[]⟩, z46, z47, [], false, [], ⟨#[]⟩⟩
structure S131 where
  f0 : Int
  f1 : Int
  f2 : ByteArray
def d131 (x : S131) : List D := [.v (.int .i64 x.f0), .v (.int .i64 x.f1), .v (.string x.f2)]
def z131 : S131 := ⟨0, 0, ⟨#[]⟩⟩
structure S133 where
  f0 : Int
  f1 : Int
  f2 : ByteArray
def d133 (x : S133) : List D := [.v (.int .i64 x.f0), .v (.int .i64 x.f1), .v (.string x.f2)]
def z133 : S133 := ⟨0, 0, ⟨#[]⟩⟩
structure S137 where
  f0 : Int
  f1 : List S73
  f2 : S46
def d137 (x : S137) : List D := [.v (.int .i64 x.f0), .sl (x.f1.map d73), .v (.int .i64 x.f2.f0), .v (.int .i64 x.f2.f1), .sl (x.f2.f2.map dS)]
def z137 : S137 := ⟨0, [], z46⟩
structure S53 where
  f0 : ByteArray
  f1 : Int
  f2 : S43
  f3 : List S121
  f4 : List S73
  f5 : Int
  f6 : Int
  f7 : S46
  f8 : S47
  f9 : Int
  f10 : List S131
  f11 : List S133
  f12 : List Int
  f13 : List S119
  f14 : List S137
def d53 (x : S53) : List D := [.v (.string x.f0), .v (.int .i64 x.f1), .v (.int .i64 x.f2.f0), .sl (x.f2.f1.map d155), .sl (x.f3.map d121), .sl (x.f4.map d73), .v (.int .i64 x.f5), .v (.int .i64 x.f6), .v (.int .i64 x.f7.f0), .v (.int .i64 x.f7.f1), .sl (x.f7.f2.map dS), .v (.int .i64 x.f8.f0), .sl (x.f8.f1.map dS), .sl (x.f8.f2.map dI), .v (.int .i64 x.f9), .sl (x.f10.map d131), .sl (x.f11.map d133), .sl (x.f12.map dI), .sl (x.f13.map d119), .sl (x.f14.map d137)]
end Go.Proofs.YtpegmlbbeookbaaGreat.Av

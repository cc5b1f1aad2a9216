
/- What the rules want to know of the seat's functions and types, by program. No conditions. -/
import Derived.Test.YteebkhdnjkchgaaRows
import Derived.Test.YteebkhdnjkchgaaOps
namespace Go.Proofs.Yteebkhdnjkchgaa
set_option maxRecDepth 100000
def structFields (P : Program) (T : TypeId) : Array Field := match P.underlying T with
  | some (.struct fs) => fs
  | _ => #[]
instance : FnIs Try.prog 2 (Try.f2.body.getD .skip) 1 [] := ⟨Try.f2, Try.func2, by kernel_rfl, by kernel_rfl, by kernel_rfl, by kernel_rfl⟩
instance : FnIs Try.prog 3 (Try.f3.body.getD .skip) 65 [.tmp 6] := ⟨Try.f3, Try.func3, by kernel_rfl, by kernel_rfl, by kernel_rfl, by kernel_rfl⟩
instance : FnIs Try.prog 4 (Try.f4.body.getD .skip) 28 [.tmp 4] := ⟨Try.f4, Try.func4, by kernel_rfl, by kernel_rfl, by kernel_rfl, by kernel_rfl⟩
instance : FnIs Try.prog 5 (Try.f5.body.getD .skip) 59 [.tmp 6, .tmp 7] := ⟨Try.f5, Try.func5, by kernel_rfl, by kernel_rfl, by kernel_rfl, by kernel_rfl⟩
instance : FnIs Try.prog 6 (Try.f6.body.getD .skip) 22 [.tmp 2] := ⟨Try.f6, Try.func6, by kernel_rfl, by kernel_rfl, by kernel_rfl, by kernel_rfl⟩
instance : FnIs Try.prog 7 (Try.f7.body.getD .skip) 77 [.tmp 6, .tmp 7] := ⟨Try.f7, Try.func7, by kernel_rfl, by kernel_rfl, by kernel_rfl, by kernel_rfl⟩
instance : FnIs Try.prog 8 (Try.f8.body.getD .skip) 26 [.tmp 4] := ⟨Try.f8, Try.func8, by kernel_rfl, by kernel_rfl, by kernel_rfl, by kernel_rfl⟩
instance : FnIs Try.prog 9 (Try.f9.body.getD .skip) 15 [.tmp 2] := ⟨Try.f9, Try.func9, by kernel_rfl, by kernel_rfl, by kernel_rfl, by kernel_rfl⟩
instance : FnIs Try.prog 10 (Try.f10.body.getD .skip) 34 [.tmp 2] := ⟨Try.f10, Try.func10, by kernel_rfl, by kernel_rfl, by kernel_rfl, by kernel_rfl⟩
instance : FnIs Try.prog 11 (Try.f11.body.getD .skip) 15 [.tmp 2] := ⟨Try.f11, Try.func11, by kernel_rfl, by kernel_rfl, by kernel_rfl, by kernel_rfl⟩
instance : FnIs Try.prog 12 (Try.f12.body.getD .skip) 17 [.cell 2 32, .tmp 3] := ⟨Try.f12, Try.func12, by kernel_rfl, by kernel_rfl, by kernel_rfl, by kernel_rfl⟩
instance : FnIs Try.prog 13 (Try.f13.body.getD .skip) 17 [.cell 2 32, .tmp 3] := ⟨Try.f13, Try.func13, by kernel_rfl, by kernel_rfl, by kernel_rfl, by kernel_rfl⟩
instance : FnIs Try.prog 14 (Try.f14.body.getD .skip) 21 [.tmp 2] := ⟨Try.f14, Try.func14, by kernel_rfl, by kernel_rfl, by kernel_rfl, by kernel_rfl⟩
instance : FnIs Try.prog 15 (Try.f15.body.getD .skip) 54 [.tmp 2] := ⟨Try.f15, Try.func15, by kernel_rfl, by kernel_rfl, by kernel_rfl, by kernel_rfl⟩
instance : FnIs Try.prog 16 (Try.f16.body.getD .skip) 28 [.cell 4 32] := ⟨Try.f16, Try.func16, by kernel_rfl, by kernel_rfl, by kernel_rfl, by kernel_rfl⟩
instance : FnIs Try.prog 17 (Try.f17.body.getD .skip) 14 [.tmp 2] := ⟨Try.f17, Try.func17, by kernel_rfl, by kernel_rfl, by kernel_rfl, by kernel_rfl⟩
instance : FnIs Try.prog 18 (Try.f18.body.getD .skip) 7 [.tmp 2] := ⟨Try.f18, Try.func18, by kernel_rfl, by kernel_rfl, by kernel_rfl, by kernel_rfl⟩
instance : FnIs Try.prog 19 (Try.f19.body.getD .skip) 22 [.cell 2 43, .tmp 3] := ⟨Try.f19, Try.func19, by kernel_rfl, by kernel_rfl, by kernel_rfl, by kernel_rfl⟩
instance : FnIs Try.prog 20 (Try.f20.body.getD .skip) 18 [.tmp 2] := ⟨Try.f20, Try.func20, by kernel_rfl, by kernel_rfl, by kernel_rfl, by kernel_rfl⟩
instance : FnIs Try.prog 21 (Try.f21.body.getD .skip) 15 [.tmp 6] := ⟨Try.f21, Try.func21, by kernel_rfl, by kernel_rfl, by kernel_rfl, by kernel_rfl⟩
instance : FnIs Try.prog 22 (Try.f22.body.getD .skip) 53 [.tmp 2] := ⟨Try.f22, Try.func22, by kernel_rfl, by kernel_rfl, by kernel_rfl, by kernel_rfl⟩
instance : FnIs Try.prog 23 (Try.f23.body.getD .skip) 18 [.tmp 2] := ⟨Try.f23, Try.func23, by kernel_rfl, by kernel_rfl, by kernel_rfl, by kernel_rfl⟩
instance : FnIs Try.prog 24 (Try.f24.body.getD .skip) 23 [.cell 2 32, .tmp 3] := ⟨Try.f24, Try.func24, by kernel_rfl, by kernel_rfl, by kernel_rfl, by kernel_rfl⟩
instance : FnIs Try.prog 25 (Try.f25.body.getD .skip) 15 [.tmp 6] := ⟨Try.f25, Try.func25, by kernel_rfl, by kernel_rfl, by kernel_rfl, by kernel_rfl⟩
instance : FnIs Try.prog 26 (Try.f26.body.getD .skip) 20 [.tmp 2] := ⟨Try.f26, Try.func26, by kernel_rfl, by kernel_rfl, by kernel_rfl, by kernel_rfl⟩
instance : FnIs Try.prog 27 (Try.f27.body.getD .skip) 10 [.tmp 2] := ⟨Try.f27, Try.func27, by kernel_rfl, by kernel_rfl, by kernel_rfl, by kernel_rfl⟩
instance : FnIs Try.prog 28 (Try.f28.body.getD .skip) 15 [.tmp 2] := ⟨Try.f28, Try.func28, by kernel_rfl, by kernel_rfl, by kernel_rfl, by kernel_rfl⟩
instance : FnIs Try.prog 29 (Try.f29.body.getD .skip) 45 [.tmp 2] := ⟨Try.f29, Try.func29, by kernel_rfl, by kernel_rfl, by kernel_rfl, by kernel_rfl⟩
instance : FnIs Try.prog 30 (Try.f30.body.getD .skip) 11 [.cell 4 32] := ⟨Try.f30, Try.func30, by kernel_rfl, by kernel_rfl, by kernel_rfl, by kernel_rfl⟩
instance : FnIs Try.prog 31 (Try.f31.body.getD .skip) 5 [.cell 2 32] := ⟨Try.f31, Try.func31, by kernel_rfl, by kernel_rfl, by kernel_rfl, by kernel_rfl⟩
instance : FnIs Try.prog 32 (Try.f32.body.getD .skip) 21 [.tmp 2] := ⟨Try.f32, Try.func32, by kernel_rfl, by kernel_rfl, by kernel_rfl, by kernel_rfl⟩
instance : FnIs Try.prog 33 (Try.f33.body.getD .skip) 11 [.tmp 2] := ⟨Try.f33, Try.func33, by kernel_rfl, by kernel_rfl, by kernel_rfl, by kernel_rfl⟩
instance : FnIs Try.prog 34 (Try.f34.body.getD .skip) 78 [.tmp 2] := ⟨Try.f34, Try.func34, by kernel_rfl, by kernel_rfl, by kernel_rfl, by kernel_rfl⟩
instance : FnIs Try.prog 35 (Try.f35.body.getD .skip) 32 [] := ⟨Try.f35, Try.func35, by kernel_rfl, by kernel_rfl, by kernel_rfl, by kernel_rfl⟩
instance : FnIs Try.prog 36 (Try.f36.body.getD .skip) 14 [.tmp 2] := ⟨Try.f36, Try.func36, by kernel_rfl, by kernel_rfl, by kernel_rfl, by kernel_rfl⟩
instance : FnIs Try.prog 37 (Try.f37.body.getD .skip) 20 [.cell 2 43, .tmp 3] := ⟨Try.f37, Try.func37, by kernel_rfl, by kernel_rfl, by kernel_rfl, by kernel_rfl⟩
instance : FnIs Try.prog 38 (Try.f38.body.getD .skip) 105 [.tmp 2] := ⟨Try.f38, Try.func38, by kernel_rfl, by kernel_rfl, by kernel_rfl, by kernel_rfl⟩
instance : FnIs Try.prog 39 (Try.f39.body.getD .skip) 24 [.tmp 2] := ⟨Try.f39, Try.func39, by kernel_rfl, by kernel_rfl, by kernel_rfl, by kernel_rfl⟩
instance : FnIs Try.prog 40 (Try.f40.body.getD .skip) 17 [.tmp 2] := ⟨Try.f40, Try.func40, by kernel_rfl, by kernel_rfl, by kernel_rfl, by kernel_rfl⟩
instance : FnIs Try.prog 41 (Try.f41.body.getD .skip) 78 [.cell 4 32, .tmp 5, .tmp 6] := ⟨Try.f41, Try.func41, by kernel_rfl, by kernel_rfl, by kernel_rfl, by kernel_rfl⟩
instance : FnIs Try.prog 42 (Try.f42.body.getD .skip) 7 [.tmp 2] := ⟨Try.f42, Try.func42, by kernel_rfl, by kernel_rfl, by kernel_rfl, by kernel_rfl⟩
instance : FnIs Try.prog 43 (Try.f43.body.getD .skip) 22 [.tmp 2] := ⟨Try.f43, Try.func43, by kernel_rfl, by kernel_rfl, by kernel_rfl, by kernel_rfl⟩
instance : FnIs Try.prog 44 (Try.f44.body.getD .skip) 22 [.tmp 2] := ⟨Try.f44, Try.func44, by kernel_rfl, by kernel_rfl, by kernel_rfl, by kernel_rfl⟩
instance : FnIs Try.prog 45 (Try.f45.body.getD .skip) 25 [.tmp 2] := ⟨Try.f45, Try.func45, by kernel_rfl, by kernel_rfl, by kernel_rfl, by kernel_rfl⟩
instance : FnIs Try.prog 46 (Try.f46.body.getD .skip) 10 [.tmp 2] := ⟨Try.f46, Try.func46, by kernel_rfl, by kernel_rfl, by kernel_rfl, by kernel_rfl⟩
instance : FnIs Try.prog 47 (Try.f47.body.getD .skip) 19 [.tmp 4, .tmp 5] := ⟨Try.f47, Try.func47, by kernel_rfl, by kernel_rfl, by kernel_rfl, by kernel_rfl⟩
instance : FnIs Try.prog 48 (Try.f48.body.getD .skip) 17 [.tmp 4] := ⟨Try.f48, Try.func48, by kernel_rfl, by kernel_rfl, by kernel_rfl, by kernel_rfl⟩
instance : FnIs Try.prog 49 (Try.f49.body.getD .skip) 87 [.cell 6 43, .tmp 7] := ⟨Try.f49, Try.func49, by kernel_rfl, by kernel_rfl, by kernel_rfl, by kernel_rfl⟩
instance : FnIs Try.prog 50 (Try.f50.body.getD .skip) 57 [.tmp 2, .tmp 3] := ⟨Try.f50, Try.func50, by kernel_rfl, by kernel_rfl, by kernel_rfl, by kernel_rfl⟩
instance : FnIs Try.prog 51 (Try.f51.body.getD .skip) 20 [.tmp 2, .tmp 3] := ⟨Try.f51, Try.func51, by kernel_rfl, by kernel_rfl, by kernel_rfl, by kernel_rfl⟩
instance : FnIs Try.prog 52 (Try.f52.body.getD .skip) 10 [.tmp 2] := ⟨Try.f52, Try.func52, by kernel_rfl, by kernel_rfl, by kernel_rfl, by kernel_rfl⟩
instance : FnIs Try.prog 53 (Try.f53.body.getD .skip) 8 [.tmp 4] := ⟨Try.f53, Try.func53, by kernel_rfl, by kernel_rfl, by kernel_rfl, by kernel_rfl⟩
instance : FnIs Try.prog 54 (Try.f54.body.getD .skip) 33 [.tmp 2] := ⟨Try.f54, Try.func54, by kernel_rfl, by kernel_rfl, by kernel_rfl, by kernel_rfl⟩
instance : FnIs Try.prog 55 (Try.f55.body.getD .skip) 8 [.tmp 4] := ⟨Try.f55, Try.func55, by kernel_rfl, by kernel_rfl, by kernel_rfl, by kernel_rfl⟩
instance : FnIs Try.prog 56 (Try.f56.body.getD .skip) 28 [.tmp 2] := ⟨Try.f56, Try.func56, by kernel_rfl, by kernel_rfl, by kernel_rfl, by kernel_rfl⟩
instance : FnIs Try.prog 57 (Try.f57.body.getD .skip) 20 [] := ⟨Try.f57, Try.func57, by kernel_rfl, by kernel_rfl, by kernel_rfl, by kernel_rfl⟩
instance : FnIs Try.prog 58 (Try.f58.body.getD .skip) 33 [.tmp 2] := ⟨Try.f58, Try.func58, by kernel_rfl, by kernel_rfl, by kernel_rfl, by kernel_rfl⟩
instance : FnIs Try.prog 59 (Try.f59.body.getD .skip) 41 [.tmp 2] := ⟨Try.f59, Try.func59, by kernel_rfl, by kernel_rfl, by kernel_rfl, by kernel_rfl⟩
instance : FnIs Try.prog 60 (Try.f60.body.getD .skip) 18 [.tmp 4] := ⟨Try.f60, Try.func60, by kernel_rfl, by kernel_rfl, by kernel_rfl, by kernel_rfl⟩
instance : FnIs Try.prog 61 (Try.f61.body.getD .skip) 13 [.tmp 4] := ⟨Try.f61, Try.func61, by kernel_rfl, by kernel_rfl, by kernel_rfl, by kernel_rfl⟩
instance : FnIs Try.prog 62 (Try.f62.body.getD .skip) 18 [.tmp 6] := ⟨Try.f62, Try.func62, by kernel_rfl, by kernel_rfl, by kernel_rfl, by kernel_rfl⟩
instance : TyIs Try.prog 1 (.func #[] #[] false) 1 8 [.nilFunc] := ⟨by kernel_rfl, _, _, rfl, by kernel_rfl, by kernel_rfl, rfl, rfl⟩
instance : TyIs Try.prog 2 (.int .i64) 1 8 [.int .i64 0] := ⟨by kernel_rfl, _, _, rfl, by kernel_rfl, by kernel_rfl, rfl, rfl⟩
instance : TyIs Try.prog 3 (.int .i64) 1 8 [.int .i64 0] := ⟨by kernel_rfl, _, _, rfl, by kernel_rfl, by kernel_rfl, rfl, rfl⟩
instance : TyIs Try.prog 4 .bool 1 1 [.bool false] := ⟨by kernel_rfl, _, _, rfl, by kernel_rfl, by kernel_rfl, rfl, rfl⟩
instance : TyIs Try.prog 5 (.int .u8) 1 1 [.int .u8 0] := ⟨by kernel_rfl, _, _, rfl, by kernel_rfl, by kernel_rfl, rfl, rfl⟩
instance : TyIs Try.prog 6 (.int .u8) 1 1 [.int .u8 0] := ⟨by kernel_rfl, _, _, rfl, by kernel_rfl, by kernel_rfl, rfl, rfl⟩
instance : TyIs Try.prog 7 (.struct (structFields Try.prog 7)) 4 24 [.int .i64 0, .int .i64 0, .bool false, .int .u8 0] := ⟨by kernel_rfl, _, _, rfl, by kernel_rfl, by kernel_rfl, rfl, rfl⟩
instance : TyIs Try.prog 8 (.struct (structFields Try.prog 8)) 4 24 [.int .i64 0, .int .i64 0, .bool false, .int .u8 0] := ⟨by kernel_rfl, _, _, rfl, by kernel_rfl, by kernel_rfl, rfl, rfl⟩
instance : TyIs Try.prog 9 .string 1 16 [.string (str [])] := ⟨by kernel_rfl, _, _, rfl, by kernel_rfl, by kernel_rfl, rfl, rfl⟩
instance : TyIs Try.prog 10 .string 1 16 [.string (str [])] := ⟨by kernel_rfl, _, _, rfl, by kernel_rfl, by kernel_rfl, rfl, rfl⟩
instance : TyIs Try.prog 11 .string 1 16 [.string (str [])] := ⟨by kernel_rfl, _, _, rfl, by kernel_rfl, by kernel_rfl, rfl, rfl⟩
instance : TyIs Try.prog 12 (.int .u64) 1 8 [.int .u64 0] := ⟨by kernel_rfl, _, _, rfl, by kernel_rfl, by kernel_rfl, rfl, rfl⟩
instance : TyIs Try.prog 13 (.struct (structFields Try.prog 13)) 2 24 [.string (str []), .int .u64 0] := ⟨by kernel_rfl, _, _, rfl, by kernel_rfl, by kernel_rfl, rfl, rfl⟩
instance : TyIs Try.prog 14 (.struct (structFields Try.prog 14)) 2 24 [.string (str []), .int .u64 0] := ⟨by kernel_rfl, _, _, rfl, by kernel_rfl, by kernel_rfl, rfl, rfl⟩
instance : TyIs Try.prog 15 (.pointer 81) 1 8 [.pointer none] := ⟨by kernel_rfl, _, _, rfl, by kernel_rfl, by kernel_rfl, rfl, rfl⟩
instance : TyIs Try.prog 16 (.pointer 84) 1 8 [.pointer none] := ⟨by kernel_rfl, _, _, rfl, by kernel_rfl, by kernel_rfl, rfl, rfl⟩
instance : TyIs Try.prog 17 (.pointer 92) 1 8 [.pointer none] := ⟨by kernel_rfl, _, _, rfl, by kernel_rfl, by kernel_rfl, rfl, rfl⟩
instance : TyIs Try.prog 18 (.struct (structFields Try.prog 18)) 1 8 [.pointer none] := ⟨by kernel_rfl, _, _, rfl, by kernel_rfl, by kernel_rfl, rfl, rfl⟩
instance : TyIs Try.prog 19 (.struct (structFields Try.prog 19)) 1 8 [.pointer none] := ⟨by kernel_rfl, _, _, rfl, by kernel_rfl, by kernel_rfl, rfl, rfl⟩
instance : TyIs Try.prog 21 (.int .i32) 1 4 [.int .i32 0] := ⟨by kernel_rfl, _, _, rfl, by kernel_rfl, by kernel_rfl, rfl, rfl⟩
instance : TyIs Try.prog 22 (.slice 9) 1 24 [.slice none 0 0] := ⟨by kernel_rfl, _, _, rfl, by kernel_rfl, by kernel_rfl, rfl, rfl⟩
instance : TyIs Try.prog 23 (.func #[22, 3] #[3] false) 1 8 [.nilFunc] := ⟨by kernel_rfl, _, _, rfl, by kernel_rfl, by kernel_rfl, rfl, rfl⟩
instance : TyIs Try.prog 25 (.func #[22, 22, 9] #[9, 4] false) 1 8 [.nilFunc] := ⟨by kernel_rfl, _, _, rfl, by kernel_rfl, by kernel_rfl, rfl, rfl⟩
instance : TyIs Try.prog 26 (.func #[22] #[22] false) 1 8 [.nilFunc] := ⟨by kernel_rfl, _, _, rfl, by kernel_rfl, by kernel_rfl, rfl, rfl⟩
instance : TyIs Try.prog 27 (.func #[22, 22] #[4] false) 1 8 [.nilFunc] := ⟨by kernel_rfl, _, _, rfl, by kernel_rfl, by kernel_rfl, rfl, rfl⟩
instance : TyIs Try.prog 28 (.func #[22, 22, 9] #[4] false) 1 8 [.nilFunc] := ⟨by kernel_rfl, _, _, rfl, by kernel_rfl, by kernel_rfl, rfl, rfl⟩
instance : TyIs Try.prog 29 (.func #[9] #[4] false) 1 8 [.nilFunc] := ⟨by kernel_rfl, _, _, rfl, by kernel_rfl, by kernel_rfl, rfl, rfl⟩
instance : TyIs Try.prog 30 (.slice 32) 1 24 [.slice none 0 0] := ⟨by kernel_rfl, _, _, rfl, by kernel_rfl, by kernel_rfl, rfl, rfl⟩
instance : TyIs Try.prog 31 (.struct (structFields Try.prog 31)) 2 40 [.string (str []), .slice none 0 0] := ⟨by kernel_rfl, _, _, rfl, by kernel_rfl, by kernel_rfl, rfl, rfl⟩
instance : TyIs Try.prog 32 (.struct (structFields Try.prog 32)) 2 40 [.string (str []), .slice none 0 0] := ⟨by kernel_rfl, _, _, rfl, by kernel_rfl, by kernel_rfl, rfl, rfl⟩
instance : TyIs Try.prog 34 (.func #[9] #[32, 4] false) 1 8 [.nilFunc] := ⟨by kernel_rfl, _, _, rfl, by kernel_rfl, by kernel_rfl, rfl, rfl⟩
instance : TyIs Try.prog 35 (.slice 38) 1 24 [.slice none 0 0] := ⟨by kernel_rfl, _, _, rfl, by kernel_rfl, by kernel_rfl, rfl, rfl⟩
instance : TyIs Try.prog 36 (.func #[] #[4] false) 1 8 [.nilFunc] := ⟨by kernel_rfl, _, _, rfl, by kernel_rfl, by kernel_rfl, rfl, rfl⟩
instance : TyIs Try.prog 37 (.struct (structFields Try.prog 37)) 3 56 [.string (str []), .string (str []), .slice none 0 0] := ⟨by kernel_rfl, _, _, rfl, by kernel_rfl, by kernel_rfl, rfl, rfl⟩
instance : TyIs Try.prog 38 (.struct (structFields Try.prog 38)) 3 56 [.string (str []), .string (str []), .slice none 0 0] := ⟨by kernel_rfl, _, _, rfl, by kernel_rfl, by kernel_rfl, rfl, rfl⟩
instance : TyIs Try.prog 39 (.func #[35, 32] #[32] false) 1 8 [.nilFunc] := ⟨by kernel_rfl, _, _, rfl, by kernel_rfl, by kernel_rfl, rfl, rfl⟩
instance : TyIs Try.prog 40 (.func #[] #[9] false) 1 8 [.nilFunc] := ⟨by kernel_rfl, _, _, rfl, by kernel_rfl, by kernel_rfl, rfl, rfl⟩
instance : TyIs Try.prog 41 (.slice 43) 1 24 [.slice none 0 0] := ⟨by kernel_rfl, _, _, rfl, by kernel_rfl, by kernel_rfl, rfl, rfl⟩
instance : TyIs Try.prog 42 (.struct (structFields Try.prog 42)) 2 40 [.string (str []), .slice none 0 0] := ⟨by kernel_rfl, _, _, rfl, by kernel_rfl, by kernel_rfl, rfl, rfl⟩
instance : TyIs Try.prog 43 (.struct (structFields Try.prog 43)) 2 40 [.string (str []), .slice none 0 0] := ⟨by kernel_rfl, _, _, rfl, by kernel_rfl, by kernel_rfl, rfl, rfl⟩
instance : TyIs Try.prog 45 (.func #[9] #[43, 4] false) 1 8 [.nilFunc] := ⟨by kernel_rfl, _, _, rfl, by kernel_rfl, by kernel_rfl, rfl, rfl⟩
instance : TyIs Try.prog 46 (.func #[43] #[4] false) 1 8 [.nilFunc] := ⟨by kernel_rfl, _, _, rfl, by kernel_rfl, by kernel_rfl, rfl, rfl⟩
instance : TyIs Try.prog 47 (.func #[3, 3, 3] #[4] false) 1 8 [.nilFunc] := ⟨by kernel_rfl, _, _, rfl, by kernel_rfl, by kernel_rfl, rfl, rfl⟩
instance : TyIs Try.prog 48 (.slice 3) 1 24 [.slice none 0 0] := ⟨by kernel_rfl, _, _, rfl, by kernel_rfl, by kernel_rfl, rfl, rfl⟩
instance : TyIs Try.prog 49 (.func #[] #[48] false) 1 8 [.nilFunc] := ⟨by kernel_rfl, _, _, rfl, by kernel_rfl, by kernel_rfl, rfl, rfl⟩
instance : TyIs Try.prog 50 (.func #[9, 30] #[32] true) 1 8 [.nilFunc] := ⟨by kernel_rfl, _, _, rfl, by kernel_rfl, by kernel_rfl, rfl, rfl⟩
instance : TyIs Try.prog 51 (.func #[9] #[32] false) 1 8 [.nilFunc] := ⟨by kernel_rfl, _, _, rfl, by kernel_rfl, by kernel_rfl, rfl, rfl⟩
instance : TyIs Try.prog 52 (.func #[] #[3] false) 1 8 [.nilFunc] := ⟨by kernel_rfl, _, _, rfl, by kernel_rfl, by kernel_rfl, rfl, rfl⟩
instance : TyIs Try.prog 53 (.pointer 56) 1 8 [.pointer none] := ⟨by kernel_rfl, _, _, rfl, by kernel_rfl, by kernel_rfl, rfl, rfl⟩
instance : TyIs Try.prog 54 (.slice 5) 1 24 [.slice none 0 0] := ⟨by kernel_rfl, _, _, rfl, by kernel_rfl, by kernel_rfl, rfl, rfl⟩
instance : TyIs Try.prog 55 (.struct (structFields Try.prog 55)) 2 32 [.pointer none, .slice none 0 0] := ⟨by kernel_rfl, _, _, rfl, by kernel_rfl, by kernel_rfl, rfl, rfl⟩
instance : TyIs Try.prog 56 (.struct (structFields Try.prog 56)) 2 32 [.pointer none, .slice none 0 0] := ⟨by kernel_rfl, _, _, rfl, by kernel_rfl, by kernel_rfl, rfl, rfl⟩
instance : TyIs Try.prog 57 (.func #[53] #[] false) 1 8 [.nilFunc] := ⟨by kernel_rfl, _, _, rfl, by kernel_rfl, by kernel_rfl, rfl, rfl⟩
instance : TyIs Try.prog 58 (.func #[43] #[3] false) 1 8 [.nilFunc] := ⟨by kernel_rfl, _, _, rfl, by kernel_rfl, by kernel_rfl, rfl, rfl⟩
instance : TyIs Try.prog 59 (.func #[43] #[9] false) 1 8 [.nilFunc] := ⟨by kernel_rfl, _, _, rfl, by kernel_rfl, by kernel_rfl, rfl, rfl⟩
instance : TyIs Try.prog 61 (.func #[9, 3] #[32, 9, 4] false) 1 8 [.nilFunc] := ⟨by kernel_rfl, _, _, rfl, by kernel_rfl, by kernel_rfl, rfl, rfl⟩
instance : TyIs Try.prog 65 (.func #[9] #[3, 63] false) 1 8 [.nilFunc] := ⟨by kernel_rfl, _, _, rfl, by kernel_rfl, by kernel_rfl, rfl, rfl⟩
instance : TyIs Try.prog 66 (.func #[5] #[63] false) 1 8 [.nilFunc] := ⟨by kernel_rfl, _, _, rfl, by kernel_rfl, by kernel_rfl, rfl, rfl⟩
instance : TyIs Try.prog 67 (.pointer 5) 1 8 [.pointer none] := ⟨by kernel_rfl, _, _, rfl, by kernel_rfl, by kernel_rfl, rfl, rfl⟩
instance : TyIs Try.prog 69 (.func #[9, 3, 3] #[43, 3] false) 1 8 [.nilFunc] := ⟨by kernel_rfl, _, _, rfl, by kernel_rfl, by kernel_rfl, rfl, rfl⟩
instance : TyIs Try.prog 71 (.func #[9] #[3, 4] false) 1 8 [.nilFunc] := ⟨by kernel_rfl, _, _, rfl, by kernel_rfl, by kernel_rfl, rfl, rfl⟩
instance : TyIs Try.prog 73 (.func #[9] #[3, 3] false) 1 8 [.nilFunc] := ⟨by kernel_rfl, _, _, rfl, by kernel_rfl, by kernel_rfl, rfl, rfl⟩
instance : TyIs Try.prog 74 (.func #[9, 9] #[4] false) 1 8 [.nilFunc] := ⟨by kernel_rfl, _, _, rfl, by kernel_rfl, by kernel_rfl, rfl, rfl⟩
instance : TyIs Try.prog 75 (.func #[5] #[4] false) 1 8 [.nilFunc] := ⟨by kernel_rfl, _, _, rfl, by kernel_rfl, by kernel_rfl, rfl, rfl⟩
instance : TyIs Try.prog 76 (.func #[9, 9] #[9] false) 1 8 [.nilFunc] := ⟨by kernel_rfl, _, _, rfl, by kernel_rfl, by kernel_rfl, rfl, rfl⟩
instance : TyIs Try.prog 77 (.func #[9, 3] #[4] false) 1 8 [.nilFunc] := ⟨by kernel_rfl, _, _, rfl, by kernel_rfl, by kernel_rfl, rfl, rfl⟩
instance : TyIs Try.prog 78 .unsafePointer 1 8 [.pointer none] := ⟨by kernel_rfl, _, _, rfl, by kernel_rfl, by kernel_rfl, rfl, rfl⟩
instance : TyIs Try.prog 79 (.func #[78] #[78] false) 1 8 [.nilFunc] := ⟨by kernel_rfl, _, _, rfl, by kernel_rfl, by kernel_rfl, rfl, rfl⟩
instance : TyIs Try.prog 80 (.struct (structFields Try.prog 80)) 4 40 [.pointer none, .pointer none, .pointer none, .string (str [])] := ⟨by kernel_rfl, _, _, rfl, by kernel_rfl, by kernel_rfl, rfl, rfl⟩
instance : TyIs Try.prog 81 (.struct (structFields Try.prog 81)) 4 40 [.pointer none, .pointer none, .pointer none, .string (str [])] := ⟨by kernel_rfl, _, _, rfl, by kernel_rfl, by kernel_rfl, rfl, rfl⟩
instance : TyIs Try.prog 82 (.array 0 16) 0 0 [] := ⟨by kernel_rfl, _, _, rfl, by kernel_rfl, by kernel_rfl, rfl, rfl⟩
instance : TyIs Try.prog 83 (.struct (structFields Try.prog 83)) 0 0 [] := ⟨by kernel_rfl, _, _, rfl, by kernel_rfl, by kernel_rfl, rfl, rfl⟩
instance : TyIs Try.prog 84 (.struct (structFields Try.prog 84)) 0 0 [] := ⟨by kernel_rfl, _, _, rfl, by kernel_rfl, by kernel_rfl, rfl, rfl⟩
instance : TyIs Try.prog 85 (.int .u32) 1 4 [.int .u32 0] := ⟨by kernel_rfl, _, _, rfl, by kernel_rfl, by kernel_rfl, rfl, rfl⟩
instance : TyIs Try.prog 86 (.int .u8) 1 1 [.int .u8 0] := ⟨by kernel_rfl, _, _, rfl, by kernel_rfl, by kernel_rfl, rfl, rfl⟩
instance : TyIs Try.prog 87 (.int .u8) 1 1 [.int .u8 0] := ⟨by kernel_rfl, _, _, rfl, by kernel_rfl, by kernel_rfl, rfl, rfl⟩
instance : TyIs Try.prog 88 (.func #[78, 78] #[4] false) 1 8 [.nilFunc] := ⟨by kernel_rfl, _, _, rfl, by kernel_rfl, by kernel_rfl, rfl, rfl⟩
instance : TyIs Try.prog 89 (.int .i32) 1 4 [.int .i32 0] := ⟨by kernel_rfl, _, _, rfl, by kernel_rfl, by kernel_rfl, rfl, rfl⟩
instance : TyIs Try.prog 90 (.int .i32) 1 4 [.int .i32 0] := ⟨by kernel_rfl, _, _, rfl, by kernel_rfl, by kernel_rfl, rfl, rfl⟩
instance : TyIs Try.prog 91 (.struct (structFields Try.prog 91)) 11 48 [.int .u64 0, .int .u64 0, .int .u32 0, .int .u8 0, .int .u8 0, .int .u8 0, .int .u8 0, .nilFunc, .pointer none, .int .i32 0, .int .i32 0] := ⟨by kernel_rfl, _, _, rfl, by kernel_rfl, by kernel_rfl, rfl, rfl⟩
instance : TyIs Try.prog 92 (.struct (structFields Try.prog 92)) 11 48 [.int .u64 0, .int .u64 0, .int .u32 0, .int .u8 0, .int .u8 0, .int .u8 0, .int .u8 0, .nilFunc, .pointer none, .int .i32 0, .int .i32 0] := ⟨by kernel_rfl, _, _, rfl, by kernel_rfl, by kernel_rfl, rfl, rfl⟩
instance : StructIs Try.prog 7 [(0, 1), (1, 1), (2, 1), (3, 1)] := ⟨structFields Try.prog 7, by kernel_rfl, fun _ => by kernel_rfl⟩
instance : FieldIs Try.prog 7 0 0 := ⟨structFields Try.prog 7, _, _, by kernel_rfl, rfl, rfl, by decide, by kernel_rfl⟩
instance : FieldIs Try.prog 7 1 1 := ⟨structFields Try.prog 7, _, _, by kernel_rfl, rfl, rfl, by decide, by kernel_rfl⟩
instance : FieldIs Try.prog 7 2 2 := ⟨structFields Try.prog 7, _, _, by kernel_rfl, rfl, rfl, by decide, by kernel_rfl⟩
instance : FieldIs Try.prog 7 3 3 := ⟨structFields Try.prog 7, _, _, by kernel_rfl, rfl, rfl, by decide, by kernel_rfl⟩
instance : StructIs Try.prog 8 [(0, 1), (1, 1), (2, 1), (3, 1)] := ⟨structFields Try.prog 8, by kernel_rfl, fun _ => by kernel_rfl⟩
instance : FieldIs Try.prog 8 0 0 := ⟨structFields Try.prog 8, _, _, by kernel_rfl, rfl, rfl, by decide, by kernel_rfl⟩
instance : FieldIs Try.prog 8 1 1 := ⟨structFields Try.prog 8, _, _, by kernel_rfl, rfl, rfl, by decide, by kernel_rfl⟩
instance : FieldIs Try.prog 8 2 2 := ⟨structFields Try.prog 8, _, _, by kernel_rfl, rfl, rfl, by decide, by kernel_rfl⟩
instance : FieldIs Try.prog 8 3 3 := ⟨structFields Try.prog 8, _, _, by kernel_rfl, rfl, rfl, by decide, by kernel_rfl⟩
instance : StructIs Try.prog 13 [(0, 1), (1, 1)] := ⟨structFields Try.prog 13, by kernel_rfl, fun _ => by kernel_rfl⟩
instance : FieldIs Try.prog 13 0 0 := ⟨structFields Try.prog 13, _, _, by kernel_rfl, rfl, rfl, by decide, by kernel_rfl⟩
instance : FieldIs Try.prog 13 1 1 := ⟨structFields Try.prog 13, _, _, by kernel_rfl, rfl, rfl, by decide, by kernel_rfl⟩
instance : StructIs Try.prog 14 [(0, 1), (1, 1)] := ⟨structFields Try.prog 14, by kernel_rfl, fun _ => by kernel_rfl⟩
instance : FieldIs Try.prog 14 0 0 := ⟨structFields Try.prog 14, _, _, by kernel_rfl, rfl, rfl, by decide, by kernel_rfl⟩
instance : FieldIs Try.prog 14 1 1 := ⟨structFields Try.prog 14, _, _, by kernel_rfl, rfl, rfl, by decide, by kernel_rfl⟩
instance : StructIs Try.prog 18 [(0, 1)] := ⟨structFields Try.prog 18, by kernel_rfl, fun _ => by kernel_rfl⟩
instance : FieldIs Try.prog 18 0 0 := ⟨structFields Try.prog 18, _, _, by kernel_rfl, rfl, rfl, by decide, by kernel_rfl⟩
instance : StructIs Try.prog 19 [(0, 1)] := ⟨structFields Try.prog 19, by kernel_rfl, fun _ => by kernel_rfl⟩
instance : FieldIs Try.prog 19 0 0 := ⟨structFields Try.prog 19, _, _, by kernel_rfl, rfl, rfl, by decide, by kernel_rfl⟩
instance : StructIs Try.prog 31 [(0, 1), (1, 1)] := ⟨structFields Try.prog 31, by kernel_rfl, fun _ => by kernel_rfl⟩
instance : FieldIs Try.prog 31 0 0 := ⟨structFields Try.prog 31, _, _, by kernel_rfl, rfl, rfl, by decide, by kernel_rfl⟩
instance : FieldIs Try.prog 31 1 1 := ⟨structFields Try.prog 31, _, _, by kernel_rfl, rfl, rfl, by decide, by kernel_rfl⟩
instance : StructIs Try.prog 32 [(0, 1), (1, 1)] := ⟨structFields Try.prog 32, by kernel_rfl, fun _ => by kernel_rfl⟩
instance : FieldIs Try.prog 32 0 0 := ⟨structFields Try.prog 32, _, _, by kernel_rfl, rfl, rfl, by decide, by kernel_rfl⟩
instance : FieldIs Try.prog 32 1 1 := ⟨structFields Try.prog 32, _, _, by kernel_rfl, rfl, rfl, by decide, by kernel_rfl⟩
instance : StructIs Try.prog 37 [(0, 1), (1, 2)] := ⟨structFields Try.prog 37, by kernel_rfl, fun _ => by kernel_rfl⟩
instance : FieldIs Try.prog 37 0 0 := ⟨structFields Try.prog 37, _, _, by kernel_rfl, rfl, rfl, by decide, by kernel_rfl⟩
instance : FieldIs Try.prog 37 1 1 := ⟨structFields Try.prog 37, _, _, by kernel_rfl, rfl, rfl, by decide, by kernel_rfl⟩
instance : StructIs Try.prog 38 [(0, 1), (1, 2)] := ⟨structFields Try.prog 38, by kernel_rfl, fun _ => by kernel_rfl⟩
instance : FieldIs Try.prog 38 0 0 := ⟨structFields Try.prog 38, _, _, by kernel_rfl, rfl, rfl, by decide, by kernel_rfl⟩
instance : FieldIs Try.prog 38 1 1 := ⟨structFields Try.prog 38, _, _, by kernel_rfl, rfl, rfl, by decide, by kernel_rfl⟩
instance : StructIs Try.prog 42 [(0, 1), (1, 1)] := ⟨structFields Try.prog 42, by kernel_rfl, fun _ => by kernel_rfl⟩
instance : FieldIs Try.prog 42 0 0 := ⟨structFields Try.prog 42, _, _, by kernel_rfl, rfl, rfl, by decide, by kernel_rfl⟩
instance : FieldIs Try.prog 42 1 1 := ⟨structFields Try.prog 42, _, _, by kernel_rfl, rfl, rfl, by decide, by kernel_rfl⟩
instance : StructIs Try.prog 43 [(0, 1), (1, 1)] := ⟨structFields Try.prog 43, by kernel_rfl, fun _ => by kernel_rfl⟩
instance : FieldIs Try.prog 43 0 0 := ⟨structFields Try.prog 43, _, _, by kernel_rfl, rfl, rfl, by decide, by kernel_rfl⟩
instance : FieldIs Try.prog 43 1 1 := ⟨structFields Try.prog 43, _, _, by kernel_rfl, rfl, rfl, by decide, by kernel_rfl⟩
instance : StructIs Try.prog 55 [(0, 1), (1, 1)] := ⟨structFields Try.prog 55, by kernel_rfl, fun _ => by kernel_rfl⟩
instance : FieldIs Try.prog 55 0 0 := ⟨structFields Try.prog 55, _, _, by kernel_rfl, rfl, rfl, by decide, by kernel_rfl⟩
instance : FieldIs Try.prog 55 1 1 := ⟨structFields Try.prog 55, _, _, by kernel_rfl, rfl, rfl, by decide, by kernel_rfl⟩
instance : StructIs Try.prog 56 [(0, 1), (1, 1)] := ⟨structFields Try.prog 56, by kernel_rfl, fun _ => by kernel_rfl⟩
instance : FieldIs Try.prog 56 0 0 := ⟨structFields Try.prog 56, _, _, by kernel_rfl, rfl, rfl, by decide, by kernel_rfl⟩
instance : FieldIs Try.prog 56 1 1 := ⟨structFields Try.prog 56, _, _, by kernel_rfl, rfl, rfl, by decide, by kernel_rfl⟩
instance : StructIs Try.prog 80 [(0, 1), (1, 1), (2, 1), (3, 1)] := ⟨structFields Try.prog 80, by kernel_rfl, fun _ => by kernel_rfl⟩
instance : FieldIs Try.prog 80 0 0 := ⟨structFields Try.prog 80, _, _, by kernel_rfl, rfl, rfl, by decide, by kernel_rfl⟩
instance : FieldIs Try.prog 80 1 1 := ⟨structFields Try.prog 80, _, _, by kernel_rfl, rfl, rfl, by decide, by kernel_rfl⟩
instance : FieldIs Try.prog 80 2 2 := ⟨structFields Try.prog 80, _, _, by kernel_rfl, rfl, rfl, by decide, by kernel_rfl⟩
instance : FieldIs Try.prog 80 3 3 := ⟨structFields Try.prog 80, _, _, by kernel_rfl, rfl, rfl, by decide, by kernel_rfl⟩
instance : StructIs Try.prog 81 [(0, 1), (1, 1), (2, 1), (3, 1)] := ⟨structFields Try.prog 81, by kernel_rfl, fun _ => by kernel_rfl⟩
instance : FieldIs Try.prog 81 0 0 := ⟨structFields Try.prog 81, _, _, by kernel_rfl, rfl, rfl, by decide, by kernel_rfl⟩
instance : FieldIs Try.prog 81 1 1 := ⟨structFields Try.prog 81, _, _, by kernel_rfl, rfl, rfl, by decide, by kernel_rfl⟩
instance : FieldIs Try.prog 81 2 2 := ⟨structFields Try.prog 81, _, _, by kernel_rfl, rfl, rfl, by decide, by kernel_rfl⟩
instance : FieldIs Try.prog 81 3 3 := ⟨structFields Try.prog 81, _, _, by kernel_rfl, rfl, rfl, by decide, by kernel_rfl⟩
instance : StructIs Try.prog 83 [(0, 0)] := ⟨structFields Try.prog 83, by kernel_rfl, fun _ => by kernel_rfl⟩
instance : StructIs Try.prog 84 [(0, 0)] := ⟨structFields Try.prog 84, by kernel_rfl, fun _ => by kernel_rfl⟩
instance : StructIs Try.prog 91 [(0, 1), (1, 1), (2, 1), (3, 1), (4, 1), (5, 1), (6, 1), (7, 1), (8, 1), (9, 1), (10, 1)] := ⟨structFields Try.prog 91, by kernel_rfl, fun _ => by kernel_rfl⟩
instance : FieldIs Try.prog 91 0 0 := ⟨structFields Try.prog 91, _, _, by kernel_rfl, rfl, rfl, by decide, by kernel_rfl⟩
instance : FieldIs Try.prog 91 1 1 := ⟨structFields Try.prog 91, _, _, by kernel_rfl, rfl, rfl, by decide, by kernel_rfl⟩
instance : FieldIs Try.prog 91 2 2 := ⟨structFields Try.prog 91, _, _, by kernel_rfl, rfl, rfl, by decide, by kernel_rfl⟩
instance : FieldIs Try.prog 91 3 3 := ⟨structFields Try.prog 91, _, _, by kernel_rfl, rfl, rfl, by decide, by kernel_rfl⟩
instance : FieldIs Try.prog 91 4 4 := ⟨structFields Try.prog 91, _, _, by kernel_rfl, rfl, rfl, by decide, by kernel_rfl⟩
instance : FieldIs Try.prog 91 5 5 := ⟨structFields Try.prog 91, _, _, by kernel_rfl, rfl, rfl, by decide, by kernel_rfl⟩
instance : FieldIs Try.prog 91 6 6 := ⟨structFields Try.prog 91, _, _, by kernel_rfl, rfl, rfl, by decide, by kernel_rfl⟩
instance : FieldIs Try.prog 91 7 7 := ⟨structFields Try.prog 91, _, _, by kernel_rfl, rfl, rfl, by decide, by kernel_rfl⟩
instance : FieldIs Try.prog 91 8 8 := ⟨structFields Try.prog 91, _, _, by kernel_rfl, rfl, rfl, by decide, by kernel_rfl⟩
instance : FieldIs Try.prog 91 9 9 := ⟨structFields Try.prog 91, _, _, by kernel_rfl, rfl, rfl, by decide, by kernel_rfl⟩
instance : FieldIs Try.prog 91 10 10 := ⟨structFields Try.prog 91, _, _, by kernel_rfl, rfl, rfl, by decide, by kernel_rfl⟩
instance : StructIs Try.prog 92 [(0, 1), (1, 1), (2, 1), (3, 1), (4, 1), (5, 1), (6, 1), (7, 1), (8, 1), (9, 1), (10, 1)] := ⟨structFields Try.prog 92, by kernel_rfl, fun _ => by kernel_rfl⟩
instance : FieldIs Try.prog 92 0 0 := ⟨structFields Try.prog 92, _, _, by kernel_rfl, rfl, rfl, by decide, by kernel_rfl⟩
instance : FieldIs Try.prog 92 1 1 := ⟨structFields Try.prog 92, _, _, by kernel_rfl, rfl, rfl, by decide, by kernel_rfl⟩
instance : FieldIs Try.prog 92 2 2 := ⟨structFields Try.prog 92, _, _, by kernel_rfl, rfl, rfl, by decide, by kernel_rfl⟩
instance : FieldIs Try.prog 92 3 3 := ⟨structFields Try.prog 92, _, _, by kernel_rfl, rfl, rfl, by decide, by kernel_rfl⟩
instance : FieldIs Try.prog 92 4 4 := ⟨structFields Try.prog 92, _, _, by kernel_rfl, rfl, rfl, by decide, by kernel_rfl⟩
instance : FieldIs Try.prog 92 5 5 := ⟨structFields Try.prog 92, _, _, by kernel_rfl, rfl, rfl, by decide, by kernel_rfl⟩
instance : FieldIs Try.prog 92 6 6 := ⟨structFields Try.prog 92, _, _, by kernel_rfl, rfl, rfl, by decide, by kernel_rfl⟩
instance : FieldIs Try.prog 92 7 7 := ⟨structFields Try.prog 92, _, _, by kernel_rfl, rfl, rfl, by decide, by kernel_rfl⟩
instance : FieldIs Try.prog 92 8 8 := ⟨structFields Try.prog 92, _, _, by kernel_rfl, rfl, rfl, by decide, by kernel_rfl⟩
instance : FieldIs Try.prog 92 9 9 := ⟨structFields Try.prog 92, _, _, by kernel_rfl, rfl, rfl, by decide, by kernel_rfl⟩
instance : FieldIs Try.prog 92 10 10 := ⟨structFields Try.prog 92, _, _, by kernel_rfl, rfl, rfl, by decide, by kernel_rfl⟩
end Go.Proofs.Yteebkhdnjkchgaa

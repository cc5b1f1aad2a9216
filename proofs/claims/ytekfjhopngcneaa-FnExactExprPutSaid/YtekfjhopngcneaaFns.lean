/- What the rules want to know of the seat's functions and types, by program. No conditions. -/
import Derived.Test.YtekfjhopngcneaaRows
import Derived.Test.YtekfjhopngcneaaOps
namespace Go.Proofs.Ytekfjhopngcneaa
set_option maxRecDepth 100000
def structFields (P : Program) (T : TypeId) : Array Field := match P.underlying T with
  | some (.struct fs) => fs
  | _ => #[]
instance : FnIs Try.prog 2 (Try.f2.body.getD .skip) 1 [] := ⟨Try.f2, Try.func2, by kernel_rfl, by kernel_rfl, by kernel_rfl, by kernel_rfl⟩
instance : FnIs Try.prog 3 (Try.f3.body.getD .skip) 42 [.tmp 6] := ⟨Try.f3, Try.func3, by kernel_rfl, by kernel_rfl, by kernel_rfl, by kernel_rfl⟩
instance : FnIs Try.prog 4 (Try.f4.body.getD .skip) 48 [.tmp 6, .tmp 7] := ⟨Try.f4, Try.func4, by kernel_rfl, by kernel_rfl, by kernel_rfl, by kernel_rfl⟩
instance : FnIs Try.prog 5 (Try.f5.body.getD .skip) 43 [.tmp 6, .tmp 7] := ⟨Try.f5, Try.func5, by kernel_rfl, by kernel_rfl, by kernel_rfl, by kernel_rfl⟩
instance : FnIs Try.prog 6 (Try.f6.body.getD .skip) 22 [.cell 2 27, .tmp 3] := ⟨Try.f6, Try.func6, by kernel_rfl, by kernel_rfl, by kernel_rfl, by kernel_rfl⟩
instance : FnIs Try.prog 7 (Try.f7.body.getD .skip) 34 [.tmp 2] := ⟨Try.f7, Try.func7, by kernel_rfl, by kernel_rfl, by kernel_rfl, by kernel_rfl⟩
instance : FnIs Try.prog 8 (Try.f8.body.getD .skip) 16 [.tmp 2] := ⟨Try.f8, Try.func8, by kernel_rfl, by kernel_rfl, by kernel_rfl, by kernel_rfl⟩
instance : FnIs Try.prog 9 (Try.f9.body.getD .skip) 31 [.tmp 2] := ⟨Try.f9, Try.func9, by kernel_rfl, by kernel_rfl, by kernel_rfl, by kernel_rfl⟩
instance : FnIs Try.prog 10 (Try.f10.body.getD .skip) 59 [.cell 6 27] := ⟨Try.f10, Try.func10, by kernel_rfl, by kernel_rfl, by kernel_rfl, by kernel_rfl⟩
instance : FnIs Try.prog 11 (Try.f11.body.getD .skip) 11 [.tmp 2] := ⟨Try.f11, Try.func11, by kernel_rfl, by kernel_rfl, by kernel_rfl, by kernel_rfl⟩
instance : FnIs Try.prog 12 (Try.f12.body.getD .skip) 17 [.cell 2 35, .tmp 3] := ⟨Try.f12, Try.func12, by kernel_rfl, by kernel_rfl, by kernel_rfl, by kernel_rfl⟩
instance : FnIs Try.prog 13 (Try.f13.body.getD .skip) 19 [.cell 2 35, .tmp 3] := ⟨Try.f13, Try.func13, by kernel_rfl, by kernel_rfl, by kernel_rfl, by kernel_rfl⟩
instance : FnIs Try.prog 14 (Try.f14.body.getD .skip) 21 [.tmp 2] := ⟨Try.f14, Try.func14, by kernel_rfl, by kernel_rfl, by kernel_rfl, by kernel_rfl⟩
instance : FnIs Try.prog 15 (Try.f15.body.getD .skip) 49 [.cell 6 35] := ⟨Try.f15, Try.func15, by kernel_rfl, by kernel_rfl, by kernel_rfl, by kernel_rfl⟩
instance : FnIs Try.prog 16 (Try.f16.body.getD .skip) 14 [.tmp 2] := ⟨Try.f16, Try.func16, by kernel_rfl, by kernel_rfl, by kernel_rfl, by kernel_rfl⟩
instance : FnIs Try.prog 17 (Try.f17.body.getD .skip) 7 [.tmp 2] := ⟨Try.f17, Try.func17, by kernel_rfl, by kernel_rfl, by kernel_rfl, by kernel_rfl⟩
instance : FnIs Try.prog 18 (Try.f18.body.getD .skip) 20 [.cell 2 27, .tmp 3] := ⟨Try.f18, Try.func18, by kernel_rfl, by kernel_rfl, by kernel_rfl, by kernel_rfl⟩
instance : FnIs Try.prog 19 (Try.f19.body.getD .skip) 105 [.tmp 2] := ⟨Try.f19, Try.func19, by kernel_rfl, by kernel_rfl, by kernel_rfl, by kernel_rfl⟩
instance : FnIs Try.prog 20 (Try.f20.body.getD .skip) 24 [.tmp 2] := ⟨Try.f20, Try.func20, by kernel_rfl, by kernel_rfl, by kernel_rfl, by kernel_rfl⟩
instance : FnIs Try.prog 21 (Try.f21.body.getD .skip) 15 [.tmp 6] := ⟨Try.f21, Try.func21, by kernel_rfl, by kernel_rfl, by kernel_rfl, by kernel_rfl⟩
instance : FnIs Try.prog 22 (Try.f22.body.getD .skip) 18 [.tmp 2, .tmp 3] := ⟨Try.f22, Try.func22, by kernel_rfl, by kernel_rfl, by kernel_rfl, by kernel_rfl⟩
instance : FnIs Try.prog 23 (Try.f23.body.getD .skip) 20 [.tmp 2, .tmp 3] := ⟨Try.f23, Try.func23, by kernel_rfl, by kernel_rfl, by kernel_rfl, by kernel_rfl⟩
instance : FnIs Try.prog 24 (Try.f24.body.getD .skip) 18 [.tmp 4] := ⟨Try.f24, Try.func24, by kernel_rfl, by kernel_rfl, by kernel_rfl, by kernel_rfl⟩
instance : FnIs Try.prog 25 (Try.f25.body.getD .skip) 41 [.tmp 4] := ⟨Try.f25, Try.func25, by kernel_rfl, by kernel_rfl, by kernel_rfl, by kernel_rfl⟩
instance : FnIs Try.prog 26 (Try.f26.body.getD .skip) 23 [.cell 2 35, .tmp 3] := ⟨Try.f26, Try.func26, by kernel_rfl, by kernel_rfl, by kernel_rfl, by kernel_rfl⟩
instance : FnIs Try.prog 27 (Try.f27.body.getD .skip) 8 [.tmp 2] := ⟨Try.f27, Try.func27, by kernel_rfl, by kernel_rfl, by kernel_rfl, by kernel_rfl⟩
instance : FnIs Try.prog 28 (Try.f28.body.getD .skip) 15 [.tmp 6] := ⟨Try.f28, Try.func28, by kernel_rfl, by kernel_rfl, by kernel_rfl, by kernel_rfl⟩
instance : FnIs Try.prog 29 (Try.f29.body.getD .skip) 20 [.tmp 2] := ⟨Try.f29, Try.func29, by kernel_rfl, by kernel_rfl, by kernel_rfl, by kernel_rfl⟩
instance : FnIs Try.prog 30 (Try.f30.body.getD .skip) 7 [.tmp 2] := ⟨Try.f30, Try.func30, by kernel_rfl, by kernel_rfl, by kernel_rfl, by kernel_rfl⟩
instance : FnIs Try.prog 31 (Try.f31.body.getD .skip) 8 [.tmp 2] := ⟨Try.f31, Try.func31, by kernel_rfl, by kernel_rfl, by kernel_rfl, by kernel_rfl⟩
instance : FnIs Try.prog 32 (Try.f32.body.getD .skip) 45 [.tmp 2] := ⟨Try.f32, Try.func32, by kernel_rfl, by kernel_rfl, by kernel_rfl, by kernel_rfl⟩
instance : FnIs Try.prog 33 (Try.f33.body.getD .skip) 9 [.tmp 4] := ⟨Try.f33, Try.func33, by kernel_rfl, by kernel_rfl, by kernel_rfl, by kernel_rfl⟩
instance : FnIs Try.prog 34 (Try.f34.body.getD .skip) 38 [.tmp 4] := ⟨Try.f34, Try.func34, by kernel_rfl, by kernel_rfl, by kernel_rfl, by kernel_rfl⟩
instance : FnIs Try.prog 35 (Try.f35.body.getD .skip) 21 [.tmp 2] := ⟨Try.f35, Try.func35, by kernel_rfl, by kernel_rfl, by kernel_rfl, by kernel_rfl⟩
instance : FnIs Try.prog 36 (Try.f36.body.getD .skip) 11 [.tmp 2] := ⟨Try.f36, Try.func36, by kernel_rfl, by kernel_rfl, by kernel_rfl, by kernel_rfl⟩
instance : FnIs Try.prog 37 (Try.f37.body.getD .skip) 78 [.tmp 2] := ⟨Try.f37, Try.func37, by kernel_rfl, by kernel_rfl, by kernel_rfl, by kernel_rfl⟩
instance : FnIs Try.prog 38 (Try.f38.body.getD .skip) 32 [] := ⟨Try.f38, Try.func38, by kernel_rfl, by kernel_rfl, by kernel_rfl, by kernel_rfl⟩
instance : FnIs Try.prog 39 (Try.f39.body.getD .skip) 14 [.tmp 2] := ⟨Try.f39, Try.func39, by kernel_rfl, by kernel_rfl, by kernel_rfl, by kernel_rfl⟩
instance : FnIs Try.prog 40 (Try.f40.body.getD .skip) 87 [.cell 6 27, .tmp 7] := ⟨Try.f40, Try.func40, by kernel_rfl, by kernel_rfl, by kernel_rfl, by kernel_rfl⟩
instance : FnIs Try.prog 41 (Try.f41.body.getD .skip) 57 [.tmp 2, .tmp 3] := ⟨Try.f41, Try.func41, by kernel_rfl, by kernel_rfl, by kernel_rfl, by kernel_rfl⟩
instance : FnIs Try.prog 42 (Try.f42.body.getD .skip) 10 [.tmp 2] := ⟨Try.f42, Try.func42, by kernel_rfl, by kernel_rfl, by kernel_rfl, by kernel_rfl⟩
instance : FnIs Try.prog 43 (Try.f43.body.getD .skip) 65 [.tmp 6] := ⟨Try.f43, Try.func43, by kernel_rfl, by kernel_rfl, by kernel_rfl, by kernel_rfl⟩
instance : FnIs Try.prog 44 (Try.f44.body.getD .skip) 78 [.cell 4 35, .tmp 5, .tmp 6] := ⟨Try.f44, Try.func44, by kernel_rfl, by kernel_rfl, by kernel_rfl, by kernel_rfl⟩
instance : FnIs Try.prog 45 (Try.f45.body.getD .skip) 45 [] := ⟨Try.f45, Try.func45, by kernel_rfl, by kernel_rfl, by kernel_rfl, by kernel_rfl⟩
instance : FnIs Try.prog 46 (Try.f46.body.getD .skip) 11 [] := ⟨Try.f46, Try.func46, by kernel_rfl, by kernel_rfl, by kernel_rfl, by kernel_rfl⟩
instance : FnIs Try.prog 47 (Try.f47.body.getD .skip) 10 [.tmp 2] := ⟨Try.f47, Try.func47, by kernel_rfl, by kernel_rfl, by kernel_rfl, by kernel_rfl⟩
instance : FnIs Try.prog 48 (Try.f48.body.getD .skip) 19 [.tmp 4] := ⟨Try.f48, Try.func48, by kernel_rfl, by kernel_rfl, by kernel_rfl, by kernel_rfl⟩
instance : FnIs Try.prog 49 (Try.f49.body.getD .skip) 22 [.tmp 2] := ⟨Try.f49, Try.func49, by kernel_rfl, by kernel_rfl, by kernel_rfl, by kernel_rfl⟩
instance : FnIs Try.prog 50 (Try.f50.body.getD .skip) 25 [.tmp 2] := ⟨Try.f50, Try.func50, by kernel_rfl, by kernel_rfl, by kernel_rfl, by kernel_rfl⟩
instance : FnIs Try.prog 51 (Try.f51.body.getD .skip) 15 [.tmp 2] := ⟨Try.f51, Try.func51, by kernel_rfl, by kernel_rfl, by kernel_rfl, by kernel_rfl⟩
instance : FnIs Try.prog 52 (Try.f52.body.getD .skip) 10 [.tmp 2] := ⟨Try.f52, Try.func52, by kernel_rfl, by kernel_rfl, by kernel_rfl, by kernel_rfl⟩
instance : FnIs Try.prog 53 (Try.f53.body.getD .skip) 19 [.tmp 4, .tmp 5] := ⟨Try.f53, Try.func53, by kernel_rfl, by kernel_rfl, by kernel_rfl, by kernel_rfl⟩
instance : FnIs Try.prog 54 (Try.f54.body.getD .skip) 17 [.tmp 4] := ⟨Try.f54, Try.func54, by kernel_rfl, by kernel_rfl, by kernel_rfl, by kernel_rfl⟩
instance : FnIs Try.prog 55 (Try.f55.body.getD .skip) 33 [.tmp 2] := ⟨Try.f55, Try.func55, by kernel_rfl, by kernel_rfl, by kernel_rfl, by kernel_rfl⟩
instance : FnIs Try.prog 56 (Try.f56.body.getD .skip) 41 [.tmp 2] := ⟨Try.f56, Try.func56, by kernel_rfl, by kernel_rfl, by kernel_rfl, by kernel_rfl⟩
instance : FnIs Try.prog 57 (Try.f57.body.getD .skip) 8 [.tmp 4] := ⟨Try.f57, Try.func57, by kernel_rfl, by kernel_rfl, by kernel_rfl, by kernel_rfl⟩
instance : FnIs Try.prog 58 (Try.f58.body.getD .skip) 33 [.tmp 2] := ⟨Try.f58, Try.func58, by kernel_rfl, by kernel_rfl, by kernel_rfl, by kernel_rfl⟩
instance : FnIs Try.prog 59 (Try.f59.body.getD .skip) 36 [.tmp 2] := ⟨Try.f59, Try.func59, by kernel_rfl, by kernel_rfl, by kernel_rfl, by kernel_rfl⟩
instance : FnIs Try.prog 60 (Try.f60.body.getD .skip) 22 [.tmp 2] := ⟨Try.f60, Try.func60, by kernel_rfl, by kernel_rfl, by kernel_rfl, by kernel_rfl⟩
instance : FnIs Try.prog 61 (Try.f61.body.getD .skip) 28 [.tmp 2] := ⟨Try.f61, Try.func61, by kernel_rfl, by kernel_rfl, by kernel_rfl, by kernel_rfl⟩
instance : FnIs Try.prog 62 (Try.f62.body.getD .skip) 20 [] := ⟨Try.f62, Try.func62, by kernel_rfl, by kernel_rfl, by kernel_rfl, by kernel_rfl⟩
instance : FnIs Try.prog 63 (Try.f63.body.getD .skip) 18 [.tmp 4] := ⟨Try.f63, Try.func63, by kernel_rfl, by kernel_rfl, by kernel_rfl, by kernel_rfl⟩
instance : FnIs Try.prog 64 (Try.f64.body.getD .skip) 27 [.tmp 4] := ⟨Try.f64, Try.func64, by kernel_rfl, by kernel_rfl, by kernel_rfl, by kernel_rfl⟩
instance : FnIs Try.prog 65 (Try.f65.body.getD .skip) 8 [.tmp 4] := ⟨Try.f65, Try.func65, by kernel_rfl, by kernel_rfl, by kernel_rfl, by kernel_rfl⟩
instance : FnIs Try.prog 66 (Try.f66.body.getD .skip) 18 [.tmp 6] := ⟨Try.f66, Try.func66, by kernel_rfl, by kernel_rfl, by kernel_rfl, by kernel_rfl⟩
instance : FnIs Try.prog 68 (Try.f68.body.getD .skip) 13 [.tmp 4] := ⟨Try.f68, Try.func68, by kernel_rfl, by kernel_rfl, by kernel_rfl, by kernel_rfl⟩
instance : TyIs Try.prog 1 (.func #[] #[] false) 1 8 [.nilFunc] := ⟨by kernel_rfl, _, _, rfl, by kernel_rfl, by kernel_rfl, rfl, rfl⟩
instance : TyIs Try.prog 2 (.int .i64) 1 8 [.int .i64 0] := ⟨by kernel_rfl, _, _, rfl, by kernel_rfl, by kernel_rfl, rfl, rfl⟩
instance : TyIs Try.prog 3 (.int .i64) 1 8 [.int .i64 0] := ⟨by kernel_rfl, _, _, rfl, by kernel_rfl, by kernel_rfl, rfl, rfl⟩
instance : TyIs Try.prog 4 .bool 1 1 [.bool false] := ⟨by kernel_rfl, _, _, rfl, by kernel_rfl, by kernel_rfl, rfl, rfl⟩
instance : TyIs Try.prog 5 (.int .u8) 1 1 [.int .u8 0] := ⟨by kernel_rfl, _, _, rfl, by kernel_rfl, by kernel_rfl, rfl, rfl⟩
instance : TyIs Try.prog 6 (.int .u8) 1 1 [.int .u8 0] := ⟨by kernel_rfl, _, _, rfl, by kernel_rfl, by kernel_rfl, rfl, rfl⟩
instance : TyIs Try.prog 7 (.struct (structFields Try.prog 7)) 4 24 [.int .i64 0, .int .i64 0, .bool false, .int .u8 0] := ⟨by kernel_rfl, _, _, rfl, by kernel_rfl, by kernel_rfl, rfl, rfl⟩
instance : TyIs Try.prog 8 (.struct (structFields Try.prog 8)) 4 24 [.int .i64 0, .int .i64 0, .bool false, .int .u8 0] := ⟨by kernel_rfl, _, _, rfl, by kernel_rfl, by kernel_rfl, rfl, rfl⟩
instance : TyIs Try.prog 9 .string 1 16 [.string (str [])] := ⟨by kernel_rfl, _, _, rfl, by kernel_rfl, by kernel_rfl, rfl, rfl⟩
instance : TyIs Try.prog 10 .string 1 16 [.string (str [])] := ⟨by kernel_rfl, _, _, rfl, by kernel_rfl, by kernel_rfl, rfl, rfl⟩
instance : TyIs Try.prog 11 .string 1 16 [.string (str [])] := ⟨by kernel_rfl, _, _, rfl, by kernel_rfl, by kernel_rfl, rfl, rfl⟩
instance : TyIs Try.prog 12 (.int .u64) 1 8 [.int .u64 0] := ⟨by kernel_rfl, _, _, rfl, by kernel_rfl, by kernel_rfl, rfl, rfl⟩
instance : TyIs Try.prog 13 (.struct (structFields Try.prog 13)) 2 24 [.string (str []), .int .u64 0] := ⟨by kernel_rfl, _, _, rfl, by kernel_rfl, by kernel_rfl, rfl, rfl⟩
instance : TyIs Try.prog 14 (.struct (structFields Try.prog 14)) 2 24 [.string (str []), .int .u64 0] := ⟨by kernel_rfl, _, _, rfl, by kernel_rfl, by kernel_rfl, rfl, rfl⟩
instance : TyIs Try.prog 15 (.pointer 88) 1 8 [.pointer none] := ⟨by kernel_rfl, _, _, rfl, by kernel_rfl, by kernel_rfl, rfl, rfl⟩
instance : TyIs Try.prog 16 (.pointer 91) 1 8 [.pointer none] := ⟨by kernel_rfl, _, _, rfl, by kernel_rfl, by kernel_rfl, rfl, rfl⟩
instance : TyIs Try.prog 17 (.pointer 99) 1 8 [.pointer none] := ⟨by kernel_rfl, _, _, rfl, by kernel_rfl, by kernel_rfl, rfl, rfl⟩
instance : TyIs Try.prog 18 (.struct (structFields Try.prog 18)) 1 8 [.pointer none] := ⟨by kernel_rfl, _, _, rfl, by kernel_rfl, by kernel_rfl, rfl, rfl⟩
instance : TyIs Try.prog 19 (.struct (structFields Try.prog 19)) 1 8 [.pointer none] := ⟨by kernel_rfl, _, _, rfl, by kernel_rfl, by kernel_rfl, rfl, rfl⟩
instance : TyIs Try.prog 21 (.int .i32) 1 4 [.int .i32 0] := ⟨by kernel_rfl, _, _, rfl, by kernel_rfl, by kernel_rfl, rfl, rfl⟩
instance : TyIs Try.prog 23 (.func #[9, 9, 9] #[9, 4] false) 1 8 [.nilFunc] := ⟨by kernel_rfl, _, _, rfl, by kernel_rfl, by kernel_rfl, rfl, rfl⟩
instance : TyIs Try.prog 24 (.func #[9, 9, 9] #[4] false) 1 8 [.nilFunc] := ⟨by kernel_rfl, _, _, rfl, by kernel_rfl, by kernel_rfl, rfl, rfl⟩
instance : TyIs Try.prog 25 (.slice 27) 1 24 [.slice none 0 0] := ⟨by kernel_rfl, _, _, rfl, by kernel_rfl, by kernel_rfl, rfl, rfl⟩
instance : TyIs Try.prog 26 (.struct (structFields Try.prog 26)) 2 40 [.string (str []), .slice none 0 0] := ⟨by kernel_rfl, _, _, rfl, by kernel_rfl, by kernel_rfl, rfl, rfl⟩
instance : TyIs Try.prog 27 (.struct (structFields Try.prog 27)) 2 40 [.string (str []), .slice none 0 0] := ⟨by kernel_rfl, _, _, rfl, by kernel_rfl, by kernel_rfl, rfl, rfl⟩
instance : TyIs Try.prog 29 (.func #[9] #[27, 4] false) 1 8 [.nilFunc] := ⟨by kernel_rfl, _, _, rfl, by kernel_rfl, by kernel_rfl, rfl, rfl⟩
instance : TyIs Try.prog 30 (.func #[9] #[4] false) 1 8 [.nilFunc] := ⟨by kernel_rfl, _, _, rfl, by kernel_rfl, by kernel_rfl, rfl, rfl⟩
instance : TyIs Try.prog 31 (.func #[27] #[9] false) 1 8 [.nilFunc] := ⟨by kernel_rfl, _, _, rfl, by kernel_rfl, by kernel_rfl, rfl, rfl⟩
instance : TyIs Try.prog 32 (.func #[27, 9, 27] #[27] false) 1 8 [.nilFunc] := ⟨by kernel_rfl, _, _, rfl, by kernel_rfl, by kernel_rfl, rfl, rfl⟩
instance : TyIs Try.prog 33 (.slice 35) 1 24 [.slice none 0 0] := ⟨by kernel_rfl, _, _, rfl, by kernel_rfl, by kernel_rfl, rfl, rfl⟩
instance : TyIs Try.prog 34 (.struct (structFields Try.prog 34)) 2 40 [.string (str []), .slice none 0 0] := ⟨by kernel_rfl, _, _, rfl, by kernel_rfl, by kernel_rfl, rfl, rfl⟩
instance : TyIs Try.prog 35 (.struct (structFields Try.prog 35)) 2 40 [.string (str []), .slice none 0 0] := ⟨by kernel_rfl, _, _, rfl, by kernel_rfl, by kernel_rfl, rfl, rfl⟩
instance : TyIs Try.prog 37 (.func #[9] #[35, 4] false) 1 8 [.nilFunc] := ⟨by kernel_rfl, _, _, rfl, by kernel_rfl, by kernel_rfl, rfl, rfl⟩
instance : TyIs Try.prog 38 (.func #[9, 35] #[35] false) 1 8 [.nilFunc] := ⟨by kernel_rfl, _, _, rfl, by kernel_rfl, by kernel_rfl, rfl, rfl⟩
instance : TyIs Try.prog 39 (.func #[] #[4] false) 1 8 [.nilFunc] := ⟨by kernel_rfl, _, _, rfl, by kernel_rfl, by kernel_rfl, rfl, rfl⟩
instance : TyIs Try.prog 40 (.func #[] #[9] false) 1 8 [.nilFunc] := ⟨by kernel_rfl, _, _, rfl, by kernel_rfl, by kernel_rfl, rfl, rfl⟩
instance : TyIs Try.prog 41 (.func #[27] #[4] false) 1 8 [.nilFunc] := ⟨by kernel_rfl, _, _, rfl, by kernel_rfl, by kernel_rfl, rfl, rfl⟩
instance : TyIs Try.prog 42 (.func #[27] #[3] false) 1 8 [.nilFunc] := ⟨by kernel_rfl, _, _, rfl, by kernel_rfl, by kernel_rfl, rfl, rfl⟩
instance : TyIs Try.prog 43 (.func #[3, 3, 3] #[4] false) 1 8 [.nilFunc] := ⟨by kernel_rfl, _, _, rfl, by kernel_rfl, by kernel_rfl, rfl, rfl⟩
instance : TyIs Try.prog 44 (.slice 9) 1 24 [.slice none 0 0] := ⟨by kernel_rfl, _, _, rfl, by kernel_rfl, by kernel_rfl, rfl, rfl⟩
instance : TyIs Try.prog 46 (.func #[9] #[44, 4] false) 1 8 [.nilFunc] := ⟨by kernel_rfl, _, _, rfl, by kernel_rfl, by kernel_rfl, rfl, rfl⟩
instance : TyIs Try.prog 48 (.func #[9] #[3, 3] false) 1 8 [.nilFunc] := ⟨by kernel_rfl, _, _, rfl, by kernel_rfl, by kernel_rfl, rfl, rfl⟩
instance : TyIs Try.prog 49 (.func #[44, 9] #[4] false) 1 8 [.nilFunc] := ⟨by kernel_rfl, _, _, rfl, by kernel_rfl, by kernel_rfl, rfl, rfl⟩
instance : TyIs Try.prog 50 (.func #[27, 3] #[44] false) 1 8 [.nilFunc] := ⟨by kernel_rfl, _, _, rfl, by kernel_rfl, by kernel_rfl, rfl, rfl⟩
instance : TyIs Try.prog 51 (.func #[] #[44] false) 1 8 [.nilFunc] := ⟨by kernel_rfl, _, _, rfl, by kernel_rfl, by kernel_rfl, rfl, rfl⟩
instance : TyIs Try.prog 52 (.func #[33] #[33] false) 1 8 [.nilFunc] := ⟨by kernel_rfl, _, _, rfl, by kernel_rfl, by kernel_rfl, rfl, rfl⟩
instance : TyIs Try.prog 53 (.slice 3) 1 24 [.slice none 0 0] := ⟨by kernel_rfl, _, _, rfl, by kernel_rfl, by kernel_rfl, rfl, rfl⟩
instance : TyIs Try.prog 54 (.func #[] #[53] false) 1 8 [.nilFunc] := ⟨by kernel_rfl, _, _, rfl, by kernel_rfl, by kernel_rfl, rfl, rfl⟩
instance : TyIs Try.prog 55 (.func #[3] #[44] false) 1 8 [.nilFunc] := ⟨by kernel_rfl, _, _, rfl, by kernel_rfl, by kernel_rfl, rfl, rfl⟩
instance : TyIs Try.prog 56 (.func #[] #[3] false) 1 8 [.nilFunc] := ⟨by kernel_rfl, _, _, rfl, by kernel_rfl, by kernel_rfl, rfl, rfl⟩
instance : TyIs Try.prog 57 (.pointer 60) 1 8 [.pointer none] := ⟨by kernel_rfl, _, _, rfl, by kernel_rfl, by kernel_rfl, rfl, rfl⟩
instance : TyIs Try.prog 58 (.slice 5) 1 24 [.slice none 0 0] := ⟨by kernel_rfl, _, _, rfl, by kernel_rfl, by kernel_rfl, rfl, rfl⟩
instance : TyIs Try.prog 59 (.struct (structFields Try.prog 59)) 2 32 [.pointer none, .slice none 0 0] := ⟨by kernel_rfl, _, _, rfl, by kernel_rfl, by kernel_rfl, rfl, rfl⟩
instance : TyIs Try.prog 60 (.struct (structFields Try.prog 60)) 2 32 [.pointer none, .slice none 0 0] := ⟨by kernel_rfl, _, _, rfl, by kernel_rfl, by kernel_rfl, rfl, rfl⟩
instance : TyIs Try.prog 61 (.func #[57] #[] false) 1 8 [.nilFunc] := ⟨by kernel_rfl, _, _, rfl, by kernel_rfl, by kernel_rfl, rfl, rfl⟩
instance : TyIs Try.prog 63 (.func #[9, 3, 3] #[27, 3] false) 1 8 [.nilFunc] := ⟨by kernel_rfl, _, _, rfl, by kernel_rfl, by kernel_rfl, rfl, rfl⟩
instance : TyIs Try.prog 65 (.func #[9] #[3, 4] false) 1 8 [.nilFunc] := ⟨by kernel_rfl, _, _, rfl, by kernel_rfl, by kernel_rfl, rfl, rfl⟩
instance : TyIs Try.prog 66 (.func #[27, 44, 44] #[44] false) 1 8 [.nilFunc] := ⟨by kernel_rfl, _, _, rfl, by kernel_rfl, by kernel_rfl, rfl, rfl⟩
instance : TyIs Try.prog 68 (.func #[9, 3] #[35, 9, 4] false) 1 8 [.nilFunc] := ⟨by kernel_rfl, _, _, rfl, by kernel_rfl, by kernel_rfl, rfl, rfl⟩
instance : TyIs Try.prog 69 (.func #[44, 70] #[] false) 1 8 [.nilFunc] := ⟨by kernel_rfl, _, _, rfl, by kernel_rfl, by kernel_rfl, rfl, rfl⟩
instance : TyIs Try.prog 70 (.func #[9] #[] false) 1 8 [.nilFunc] := ⟨by kernel_rfl, _, _, rfl, by kernel_rfl, by kernel_rfl, rfl, rfl⟩
instance : TyIs Try.prog 71 (.func #[44, 9] #[3] false) 1 8 [.nilFunc] := ⟨by kernel_rfl, _, _, rfl, by kernel_rfl, by kernel_rfl, rfl, rfl⟩
instance : TyIs Try.prog 75 (.func #[9] #[3, 73] false) 1 8 [.nilFunc] := ⟨by kernel_rfl, _, _, rfl, by kernel_rfl, by kernel_rfl, rfl, rfl⟩
instance : TyIs Try.prog 76 (.func #[5] #[73] false) 1 8 [.nilFunc] := ⟨by kernel_rfl, _, _, rfl, by kernel_rfl, by kernel_rfl, rfl, rfl⟩
instance : TyIs Try.prog 77 (.pointer 5) 1 8 [.pointer none] := ⟨by kernel_rfl, _, _, rfl, by kernel_rfl, by kernel_rfl, rfl, rfl⟩
instance : TyIs Try.prog 78 (.func #[5] #[4] false) 1 8 [.nilFunc] := ⟨by kernel_rfl, _, _, rfl, by kernel_rfl, by kernel_rfl, rfl, rfl⟩
instance : TyIs Try.prog 79 (.func #[9, 9] #[4] false) 1 8 [.nilFunc] := ⟨by kernel_rfl, _, _, rfl, by kernel_rfl, by kernel_rfl, rfl, rfl⟩
instance : TyIs Try.prog 80 (.func #[81] #[44] true) 1 8 [.nilFunc] := ⟨by kernel_rfl, _, _, rfl, by kernel_rfl, by kernel_rfl, rfl, rfl⟩
instance : TyIs Try.prog 81 (.slice 44) 1 24 [.slice none 0 0] := ⟨by kernel_rfl, _, _, rfl, by kernel_rfl, by kernel_rfl, rfl, rfl⟩
instance : TyIs Try.prog 82 (.func #[44, 3] #[44] false) 1 8 [.nilFunc] := ⟨by kernel_rfl, _, _, rfl, by kernel_rfl, by kernel_rfl, rfl, rfl⟩
instance : TyIs Try.prog 83 (.func #[9, 9] #[9] false) 1 8 [.nilFunc] := ⟨by kernel_rfl, _, _, rfl, by kernel_rfl, by kernel_rfl, rfl, rfl⟩
instance : TyIs Try.prog 84 (.func #[9, 3] #[4] false) 1 8 [.nilFunc] := ⟨by kernel_rfl, _, _, rfl, by kernel_rfl, by kernel_rfl, rfl, rfl⟩
instance : TyIs Try.prog 85 .unsafePointer 1 8 [.pointer none] := ⟨by kernel_rfl, _, _, rfl, by kernel_rfl, by kernel_rfl, rfl, rfl⟩
instance : TyIs Try.prog 86 (.func #[85] #[85] false) 1 8 [.nilFunc] := ⟨by kernel_rfl, _, _, rfl, by kernel_rfl, by kernel_rfl, rfl, rfl⟩
instance : TyIs Try.prog 87 (.struct (structFields Try.prog 87)) 4 40 [.pointer none, .pointer none, .pointer none, .string (str [])] := ⟨by kernel_rfl, _, _, rfl, by kernel_rfl, by kernel_rfl, rfl, rfl⟩
instance : TyIs Try.prog 88 (.struct (structFields Try.prog 88)) 4 40 [.pointer none, .pointer none, .pointer none, .string (str [])] := ⟨by kernel_rfl, _, _, rfl, by kernel_rfl, by kernel_rfl, rfl, rfl⟩
instance : TyIs Try.prog 89 (.array 0 16) 0 0 [] := ⟨by kernel_rfl, _, _, rfl, by kernel_rfl, by kernel_rfl, rfl, rfl⟩
instance : TyIs Try.prog 90 (.struct (structFields Try.prog 90)) 0 0 [] := ⟨by kernel_rfl, _, _, rfl, by kernel_rfl, by kernel_rfl, rfl, rfl⟩
instance : TyIs Try.prog 91 (.struct (structFields Try.prog 91)) 0 0 [] := ⟨by kernel_rfl, _, _, rfl, by kernel_rfl, by kernel_rfl, rfl, rfl⟩
instance : TyIs Try.prog 92 (.int .u32) 1 4 [.int .u32 0] := ⟨by kernel_rfl, _, _, rfl, by kernel_rfl, by kernel_rfl, rfl, rfl⟩
instance : TyIs Try.prog 93 (.int .u8) 1 1 [.int .u8 0] := ⟨by kernel_rfl, _, _, rfl, by kernel_rfl, by kernel_rfl, rfl, rfl⟩
instance : TyIs Try.prog 94 (.int .u8) 1 1 [.int .u8 0] := ⟨by kernel_rfl, _, _, rfl, by kernel_rfl, by kernel_rfl, rfl, rfl⟩
instance : TyIs Try.prog 95 (.func #[85, 85] #[4] false) 1 8 [.nilFunc] := ⟨by kernel_rfl, _, _, rfl, by kernel_rfl, by kernel_rfl, rfl, rfl⟩
instance : TyIs Try.prog 96 (.int .i32) 1 4 [.int .i32 0] := ⟨by kernel_rfl, _, _, rfl, by kernel_rfl, by kernel_rfl, rfl, rfl⟩
instance : TyIs Try.prog 97 (.int .i32) 1 4 [.int .i32 0] := ⟨by kernel_rfl, _, _, rfl, by kernel_rfl, by kernel_rfl, rfl, rfl⟩
instance : TyIs Try.prog 98 (.struct (structFields Try.prog 98)) 11 48 [.int .u64 0, .int .u64 0, .int .u32 0, .int .u8 0, .int .u8 0, .int .u8 0, .int .u8 0, .nilFunc, .pointer none, .int .i32 0, .int .i32 0] := ⟨by kernel_rfl, _, _, rfl, by kernel_rfl, by kernel_rfl, rfl, rfl⟩
instance : TyIs Try.prog 99 (.struct (structFields Try.prog 99)) 11 48 [.int .u64 0, .int .u64 0, .int .u32 0, .int .u8 0, .int .u8 0, .int .u8 0, .int .u8 0, .nilFunc, .pointer none, .int .i32 0, .int .i32 0] := ⟨by kernel_rfl, _, _, rfl, by kernel_rfl, by kernel_rfl, rfl, rfl⟩
instance : StructIs Try.prog 7 [(0, 1), (1, 1), (2, 1), (3, 1)] := ⟨structFields Try.prog 7, by kernel_rfl, fun _ => by kernel_rfl⟩
instance : FieldIs Try.prog 7 0 0 := ⟨structFields Try.prog 7, _, _, by kernel_rfl, rfl, rfl, by decide, by kernel_rfl⟩
instance : FieldIs Try.prog 7 1 1 := ⟨structFields Try.prog 7, _, _, by kernel_rfl, rfl, rfl, by decide, by kernel_rfl⟩
instance : FieldIs Try.prog 7 2 2 := ⟨structFields Try.prog 7, _, _, by kernel_rfl, rfl, rfl, by decide, by kernel_rfl⟩
instance : FieldIs Try.prog 7 3 3 := ⟨structFields Try.prog 7, _, _, by kernel_rfl, rfl, rfl, by decide, by kernel_rfl⟩
instance : StructIs Try.prog 8 [(0, 1), (1, 1), (2, 1), (3, 1)] := ⟨structFields Try.prog 8, by kernel_rfl, fun _ => by kernel_rfl⟩
instance : FieldIs Try.prog 8 0 0 := ⟨structFields Try.prog 8, _, _, by kernel_rfl, rfl, rfl, by decide, by kernel_rfl⟩
instance : FieldIs Try.prog 8 1 1 := ⟨structFields Try.prog 8, _, _, by kernel_rfl, rfl, rfl, by decide, by kernel_rfl⟩
instance : FieldIs Try.prog 8 2 2 := ⟨structFields Try.prog 8, _, _, by kernel_rfl, rfl, rfl, by decide, by kernel_rfl⟩
instance : FieldIs Try.prog 8 3 3 := ⟨structFields Try.prog 8, _, _, by kernel_rfl, rfl, rfl, by decide, by kernel_rfl⟩
instance : StructIs Try.prog 13 [(0, 1), (1, 1)] := ⟨structFields Try.prog 13, by kernel_rfl, fun _ => by kernel_rfl⟩
instance : FieldIs Try.prog 13 0 0 := ⟨structFields Try.prog 13, _, _, by kernel_rfl, rfl, rfl, by decide, by kernel_rfl⟩
instance : FieldIs Try.prog 13 1 1 := ⟨structFields Try.prog 13, _, _, by kernel_rfl, rfl, rfl, by decide, by kernel_rfl⟩
instance : StructIs Try.prog 14 [(0, 1), (1, 1)] := ⟨structFields Try.prog 14, by kernel_rfl, fun _ => by kernel_rfl⟩
instance : FieldIs Try.prog 14 0 0 := ⟨structFields Try.prog 14, _, _, by kernel_rfl, rfl, rfl, by decide, by kernel_rfl⟩
instance : FieldIs Try.prog 14 1 1 := ⟨structFields Try.prog 14, _, _, by kernel_rfl, rfl, rfl, by decide, by kernel_rfl⟩
instance : StructIs Try.prog 18 [(0, 1)] := ⟨structFields Try.prog 18, by kernel_rfl, fun _ => by kernel_rfl⟩
instance : FieldIs Try.prog 18 0 0 := ⟨structFields Try.prog 18, _, _, by kernel_rfl, rfl, rfl, by decide, by kernel_rfl⟩
instance : StructIs Try.prog 19 [(0, 1)] := ⟨structFields Try.prog 19, by kernel_rfl, fun _ => by kernel_rfl⟩
instance : FieldIs Try.prog 19 0 0 := ⟨structFields Try.prog 19, _, _, by kernel_rfl, rfl, rfl, by decide, by kernel_rfl⟩
instance : StructIs Try.prog 26 [(0, 1), (1, 1)] := ⟨structFields Try.prog 26, by kernel_rfl, fun _ => by kernel_rfl⟩
instance : FieldIs Try.prog 26 0 0 := ⟨structFields Try.prog 26, _, _, by kernel_rfl, rfl, rfl, by decide, by kernel_rfl⟩
instance : FieldIs Try.prog 26 1 1 := ⟨structFields Try.prog 26, _, _, by kernel_rfl, rfl, rfl, by decide, by kernel_rfl⟩
instance : StructIs Try.prog 27 [(0, 1), (1, 1)] := ⟨structFields Try.prog 27, by kernel_rfl, fun _ => by kernel_rfl⟩
instance : FieldIs Try.prog 27 0 0 := ⟨structFields Try.prog 27, _, _, by kernel_rfl, rfl, rfl, by decide, by kernel_rfl⟩
instance : FieldIs Try.prog 27 1 1 := ⟨structFields Try.prog 27, _, _, by kernel_rfl, rfl, rfl, by decide, by kernel_rfl⟩
instance : StructIs Try.prog 34 [(0, 1), (1, 1)] := ⟨structFields Try.prog 34, by kernel_rfl, fun _ => by kernel_rfl⟩
instance : FieldIs Try.prog 34 0 0 := ⟨structFields Try.prog 34, _, _, by kernel_rfl, rfl, rfl, by decide, by kernel_rfl⟩
instance : FieldIs Try.prog 34 1 1 := ⟨structFields Try.prog 34, _, _, by kernel_rfl, rfl, rfl, by decide, by kernel_rfl⟩
instance : StructIs Try.prog 35 [(0, 1), (1, 1)] := ⟨structFields Try.prog 35, by kernel_rfl, fun _ => by kernel_rfl⟩
instance : FieldIs Try.prog 35 0 0 := ⟨structFields Try.prog 35, _, _, by kernel_rfl, rfl, rfl, by decide, by kernel_rfl⟩
instance : FieldIs Try.prog 35 1 1 := ⟨structFields Try.prog 35, _, _, by kernel_rfl, rfl, rfl, by decide, by kernel_rfl⟩
instance : StructIs Try.prog 59 [(0, 1), (1, 1)] := ⟨structFields Try.prog 59, by kernel_rfl, fun _ => by kernel_rfl⟩
instance : FieldIs Try.prog 59 0 0 := ⟨structFields Try.prog 59, _, _, by kernel_rfl, rfl, rfl, by decide, by kernel_rfl⟩
instance : FieldIs Try.prog 59 1 1 := ⟨structFields Try.prog 59, _, _, by kernel_rfl, rfl, rfl, by decide, by kernel_rfl⟩
instance : StructIs Try.prog 60 [(0, 1), (1, 1)] := ⟨structFields Try.prog 60, by kernel_rfl, fun _ => by kernel_rfl⟩
instance : FieldIs Try.prog 60 0 0 := ⟨structFields Try.prog 60, _, _, by kernel_rfl, rfl, rfl, by decide, by kernel_rfl⟩
instance : FieldIs Try.prog 60 1 1 := ⟨structFields Try.prog 60, _, _, by kernel_rfl, rfl, rfl, by decide, by kernel_rfl⟩
instance : StructIs Try.prog 87 [(0, 1), (1, 1), (2, 1), (3, 1)] := ⟨structFields Try.prog 87, by kernel_rfl, fun _ => by kernel_rfl⟩
instance : FieldIs Try.prog 87 0 0 := ⟨structFields Try.prog 87, _, _, by kernel_rfl, rfl, rfl, by decide, by kernel_rfl⟩
instance : FieldIs Try.prog 87 1 1 := ⟨structFields Try.prog 87, _, _, by kernel_rfl, rfl, rfl, by decide, by kernel_rfl⟩
instance : FieldIs Try.prog 87 2 2 := ⟨structFields Try.prog 87, _, _, by kernel_rfl, rfl, rfl, by decide, by kernel_rfl⟩
instance : FieldIs Try.prog 87 3 3 := ⟨structFields Try.prog 87, _, _, by kernel_rfl, rfl, rfl, by decide, by kernel_rfl⟩
instance : StructIs Try.prog 88 [(0, 1), (1, 1), (2, 1), (3, 1)] := ⟨structFields Try.prog 88, by kernel_rfl, fun _ => by kernel_rfl⟩
instance : FieldIs Try.prog 88 0 0 := ⟨structFields Try.prog 88, _, _, by kernel_rfl, rfl, rfl, by decide, by kernel_rfl⟩
instance : FieldIs Try.prog 88 1 1 := ⟨structFields Try.prog 88, _, _, by kernel_rfl, rfl, rfl, by decide, by kernel_rfl⟩
instance : FieldIs Try.prog 88 2 2 := ⟨structFields Try.prog 88, _, _, by kernel_rfl, rfl, rfl, by decide, by kernel_rfl⟩
instance : FieldIs Try.prog 88 3 3 := ⟨structFields Try.prog 88, _, _, by kernel_rfl, rfl, rfl, by decide, by kernel_rfl⟩
instance : StructIs Try.prog 90 [(0, 0)] := ⟨structFields Try.prog 90, by kernel_rfl, fun _ => by kernel_rfl⟩
instance : StructIs Try.prog 91 [(0, 0)] := ⟨structFields Try.prog 91, by kernel_rfl, fun _ => by kernel_rfl⟩
instance : StructIs Try.prog 98 [(0, 1), (1, 1), (2, 1), (3, 1), (4, 1), (5, 1), (6, 1), (7, 1), (8, 1), (9, 1), (10, 1)] := ⟨structFields Try.prog 98, by kernel_rfl, fun _ => by kernel_rfl⟩
instance : FieldIs Try.prog 98 0 0 := ⟨structFields Try.prog 98, _, _, by kernel_rfl, rfl, rfl, by decide, by kernel_rfl⟩
instance : FieldIs Try.prog 98 1 1 := ⟨structFields Try.prog 98, _, _, by kernel_rfl, rfl, rfl, by decide, by kernel_rfl⟩
instance : FieldIs Try.prog 98 2 2 := ⟨structFields Try.prog 98, _, _, by kernel_rfl, rfl, rfl, by decide, by kernel_rfl⟩
instance : FieldIs Try.prog 98 3 3 := ⟨structFields Try.prog 98, _, _, by kernel_rfl, rfl, rfl, by decide, by kernel_rfl⟩
instance : FieldIs Try.prog 98 4 4 := ⟨structFields Try.prog 98, _, _, by kernel_rfl, rfl, rfl, by decide, by kernel_rfl⟩
instance : FieldIs Try.prog 98 5 5 := ⟨structFields Try.prog 98, _, _, by kernel_rfl, rfl, rfl, by decide, by kernel_rfl⟩
instance : FieldIs Try.prog 98 6 6 := ⟨structFields Try.prog 98, _, _, by kernel_rfl, rfl, rfl, by decide, by kernel_rfl⟩
instance : FieldIs Try.prog 98 7 7 := ⟨structFields Try.prog 98, _, _, by kernel_rfl, rfl, rfl, by decide, by kernel_rfl⟩
instance : FieldIs Try.prog 98 8 8 := ⟨structFields Try.prog 98, _, _, by kernel_rfl, rfl, rfl, by decide, by kernel_rfl⟩
instance : FieldIs Try.prog 98 9 9 := ⟨structFields Try.prog 98, _, _, by kernel_rfl, rfl, rfl, by decide, by kernel_rfl⟩
instance : FieldIs Try.prog 98 10 10 := ⟨structFields Try.prog 98, _, _, by kernel_rfl, rfl, rfl, by decide, by kernel_rfl⟩
instance : StructIs Try.prog 99 [(0, 1), (1, 1), (2, 1), (3, 1), (4, 1), (5, 1), (6, 1), (7, 1), (8, 1), (9, 1), (10, 1)] := ⟨structFields Try.prog 99, by kernel_rfl, fun _ => by kernel_rfl⟩
instance : FieldIs Try.prog 99 0 0 := ⟨structFields Try.prog 99, _, _, by kernel_rfl, rfl, rfl, by decide, by kernel_rfl⟩
instance : FieldIs Try.prog 99 1 1 := ⟨structFields Try.prog 99, _, _, by kernel_rfl, rfl, rfl, by decide, by kernel_rfl⟩
instance : FieldIs Try.prog 99 2 2 := ⟨structFields Try.prog 99, _, _, by kernel_rfl, rfl, rfl, by decide, by kernel_rfl⟩
instance : FieldIs Try.prog 99 3 3 := ⟨structFields Try.prog 99, _, _, by kernel_rfl, rfl, rfl, by decide, by kernel_rfl⟩
instance : FieldIs Try.prog 99 4 4 := ⟨structFields Try.prog 99, _, _, by kernel_rfl, rfl, rfl, by decide, by kernel_rfl⟩
instance : FieldIs Try.prog 99 5 5 := ⟨structFields Try.prog 99, _, _, by kernel_rfl, rfl, rfl, by decide, by kernel_rfl⟩
instance : FieldIs Try.prog 99 6 6 := ⟨structFields Try.prog 99, _, _, by kernel_rfl, rfl, rfl, by decide, by kernel_rfl⟩
instance : FieldIs Try.prog 99 7 7 := ⟨structFields Try.prog 99, _, _, by kernel_rfl, rfl, rfl, by decide, by kernel_rfl⟩
instance : FieldIs Try.prog 99 8 8 := ⟨structFields Try.prog 99, _, _, by kernel_rfl, rfl, rfl, by decide, by kernel_rfl⟩
instance : FieldIs Try.prog 99 9 9 := ⟨structFields Try.prog 99, _, _, by kernel_rfl, rfl, rfl, by decide, by kernel_rfl⟩
instance : FieldIs Try.prog 99 10 10 := ⟨structFields Try.prog 99, _, _, by kernel_rfl, rfl, rfl, by decide, by kernel_rfl⟩
end Go.Proofs.Ytekfjhopngcneaa

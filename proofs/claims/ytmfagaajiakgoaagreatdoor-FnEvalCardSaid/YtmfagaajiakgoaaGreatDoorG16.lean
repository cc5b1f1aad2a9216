/- The walk of the statement 'FnEval'. No conditions. -/
import Derived.Test.YtmfagaajiakgoaaGreatDoorG15
import Derived.LaidSub
import Derived.Lib.LaidTab

namespace Go.Proofs.YtmfagaajiakgoaaGreatDoor
set_option maxRecDepth 100000
set_option linter.unusedVariables false
set_option linter.unusedSimpArgs false

theorem Xf {I : Heap} (ht : Tab I) {oa : Option Addr} {code : List UInt8} {c : Nat} (h : Bytes I oa code c) (L : Bm) : Fun Tryz.prog 4 [.slice oa code.length c] I L (YES L) := by
 have hlen := h.len
 refine Ap Af ?_; refine Se rfl (Oa rfl (Aa (Ah (Se rfl (Om rfl (On rfl (Oc rfl rfl rfl (Aa ?_)))))))); refine Ay rfl ?_ ?_
 ·intro c0
  try simp only [nb] at c0
  refine Se rfl (Oa rfl (Aa (Ak (.tmp rfl .nil) ?_)))
  exact ⟨I, L, .refl _, fun _ h => h, rfl, rfl⟩
 intro c0
 try simp only [nb] at c0
 refine Aj (Se rfl (Om rfl ?_)); refine Ca rfl (W6 h _) ?_; rintro _ J1 _ e1 ⟨s, n, rfl, hsl, hn1, hn2, rfl⟩
 have hs : s.length ≤ Be := by unfold Be; omega
 refine Om rfl (Oe rfl rfl (Oe rfl rfl (Oa rfl (Oa rfl (Aa (Se rfl (Om rfl (Om rfl ?_)))))))); refine Ca rfl (Wz s hs n (ht.mono e1) _) ?_; rintro _ J2 _ e2 ⟨rfl, rfl⟩; refine Om rfl ?_
 iterate 3 refine Oe rfl rfl ?_
 iterate 3 refine Oa rfl ?_
 refine Aa (Se rfl (Om rfl (Om rfl ?_))); refine Ca rfl (Ado s (O9 hs) n _ _) ?_; rintro _ J3 _ e3 ⟨rfl, rfl⟩
 have hle := (e1.trans e2).trans e3
 refine Om rfl ?_
 iterate 3 refine Oe rfl rfl ?_
 iterate 3 refine Oa rfl ?_
 refine Aa (Ah (Se rfl (Om rfl (Om rfl ?_)))); refine Abl rfl rfl rfl .free rfl ?_; refine Om rfl ?_
 apply F9 47 51 rfl
 ·intro g6_4 hk
  try simp only [nb] at g6_4
  refine Ow rfl (Ow rfl ?_); refine Dq rfl rfl rfl (.met rfl rfl) rfl ?_; refine Of rfl rfl ?_
  exact Av 3 rfl rfl hk
 ·intro _ hk; refine A0 3 rfl ?_; refine Ot rfl rfl ?_
  exact Av 3 rfl rfl hk
 refine Om rfl ?_
 apply F9 52 56 rfl
 ·intro g6_9 hk
  try simp only [nb] at g6_9
  refine Ow rfl (Ow rfl ?_); refine Ck rfl rfl rfl (.met rfl rfl) rfl ?_; refine Of rfl rfl ?_
  exact Av 3 rfl rfl hk
 ·intro _ hk; refine A0 3 rfl ?_; refine Ot rfl rfl ?_
  exact Av 3 rfl rfl hk
 refine Om rfl ?_
 apply F9 57 60 rfl
 ·intro g6_14 hk
  try simp only [nb] at g6_14
  refine Ow rfl ?_; refine C6 rfl (.met rfl rfl) rfl ?_; refine Of rfl rfl ?_
  exact Av 2 rfl rfl hk
 ·intro _ hk; refine A0 2 rfl ?_; refine Ot rfl rfl ?_
  exact Av 2 rfl rfl hk
 refine Aa ?_; refine Ay rfl ?_ ?_
 ·intro c1
  try simp only [nb] at c1
  refine Se rfl (Om rfl (Om rfl ?_)); refine Abl rfl rfl rfl .free rfl ?_; refine Om rfl ?_
  apply Cp 64 68 rfl
  ·intro g7_4 hk
   try simp only [nb] at g7_4
   refine Ow rfl (Ow rfl ?_); refine Dq rfl rfl rfl (.met rfl rfl) rfl ?_; refine Ot rfl rfl ?_
   exact Av 3 rfl rfl hk
  ·intro _ hk; refine A0 3 rfl ?_; refine Of rfl rfl ?_
   exact Av 3 rfl rfl hk
  refine Om rfl ?_
  apply Cp 69 73 rfl
  ·intro g7_9 hk
   try simp only [nb] at g7_9
   refine Ow rfl (Ow rfl ?_); refine Ck rfl rfl rfl (.met rfl rfl) rfl ?_; refine Ot rfl rfl ?_
   exact Av 3 rfl rfl hk
  ·intro _ hk; refine A0 3 rfl ?_; refine Of rfl rfl ?_
   exact Av 3 rfl rfl hk
  refine Oa rfl (Aa (Ak (.tmp rfl .nil) ?_)); refine ⟨J3, L, hle, Bt, ?_, rfl⟩
  simp [Dl]
 intro c1
 try simp only [nb] at c1
 obtain ⟨⟨o, g⟩, hr⟩ : ∃ r, Hz s n = some r := Option.isSome_iff_exists.1 (by simpa using c1); obtain ⟨h1, h2, h3, h4, x, k, h5, h6, h7⟩ := Wy hr
 simp only at h2 h3 h4 h7
 have hxN : x.tree.text.length ≤ Be := by have := Adl (R4 h6); unfold Be; omega
 clear c1
 rw [hr]
 simp only [Option.map_some, Option.getD_some, Option.isSome_some]
 refine Aj (Se rfl (Om rfl ?_)); refine Ca rfl (Wz s hs 2000 (ht.mono hle) _) ?_; rintro _ J4 _ e4 ⟨rfl, rfl⟩; rw [h1]
 simp only [Option.map_some, Option.getD_some, Option.isSome_some]
 have hle := hle.trans e4
 refine Om rfl ?_
 iterate 3 refine Oe rfl rfl ?_
 iterate 3 refine Oa rfl ?_
 refine Aa (Se rfl (Om rfl (Om rfl ?_))); refine Or rfl rfl rfl ?_; refine Ca rfl (Wz s hs ((g : Nat) - 1) (ht.mono hle) _) ?_; rintro _ J5 _ e5 ⟨rfl, rfl⟩; rw [h2]
 have hle := hle.trans e5
 refine Om rfl ?_
 iterate 3 refine Oe rfl rfl ?_
 iterate 3 refine Oa rfl ?_
 refine Aa (Se rfl (Om rfl ?_)); refine Ca rfl (W0 s hs 500 (ht.mono hle) _) ?_; rintro _ J6 _ e6 ⟨rfl, rfl⟩; rw [h5]
 simp only [Option.map_some, Option.getD_some, Option.isSome_some]
 have hle := hle.trans e6
 refine Om rfl ?_
 iterate 3 refine Oe rfl rfl ?_
 iterate 3 refine Oa rfl ?_
 refine Aa (Se rfl (Om rfl ?_)); refine Ca rfl (To x.tree.text hxN _ _) ?_; rintro _ J7 _ e7 ⟨rfl, rfl⟩
 have hle := hle.trans e7
 refine Om rfl (Oe rfl rfl (Oe rfl rfl (Oa rfl (Oa rfl (Aa (Se rfl (Om rfl (Om rfl ?_))))))))
 apply Cp 100 103 rfl
 ·intro g12_2 hk
  try simp only [nb] at g12_2
  refine Ow rfl ?_; refine C6 rfl (.met rfl rfl) rfl ?_; refine Ot rfl rfl ?_
  exact Av 2 rfl rfl hk
 ·intro _ hk; refine A0 2 rfl ?_; refine Of rfl rfl ?_
  exact Av 2 rfl rfl hk
 refine Om rfl ?_
 apply Cp 104 106 rfl
 ·intro g12_6 hk
  try simp only [nb] at g12_6
  refine Ow rfl (Ot rfl rfl ?_)
  exact Av 1 rfl rfl hk
 ·intro _ hk; refine A0 1 rfl ?_; refine Of rfl rfl ?_
  exact Av 1 rfl rfl hk
 refine Om rfl ?_
 apply Cp 107 111 rfl
 ·intro g12_9 hk
  try simp only [nb] at g12_9
  refine Ow rfl (Ow rfl ?_); refine Ck rfl rfl rfl (.met rfl rfl) rfl ?_; refine Ot rfl rfl ?_
  exact Av 3 rfl rfl hk
 ·intro _ hk; refine A0 3 rfl ?_; refine Of rfl rfl ?_
  exact Av 3 rfl rfl hk
 refine Om rfl ?_
 apply Cp 112 116 rfl
 ·intro g12_14 hk
  try simp only [nb] at g12_14
  refine Ow rfl (Ow rfl ?_); refine Dq rfl rfl rfl (.met rfl rfl) rfl ?_; refine Ot rfl rfl ?_
  exact Av 3 rfl rfl hk
 ·intro _ hk; refine A0 3 rfl ?_; refine Of rfl rfl ?_
  exact Av 3 rfl rfl hk
 refine Om rfl ?_
 apply Cp 117 121 rfl
 ·intro g12_19 hk
  try simp only [nb] at g12_19
  refine Ow rfl (Ow rfl ?_); refine Dq rfl rfl rfl (.met rfl rfl) rfl ?_; refine Ot rfl rfl ?_
  exact Av 3 rfl rfl hk
 ·intro _ hk; refine A0 3 rfl ?_; refine Of rfl rfl ?_
  exact Av 3 rfl rfl hk
 refine Om rfl ?_
 apply Cp 122 125 rfl
 ·intro g12_24 hk
  try simp only [nb] at g12_24
  refine Ow rfl ?_; refine Dq rfl rfl rfl (.met rfl rfl) rfl ?_; refine Ot rfl rfl ?_
  exact Av 2 rfl rfl hk
 ·intro _ hk; refine A0 2 rfl ?_; refine Of rfl rfl ?_
  exact Av 2 rfl rfl hk
 refine Om rfl ?_
 apply Cp 126 134 rfl
 ·intro g12_28 hk
  try simp only [nb] at g12_28
  refine Ow rfl ?_; refine C6 rfl (.met rfl rfl) rfl ?_; refine Ow rfl ?_
  apply F9 129 133 rfl
  ·intro g12_31 hk
   try simp only [nb] at g12_31
   refine Ow rfl (Ow rfl ?_); refine Ck rfl rfl rfl (.met rfl rfl) rfl ?_; refine Ew rfl rfl (.met rfl rfl) rfl ?_
   exact Av 3 rfl rfl hk
  ·intro _ hk; refine A0 3 rfl ?_; refine Fm rfl rfl (.met rfl rfl) rfl ?_
   exact Av 3 rfl rfl hk
  refine Ot rfl rfl ?_
  exact Av 4 rfl rfl hk
 ·intro _ hk; refine A0 7 rfl ?_; refine Of rfl rfl ?_
  exact Av 7 rfl rfl hk
 refine Oa rfl (Aa (Ak (.tmp rfl .nil) ?_)); refine ⟨J7, L, hle, Bt, ?_, rfl⟩
 have h3' : (1 : Int) ≤ (g : Nat) := by omega
 cases hp : Ml x.tree.text with
 | none => simp [Dl, h3', h4]
 | some y => rw [h7 y hp]; simp [Dl, h3', h4]
def Wd (P : Program) (s : String) : Bool :=
 match P.globalNamed s with
 | some g => match (P.globals[g]?).map (·.type) with
  | some t => match P.underlying t with
   | some (.array n e) => (match P.underlying e with | some (.int .u64) => true | _ => false) && (P.cellsOf e == 1) && (P.cellsOf t == n)
   | _ => false
  | none => false
 | none => false
theorem Ad7 {laid : List (String × DataW Unit)} {W : World} (h : laidMetH Tryz.prog laid W)
  (hk : (laid.filter fun x => x.1 == "internal/strconv.uint64pow10") = [("internal/strconv.uint64pow10", Lib.tabData .u64 Lib.pow10Tab)]) (ht : Wd Tryz.prog "internal/strconv.uint64pow10" = true) : Tab (Qb W) := by
 have h1 := h.filter (fun x => x.1 == "internal/strconv.uint64pow10")
 rw [hk] at h1
 have h1 : laidMet Tryz.prog [("internal/strconv.uint64pow10", Lib.tabData .u64 Lib.pow10Tab)] W := (laidMetH_iff.1 h1).1
 have h2 : Lib.TabIs Tryz.prog W "internal/strconv.uint64pow10" .u64 Lib.pow10Tab := by
  unfold Wd at ht
  split at ht
  ·rename_i g hg
   split at ht
   ·rename_i t hty
    split at ht
    ·rename_i n e hu
     simp only [Bool.and_eq_true, beq_iff_eq] at ht
     obtain ⟨⟨h3, h4⟩, h5⟩ := ht
     split at h3
     ·rename_i he
      exact Lib.tabIs_of_head hg hty hu he h4 h5 h1
     ·cases h3
    ·cases ht
   ·cases ht
  ·cases ht
 intro L w hm
 unfold Lib.TabIs World.var? at h2 ⊢
 cases hg : Tryz.prog.globalNamed "internal/strconv.uint64pow10" with
 | none => rw [hg] at h2; cases h2
 | some g =>
  rw [hg] at h2
  simp only [Option.bind_some] at h2 ⊢
  cases ho : W.heap[g]? with
  | none => rw [ho] at h2; cases h2
  | some o => rw [ho] at h2; rw [hm.1.1 g o ho]; exact h2
end Go.Proofs.YtmfagaajiakgoaaGreatDoor

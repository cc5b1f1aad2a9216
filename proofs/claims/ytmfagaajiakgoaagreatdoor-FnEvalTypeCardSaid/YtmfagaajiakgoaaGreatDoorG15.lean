/- The walk of the statement 'FnEvalType'. No conditions. -/
import Derived.Test.YtmfagaajiakgoaaGreatDoorG14
import Derived.LaidSub
import Derived.Lib.LaidTab

namespace Go.Proofs.YtmfagaajiakgoaaGreatDoor
set_option maxRecDepth 100000
set_option linter.unusedVariables false
set_option linter.unusedSimpArgs false

theorem Rr {I : Heap} (ht : Tab I) {oa : Option Addr} {code : List UInt8} {c : Nat} (h : Bytes I oa code c) (L : Bh) : Fun Tryz.prog 5 [.slice oa code.length c] I L (YES L) := by
 have hlen := h.len
 refine Al Af ?_; refine Se rfl (Oa rfl (Ab (Ah (Se rfl (Om rfl (On rfl (Oc rfl rfl rfl (Ab ?_)))))))); refine Av rfl ?_ ?_
 ·intro c0
  try simp only [nb] at c0
  refine Se rfl (Oa rfl (Ab (Ai (.tmp rfl .nil) ?_)))
  exact ⟨I, L, .refl _, fun _ h => h, rfl, rfl⟩
 intro c0
 try simp only [nb] at c0
 refine Aj (Se rfl (Om rfl ?_)); refine Ca rfl (Yf h _) ?_; rintro _ J1 _ e1 ⟨s, n, rfl, hsl, hn1, hn2, rfl⟩
 have hs : s.length ≤ Bb := by unfold Bb; omega
 refine Om rfl (Oe rfl rfl (Oe rfl rfl (Oa rfl (Oa rfl (Ab (Se rfl (Om rfl (Om rfl ?_)))))))); refine Ca rfl (Afr s hs n (ht.mono e1) _) ?_; rintro _ J2 _ e2 ⟨rfl, rfl⟩; refine Om rfl ?_
 iterate 3 refine Oe rfl rfl ?_
 iterate 3 refine Oa rfl ?_
 refine Ab (Se rfl (Om rfl (Om rfl ?_))); refine Ca rfl (Afs s (Pq hs) n _ _) ?_; rintro _ J3 _ e3 ⟨rfl, rfl⟩
 have hle := (e1.trans e2).trans e3
 refine Om rfl ?_
 iterate 3 refine Oe rfl rfl ?_
 iterate 3 refine Oa rfl ?_
 refine Ab (Ah (Se rfl (Om rfl (Om rfl ?_)))); refine U6 rfl rfl rfl .free rfl ?_; refine Om rfl ?_
 apply F6 43 47 rfl
 ·intro g6_4 hk
  try simp only [nb] at g6_4
  refine Ow rfl (Ow rfl ?_); refine Dp rfl rfl rfl (.met rfl rfl) rfl ?_; refine Of rfl rfl ?_
  exact Au 3 rfl rfl hk
 ·intro _ hk; refine A2 3 rfl ?_; refine Ot rfl rfl ?_
  exact Au 3 rfl rfl hk
 refine Om rfl ?_
 apply F6 48 52 rfl
 ·intro g6_9 hk
  try simp only [nb] at g6_9
  refine Ow rfl (Ow rfl ?_); refine Cg rfl rfl rfl (.met rfl rfl) rfl ?_; refine Of rfl rfl ?_
  exact Au 3 rfl rfl hk
 ·intro _ hk; refine A2 3 rfl ?_; refine Ot rfl rfl ?_
  exact Au 3 rfl rfl hk
 refine Om rfl ?_
 apply F6 53 56 rfl
 ·intro g6_14 hk
  try simp only [nb] at g6_14
  refine Ow rfl ?_; refine Dl rfl (.met rfl rfl) rfl ?_; refine Of rfl rfl ?_
  exact Au 2 rfl rfl hk
 ·intro _ hk; refine A2 2 rfl ?_; refine Ot rfl rfl ?_
  exact Au 2 rfl rfl hk
 refine Ab ?_; refine Av rfl ?_ ?_
 ·intro c1
  try simp only [nb] at c1
  refine Se rfl (Om rfl (Om rfl ?_)); refine U6 rfl rfl rfl .free rfl ?_; refine Om rfl ?_
  apply Cy 60 64 rfl
  ·intro g7_4 hk
   try simp only [nb] at g7_4
   refine Ow rfl (Ow rfl ?_); refine Dp rfl rfl rfl (.met rfl rfl) rfl ?_; refine Ot rfl rfl ?_
   exact Au 3 rfl rfl hk
  ·intro _ hk; refine A2 3 rfl ?_; refine Of rfl rfl ?_
   exact Au 3 rfl rfl hk
  refine Om rfl ?_
  apply Cy 65 69 rfl
  ·intro g7_9 hk
   try simp only [nb] at g7_9
   refine Ow rfl (Ow rfl ?_); refine Cg rfl rfl rfl (.met rfl rfl) rfl ?_; refine Ot rfl rfl ?_
   exact Au 3 rfl rfl hk
  ·intro _ hk; refine A2 3 rfl ?_; refine Of rfl rfl ?_
   exact Au 3 rfl rfl hk
  refine Oa rfl (Ab (Ai (.tmp rfl .nil) ?_)); refine ⟨J3, L, hle, Bj, ?_, rfl⟩
  simp [C2]
 intro c1
 try simp only [nb] at c1
 obtain ⟨⟨o, g⟩, hr⟩ : ∃ r, Hs s n = some r := Option.isSome_iff_exists.1 (by simpa using c1)
 have h3 := (X8 hr).2.2.1
 obtain ⟨_, _, w, _, _, _, _, hre, hol, _, _⟩ := K5 hr
 have hoN : o.length ≤ Bb := by
  have e0 : o = w.show := congrArg Prod.fst hre
  rw [e0]; unfold Bb; omega
 simp only at h3
 clear c1
 rw [hr]
 simp only [Option.map_some, Option.getD_some, Option.isSome_some]
 refine Aj (Se rfl ?_); refine D9 .free rfl ?_; intro b71; refine D9 .free rfl ?_; intro b72; refine Om rfl ?_; refine Ca rfl (Yb (l := []) (m := []) (Gq _ _) (Gq _ _) s hs _) ?_; rintro _ J4 _ e4 ⟨rfl, rfl⟩
 have hle := hle.trans e4
 refine Om rfl (Oe rfl rfl (Oe rfl rfl (Oa rfl (Oa rfl (Ab (Ah (Se rfl (Om rfl ?_)))))))); refine Dl rfl .free rfl ?_; refine Ab ?_; refine Av rfl ?_ ?_
 ·intro c2
  try simp only [nb] at c2
  refine Se rfl (Om rfl (Oc rfl rfl rfl (Oa rfl (Ab (Ai (.tmp rfl .nil) ?_))))); refine ⟨J4, L, hle, Bj, ?_, rfl⟩
  have h3' : (1 : Int) ≤ (g : Nat) := by omega
  simp [C2, h3']
 intro c2
 try simp only [nb] at c2
 obtain ⟨kd, hk⟩ : ∃ kd, N6 [] [] s = some kd := Option.isSome_iff_exists.1 (by simpa using c2); obtain ⟨_, _, _, _, _, _, _, _, hkl, -⟩ := Sa hk
 have hkN : kd.length ≤ Bb := by unfold Bb; omega
 obtain ⟨k1, k2, k3, k4⟩ := Yz hr hk
 simp only at k1 k2 k3 k4
 clear c2
 rw [hk]
 simp only [Option.getD_some]
 refine Aj (Se rfl (Om rfl ?_)); refine Ca rfl (Aag kd hkN _ _) ?_; rintro _ J5 _ e5 ⟨rfl, rfl⟩
 have hle := hle.trans e5
 refine Om rfl ?_
 iterate 3 refine Oe rfl rfl ?_
 iterate 3 refine Oa rfl ?_
 refine Ab (Se rfl (Om rfl ?_)); refine Ca rfl (Un o hoN _ _) ?_; rintro _ _ _ _ ⟨rfl, rfl, rfl⟩; refine Om rfl (Oe rfl rfl (Oe rfl rfl (Oa rfl (Oa rfl (Ab (Se rfl (Om rfl (Om rfl (Od rfl rfl rfl ?_))))))))); refine U6 rfl rfl rfl .free rfl ?_; refine Om rfl ?_
 apply Cy 96 101 rfl
 ·intro g13_5 hk
  try simp only [nb] at g13_5
  refine Ow rfl ?_; refine Cg rfl rfl rfl (.met rfl rfl) rfl ?_; refine Ow rfl ?_; refine U6 rfl rfl rfl (.met rfl rfl) rfl ?_; refine Ot rfl rfl ?_
  exact Au 4 rfl rfl hk
 ·intro _ hk; refine A2 4 rfl ?_; refine Of rfl rfl ?_
  exact Au 4 rfl rfl hk
 refine Om rfl ?_
 apply Cy 102 112 rfl
 ·intro g13_11 hk
  try simp only [nb] at g13_11
  refine Ow rfl (Ow rfl ?_)
  apply F6 104 106 rfl
  ·intro g13_13 hk
   try simp only [nb] at g13_13
   refine Ow rfl ?_; refine Ev rfl rfl (.met rfl rfl) rfl ?_
   exact Au 1 rfl rfl hk
  ·intro _ hk; refine A2 1 rfl ?_; refine Fm rfl rfl (.met rfl rfl) rfl ?_
   exact Au 1 rfl rfl hk
  refine Ow rfl ?_
  apply F6 107 111 rfl
  ·intro g13_16 hk
   try simp only [nb] at g13_16
   refine Ow rfl ?_; refine Dn (i := 0) rfl rfl rfl Bp (.met rfl rfl) rfl ?_; refine Dp rfl rfl rfl (.met rfl rfl) rfl ?_; refine Ev rfl rfl (.met rfl rfl) rfl ?_
   exact Au 3 rfl rfl hk
  ·intro _ hk; refine A2 3 rfl ?_; refine Fm rfl rfl (.met rfl rfl) rfl ?_
   exact Au 3 rfl rfl hk
  refine Ot rfl rfl ?_
  exact Au 5 rfl rfl hk
 ·intro _ hk; refine A2 9 rfl ?_; refine Of rfl rfl ?_
  exact Au 9 rfl rfl hk
 refine Oa rfl (Ab (Ai (.tmp rfl .nil) ?_)); refine ⟨J5, L, hle, Bj, ?_, rfl⟩; rw [k1] at k3 ⊢; rw [← k2] at k3 ⊢
 by_cases q1 : kd = [105] <;> by_cases q2 : o = [102, 117, 110] <;> simp_all [C2]
def Xo (P : Program) (s : String) : Bool :=
 match P.globalNamed s with
 | some g => match (P.globals[g]?).map (·.type) with
  | some t => match P.underlying t with
   | some (.array n e) => (match P.underlying e with | some (.int .u64) => true | _ => false) && (P.cellsOf e == 1) && (P.cellsOf t == n)
   | _ => false
  | none => false
 | none => false
theorem Af9 {laid : List (String × DataW Unit)} {W : World} (h : laidMetH Tryz.prog laid W)
  (hk : (laid.filter fun x => x.1 == "internal/strconv.uint64pow10") = [("internal/strconv.uint64pow10", Lib.tabData .u64 Lib.pow10Tab)]) (ht : Xo Tryz.prog "internal/strconv.uint64pow10" = true) : Tab (Qv W) := by
 have h1 := h.filter (fun x => x.1 == "internal/strconv.uint64pow10")
 rw [hk] at h1
 have h1 : laidMet Tryz.prog [("internal/strconv.uint64pow10", Lib.tabData .u64 Lib.pow10Tab)] W := (laidMetH_iff.1 h1).1
 have h2 : Lib.TabIs Tryz.prog W "internal/strconv.uint64pow10" .u64 Lib.pow10Tab := by
  unfold Xo at ht
  split at ht
  ·rename_i g hg
   split at ht
   ·rename_i t hty
    split at ht
    ·rename_i n e hu
     simp only [Bool.and_eq_true, beq_iff_eq] at ht
     obtain ⟨⟨h3, h4⟩, h5⟩ := ht
     split at h3
     ·rename_i he
      exact Lib.tabIs_of_head hg hty hu he h4 h5 h1
     ·cases h3
    ·cases ht
   ·cases ht
  ·cases ht
 intro L w hm
 unfold Lib.TabIs World.var? at h2 ⊢
 cases hg : Tryz.prog.globalNamed "internal/strconv.uint64pow10" with
 | none => rw [hg] at h2; cases h2
 | some g =>
  rw [hg] at h2
  simp only [Option.bind_some] at h2 ⊢
  cases ho : W.heap[g]? with
  | none => rw [ho] at h2; cases h2
  | some o => rw [ho] at h2; rw [hm.1.1 g o ho]; exact h2
end Go.Proofs.YtmfagaajiakgoaaGreatDoor

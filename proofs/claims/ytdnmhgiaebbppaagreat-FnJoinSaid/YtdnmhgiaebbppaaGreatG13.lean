/- Plain names given to an expression, by the reference. No conditions. -/
import Derived.Test.YtdnmhgiaebbppaaGreatG12
namespace Go.Proofs.YtdnmhgiaebbppaaGreat
set_option maxRecDepth 100000
set_option linter.unusedVariables false
set_option linter.unusedSimpArgs false

/-- What a state of many orders has. -/
structure G11 where
  b6 : Nat
  b14 : Nat
  b16 : Nat
  b20 : Nat
  B : Buf
  c : Nat
  D : Buf
  e : Nat
def PR (b : Nat) (oa : Option Addr) (av : List Txt) (c : Nat) (p : Ex × Nat) (L : Own) : Post := fun v I' L' => ∃ cs, v = .agg (List.toArray cs) ∧ Rep I' p.1.tree cs ∧ L' = rn b oa av c p.2 :: L
def PlainH (n : Nat) : Prop := ∀ {I : Heap} {e : Ex} {cs : List Value} (_ : SizeOf.sizeOf e < n) (_ : Rep I e.tree cs) (_ : e.ok = true) {f t : List Txt} {of ot : Option Addr} {cf ct : Nat} (_ : Strs I of f cf) (_ : Strs I ot t ct) (_ : f.length = t.length) (_ : f.length + 2 * e.size ≤ 100000)
    {oa : Option Addr} {av : List Txt} {c : Nat} (_ : Strs I oa av c) (b k : Nat) (_ : k + e.nb + av.length ≤ 90 + hits 120 av k) (_ : av.length ≤ 500) (L : Own),
    Fun Tryz.prog 84 [.agg cs.toArray, .slice of f.length cf, .slice ot t.length ct, .pointer (some ⟨b, 0, none⟩)] I (rn b oa av c k :: L) (PR b oa av c (e.pl av f t k) L)
set_option maxHeartbeats 2000000 in
theorem plain_bin {n : Nat} (ihn : PlainH n) {o : B5} {a b : Ex} {I : Heap} {cs : List Value} (hlt : SizeOf.sizeOf (Ex.bin o a b) < n + 1) (h : Rep I (Ex.bin o a b).tree cs) (hok : (Ex.bin o a b).ok = true) {f t : List Txt} {of ot : Option Addr} {cf ct : Nat} (hfr : Strs I of f cf) (hto : Strs I ot t ct) (hft : f.length = t.length) (hfl : f.length + 2 * (Ex.bin o a b).size ≤ 100000)
    {ov : Option Addr} {av : List Txt} {cv : Nat} (hav : Strs I ov av cv) (bp k : Nat) (hk : k + (Ex.bin o a b).nb + av.length ≤ 90 + hits 120 av k) (ha5 : av.length ≤ 500) (L : Own) :
    Fun Tryz.prog 84 [.agg cs.toArray, .slice of f.length cf, .slice ot t.length ct, .pointer (some ⟨bp, 0, none⟩)] I (rn bp ov av cv k :: L) (PR bp ov av cv ((Ex.bin o a b).pl av f t k) L) := by
  obtain ⟨oa, c, oaf, cf1, rfl, hf, hcl, hcs⟩ := h.cells
  have hle : HLe I I := .refl _
  have ha := hf.alen
  have hh0 := hits_le 120 av k
  refine fun_intro (by simp) ?_
  refine s_seq ?_
  refine o_enter rfl ?_
  refine o_box rfl rfl .free rfl ?_
  intro b4
  refine o_alloc .free rfl ?_
  intro b8
  refine o_done ?_
  refine s_seq ?_
  refine s_seq ?_
  refine o_enter rfl ?_
  refine o_fieldAddr rfl .free rfl ?_
  refine o_lO1 rfl .free rfl ?_
  refine o_cmps rfl rfl rfl .free rfl ?_
  refine o_done ?_
  first | refine s_fp rfl (by simp [Ex.tree, Tree.atom]) ?_ | refine s_fn rfl (by simp [Ex.tree, Tree.atom]) ?_ | refine s_false (by simp [look, opd, *]) ?_
  refine s_skip ?_
  refine s_seq ?_
  have hok0 := hok
  have hb : (Ex.bin o a b).bare = false := rfl
  have hpos : 0 < (Ex.bin o a b).tree.parts.length := by
    rw [Ex.bare_parts] at hb
    have : (Ex.bin o a b).tree.parts ≠ [] := by intro hh; rw [hh] at hb; cases hb
    exact List.length_pos_iff.2 this
  have hhd := head_at hpos
  obtain ⟨xa, rfl⟩ : ∃ xa, oa = some xa := ⟨_, some_oad hf.nil hpos⟩
  have hp := hf.len
  unfold maxN at hp
  refine o_enter rfl ?_
  refine o_lits0 .free rfl ?_
  intro b29
  refine o_fieldAddr rfl .free rfl ?_
  refine o_lO1 rfl .free rfl ?_
  refine o_append (B := some (b29, [])) (xs := []) (ys := cellsF oaf cf1 0 (Ex.bin o a b).tree.parts) (m := 0) (c := 0) (by intro kk; simp) (by rfl) rfl rfl ⟨rfl, Nat.le_refl _, rfl⟩ (fun _ h => h) (by have := hcl.length; omega) (fun a ha => by cases ha; exact (hcs _ rfl).reads) (by simp) hcl.plain hpos (by decide) (by omega) (by decide) .free rfl ?_
  intro bc sp cc hB'
  have hcc : (Ex.bin o a b).tree.parts.length ≤ cc := by have := hB'.2.1; omega
  refine o_put (t := 32) (v' := .slice (some ⟨bc, 0, none⟩) (Ex.bin o a b).tree.parts.length cc) rfl (by rw [Nat.zero_add]) ?_
  simp only [List.nil_append]
  refine o_struct rfl rfl rfl .free rfl ?_
  refine o_alloc .free rfl ?_
  intro b9
  refine o_st rfl rfl rfl rfl .free ?_
  refine o_done ?_
  refine s_seq ?_
  refine o_enter rfl ?_
  refine o_fieldAddr rfl .free rfl ?_
  refine o_lO1 rfl .free rfl ?_
  first | refine o_ixD rfl rfl 0 rfl .free rfl ?_ | refine o_ixP rfl rfl 0 rfl .free rfl ?_
  refine o_fieldAddr' rfl .free rfl ?_
  refine o_lIF rfl .free rfl ?_
  refine o_call rfl .free rfl (g_l2Kids ((Ex.bin o a b).tree.pt 0).atom _ _) ?_
  rw [← hhd]; rintro _ _ _ _ ⟨rfl, rfl, rfl⟩
  refine o_move rfl .free rfl ?_
  refine o_extract rfl rfl .free rfl ?_
  refine o_extract rfl rfl .free rfl ?_
  refine o_assign rfl .free rfl ?_
  refine o_assign rfl .free rfl ?_
  refine o_done ?_
  refine s_seq ?_
  refine s_seq ?_
  have hkr : kidRange (Ex.bin o a b).tree.head = (1, 3) := by cases o <;> rfl
  rw [hkr]
  have hlen : (Ex.bin o a b).tree.parts.length = 3 := rfl
  have hki := kids_bin o a b
  have hp0 : ((Ex.bin o a b).tree.pt 0).atom = o.txt := rfl
  simp only [Ex.bin.sizeOf_spec] at hlt
  simp only [Ex.ok, Bool.and_eq_true, decide_eq_true_eq] at hok
  simp only [Ex.nb] at hk
  simp only [Ex.size] at hfl
  simp only [show (Ex.bin o a b).tree.parts = [.node o.txt [], a.tree, b.tree] from rfl, cellsF, List.cons_append, List.nil_append]
  refine s_mem (fun w h => h.f4) ?_
  refine o_enter rfl ?_
  refine o_fieldAddr rfl .free rfl ?_
  refine o_lO1 rfl .free rfl ?_
  first | refine o_ixD rfl rfl 0 rfl .free rfl ?_ | refine o_ixP rfl rfl 0 rfl .free rfl ?_
  refine o_fieldAddr' rfl .free rfl ?_
  refine o_lIF rfl .free rfl ?_
  refine o_cmps rfl rfl rfl .free rfl ?_
  refine o_done ?_
  first | refine s_fp rfl (by rw [hp0]; cases o <;> decide) ?_ | refine s_fn rfl (by rw [hp0]; cases o <;> decide) ?_ | refine s_false (by simp [look, opd, *]) ?_
  refine s_skip ?_
  refine s_seq ?_
  refine s_seq ?_
  refine o_enter rfl ?_
  refine o_fieldAddr rfl .free rfl ?_
  refine o_lO1 rfl .free rfl ?_
  first | refine o_ixD rfl rfl 0 rfl .free rfl ?_ | refine o_ixP rfl rfl 0 rfl .free rfl ?_
  refine o_fieldAddr' rfl .free rfl ?_
  refine o_lIF rfl .free rfl ?_
  refine o_cmps rfl rfl rfl .free rfl ?_
  refine o_done ?_
  first | refine s_fp rfl (by rw [hp0]; cases o <;> decide) ?_ | refine s_fn rfl (by rw [hp0]; cases o <;> decide) ?_ | refine s_false (by simp [look, opd, *]) ?_
  refine s_skip ?_
  refine s_seq ?_
  refine s_seq ?_
  refine o_enter rfl ?_
  refine o_move rfl .free rfl ?_
  refine o_assign rfl .free rfl ?_
  refine o_done ?_
  refine s_block ?_
  refine s_loop ?_
  refine s_seq ?_
  refine s_seq ?_
  refine o_enter rfl ?_
  refine o_move rfl .free rfl ?_
  refine o_move rfl .free rfl ?_
  refine o_cmp rfl rfl rfl .free rfl ?_
  refine o_done ?_
  refine s_condT rfl (by first | rfl | decide | (simp; done) | omega) ?_
  refine s_skip ?_
  refine s_seq ?_
  refine s_block ?_
  refine s_here fun hlr => ?_
  have hpl := a.pl_hits av (f) (t) k
  refine d_tl 14 rfl rfl ?_
  refine d_takeA 0 rfl (by kernel_rfl) rfl (.inr heldx) (y_fieldAddr rfl) .free rfl ?_
  refine d_take 1 [13] rfl (by kernel_rfl) rfl heldx (y_lO1 rfl) .free rfl ?_
  refine d_takeA 2 rfl (by kernel_rfl) rfl (.inr heldx) (y_move rfl) .free rfl ?_
  refine d_takeA 3 rfl (by kernel_rfl) rfl (.inr heldx) (y_fieldAddr rfl) .free rfl ?_
  refine d_take 4 [13] rfl (by kernel_rfl) rfl heldx (y_lO1 rfl) .free rfl ?_
  refine d_takeA 5 rfl (by kernel_rfl) rfl (.inr heldx) (y_move rfl) .free rfl ?_
  first | refine d_takeA 6 rfl (by kernel_rfl) rfl (.inr heldx) (y_ixD rfl rfl _ rfl) .free rfl ?_ | refine d_takeA 6 rfl (by kernel_rfl) rfl (.inr heldx) (y_ixP rfl rfl _ rfl) .free rfl ?_
  refine d_take 7 [13] rfl (by kernel_rfl) rfl heldx (y_lIS rfl) .free rfl ?_
  refine d_takeA 8 rfl (by kernel_rfl) rfl (.inr heldx) (y_move rfl) .free rfl ?_
  refine d_takeA 9 rfl (by kernel_rfl) rfl (.inr heldx) (y_move rfl) .free rfl ?_
  refine d_takeA 10 rfl (by kernel_rfl) rfl (.inr heldx) (y_move rfl) .free rfl ?_
  refine d_call 11 rfl (by kernel_rfl) rfl rfl .free rfl (ihn (f := f) (t := t) (by omega) (hf.as 1 a.tree (by omega) rfl) hok.1 hfr hto (by simp [hft]) (by first | omega | (simp only [List.length_append, List.length_cons, List.length_nil]; omega)) hav bp _ (by omega) ha5 _) ?_
  rintro _ J2 _ e2 ⟨cs2, rfl, hr_0, rfl⟩
  obtain ⟨o2, k2, _, rfl, -⟩ := hr_0.open
  have hlr := hlr.trans e2
  have hf := hf.mono e2
  have hfr := hfr.mono e2
  have hto := hto.mono e2
  have hav := hav.mono e2
  have hle := hle.trans e2
  refine ⟨(.inr heldx), ?_⟩
  first | refine d_takeA 12 rfl (by kernel_rfl) rfl (.inr heldx) (y_ixD rfl rfl _ rfl) .free rfl ?_ | refine d_takeA 12 rfl (by kernel_rfl) rfl (.inr heldx) (y_ixP rfl rfl _ rfl) .free rfl ?_
  refine d_st 13 rfl (by kernel_rfl) rfl rfl rfl rfl rfl .free (.inl (by kernel_rfl)) ?_
  refine d_done (by kernel_rfl) ?_
  refine s_inBlock ?_
  refine o_enter rfl ?_
  refine o_move rfl .free rfl ?_
  refine o_arith rfl rfl rfl (by omega) .free rfl ?_
  refine o_assign rfl .free rfl ?_
  refine o_done ?_
  refine s_round ?_
  refine s_seq ?_
  refine s_seq ?_
  refine o_enter rfl ?_
  refine o_move rfl .free rfl ?_
  refine o_move rfl .free rfl ?_
  refine o_cmp rfl rfl rfl .free rfl ?_
  refine o_done ?_
  refine s_condT rfl (by first | rfl | decide | (simp; done) | omega) ?_
  refine s_skip ?_
  refine s_seq ?_
  refine s_block ?_
  refine s_here fun hlr => ?_
  have hpl := b.pl_hits av (f) (t) (a.pl av (f) (t) k).2
  refine d_tl 14 rfl rfl ?_
  refine d_takeA 0 rfl (by kernel_rfl) rfl (.inr heldx) (y_fieldAddr rfl) .free rfl ?_
  refine d_take 1 [13] rfl (by kernel_rfl) rfl heldx (y_lO1 rfl) .free rfl ?_
  refine d_takeA 2 rfl (by kernel_rfl) rfl (.inr heldx) (y_move rfl) .free rfl ?_
  refine d_takeA 3 rfl (by kernel_rfl) rfl (.inr heldx) (y_fieldAddr rfl) .free rfl ?_
  refine d_take 4 [13] rfl (by kernel_rfl) rfl heldx (y_lO1 rfl) .free rfl ?_
  refine d_takeA 5 rfl (by kernel_rfl) rfl (.inr heldx) (y_move rfl) .free rfl ?_
  first | refine d_takeA 6 rfl (by kernel_rfl) rfl (.inr heldx) (y_ixD rfl rfl _ rfl) .free rfl ?_ | refine d_takeA 6 rfl (by kernel_rfl) rfl (.inr heldx) (y_ixP rfl rfl _ rfl) .free rfl ?_
  refine d_take 7 [13] rfl (by kernel_rfl) rfl heldx (y_lIS rfl) .free rfl ?_
  refine d_takeA 8 rfl (by kernel_rfl) rfl (.inr heldx) (y_move rfl) .free rfl ?_
  refine d_takeA 9 rfl (by kernel_rfl) rfl (.inr heldx) (y_move rfl) .free rfl ?_
  refine d_takeA 10 rfl (by kernel_rfl) rfl (.inr heldx) (y_move rfl) .free rfl ?_
  refine d_call 11 rfl (by kernel_rfl) rfl rfl .free rfl (ihn (f := f) (t := t) (by omega) (hf.as 2 b.tree (by omega) rfl) hok.2 hfr hto (by simp [hft]) (by first | omega | (simp only [List.length_append, List.length_cons, List.length_nil]; omega)) hav bp _ (by omega) ha5 _) ?_
  rintro _ J2 _ e2 ⟨cs2, rfl, hr_1, rfl⟩
  obtain ⟨o2, k2, _, rfl, -⟩ := hr_1.open
  have hlr := hlr.trans e2
  have hf := hf.mono e2
  have hfr := hfr.mono e2
  have hto := hto.mono e2
  have hav := hav.mono e2
  have hle := hle.trans e2
  have hr_0 := hr_0.mono e2
  refine ⟨(.inr heldx), ?_⟩
  first | refine d_takeA 12 rfl (by kernel_rfl) rfl (.inr heldx) (y_ixD rfl rfl _ rfl) .free rfl ?_ | refine d_takeA 12 rfl (by kernel_rfl) rfl (.inr heldx) (y_ixP rfl rfl _ rfl) .free rfl ?_
  refine d_st 13 rfl (by kernel_rfl) rfl rfl rfl rfl rfl .free (.inl (by kernel_rfl)) ?_
  refine d_done (by kernel_rfl) ?_
  refine s_inBlock ?_
  refine o_enter rfl ?_
  refine o_move rfl .free rfl ?_
  refine o_arith rfl rfl rfl (by omega) .free rfl ?_
  refine o_assign rfl .free rfl ?_
  refine o_done ?_
  refine s_round ?_
  refine s_seq ?_
  refine s_seq ?_
  refine o_enter rfl ?_
  refine o_move rfl .free rfl ?_
  refine o_move rfl .free rfl ?_
  refine o_cmp rfl rfl rfl .free rfl ?_
  refine o_done ?_
  refine s_condF rfl (by first | rfl | decide | (simp; done) | omega) ?_
  refine s_exit rfl ?_
  refine s_seq ?_
  refine o_enter rfl ?_
  refine o_lOS rfl .free rfl ?_
  refine o_st rfl rfl rfl rfl .free ?_
  refine o_done ?_
  refine s_mem (fun w h => h.f2) (s_freeze ?_)
  intro hz
  have hf := hf.mono hz
  refine s_ret (.c rfl .nil) ?_
  exact ⟨_, _, hle.trans hz, fun w h => Mem.sub (L' := rn bp ov av cv _ :: L) (by repeat (first | exact List.Sublist.refl _ | apply List.Sublist.cons_cons | apply List.Sublist.cons)) h, _, rfl, .mk' rfl (.cons (hf.as 0 (.node o.txt []) (by omega) rfl) (.cons (hr_0.mono hz) (.cons (hr_1.mono hz) (.nil)))) (fun y hy => by cases hy; exact still_set (xs := [_, _, _, _, _, _])) (by simp) hcc (by simp [maxN]) (by simp [maxN]), rfl⟩
set_option maxHeartbeats 2000000 in
theorem plain_ite {n : Nat} (ihn : PlainH n) {a b d : Ex} {I : Heap} {cs : List Value} (hlt : SizeOf.sizeOf (Ex.ite a b d) < n + 1) (h : Rep I (Ex.ite a b d).tree cs) (hok : (Ex.ite a b d).ok = true) {f t : List Txt} {of ot : Option Addr} {cf ct : Nat} (hfr : Strs I of f cf) (hto : Strs I ot t ct) (hft : f.length = t.length) (hfl : f.length + 2 * (Ex.ite a b d).size ≤ 100000)
    {ov : Option Addr} {av : List Txt} {cv : Nat} (hav : Strs I ov av cv) (bp k : Nat) (hk : k + (Ex.ite a b d).nb + av.length ≤ 90 + hits 120 av k) (ha5 : av.length ≤ 500) (L : Own) :
    Fun Tryz.prog 84 [.agg cs.toArray, .slice of f.length cf, .slice ot t.length ct, .pointer (some ⟨bp, 0, none⟩)] I (rn bp ov av cv k :: L) (PR bp ov av cv ((Ex.ite a b d).pl av f t k) L) := by
  obtain ⟨oa, c, oaf, cf1, rfl, hf, hcl, hcs⟩ := h.cells
  have hle : HLe I I := .refl _
  have ha := hf.alen
  have hh0 := hits_le 120 av k
  refine fun_intro (by simp) ?_
  refine s_seq ?_
  refine o_enter rfl ?_
  refine o_box rfl rfl .free rfl ?_
  intro b4
  refine o_alloc .free rfl ?_
  intro b8
  refine o_done ?_
  refine s_seq ?_
  refine s_seq ?_
  refine o_enter rfl ?_
  refine o_fieldAddr rfl .free rfl ?_
  refine o_lO1 rfl .free rfl ?_
  refine o_cmps rfl rfl rfl .free rfl ?_
  refine o_done ?_
  first | refine s_fp rfl (by simp [Ex.tree, Tree.atom]) ?_ | refine s_fn rfl (by simp [Ex.tree, Tree.atom]) ?_ | refine s_false (by simp [look, opd, *]) ?_
  refine s_skip ?_
  refine s_seq ?_
  have hok0 := hok
  have hb : (Ex.ite a b d).bare = false := rfl
  have hpos : 0 < (Ex.ite a b d).tree.parts.length := by
    rw [Ex.bare_parts] at hb
    have : (Ex.ite a b d).tree.parts ≠ [] := by intro hh; rw [hh] at hb; cases hb
    exact List.length_pos_iff.2 this
  have hhd := head_at hpos
  obtain ⟨xa, rfl⟩ : ∃ xa, oa = some xa := ⟨_, some_oad hf.nil hpos⟩
  have hp := hf.len
  unfold maxN at hp
  refine o_enter rfl ?_
  refine o_lits0 .free rfl ?_
  intro b29
  refine o_fieldAddr rfl .free rfl ?_
  refine o_lO1 rfl .free rfl ?_
  refine o_append (B := some (b29, [])) (xs := []) (ys := cellsF oaf cf1 0 (Ex.ite a b d).tree.parts) (m := 0) (c := 0) (by intro kk; simp) (by rfl) rfl rfl ⟨rfl, Nat.le_refl _, rfl⟩ (fun _ h => h) (by have := hcl.length; omega) (fun a ha => by cases ha; exact (hcs _ rfl).reads) (by simp) hcl.plain hpos (by decide) (by omega) (by decide) .free rfl ?_
  intro bc sp cc hB'
  have hcc : (Ex.ite a b d).tree.parts.length ≤ cc := by have := hB'.2.1; omega
  refine o_put (t := 32) (v' := .slice (some ⟨bc, 0, none⟩) (Ex.ite a b d).tree.parts.length cc) rfl (by rw [Nat.zero_add]) ?_
  simp only [List.nil_append]
  refine o_struct rfl rfl rfl .free rfl ?_
  refine o_alloc .free rfl ?_
  intro b9
  refine o_st rfl rfl rfl rfl .free ?_
  refine o_done ?_
  refine s_seq ?_
  refine o_enter rfl ?_
  refine o_fieldAddr rfl .free rfl ?_
  refine o_lO1 rfl .free rfl ?_
  first | refine o_ixD rfl rfl 0 rfl .free rfl ?_ | refine o_ixP rfl rfl 0 rfl .free rfl ?_
  refine o_fieldAddr' rfl .free rfl ?_
  refine o_lIF rfl .free rfl ?_
  refine o_call rfl .free rfl (g_l2Kids ((Ex.ite a b d).tree.pt 0).atom _ _) ?_
  rw [← hhd]; rintro _ _ _ _ ⟨rfl, rfl, rfl⟩
  refine o_move rfl .free rfl ?_
  refine o_extract rfl rfl .free rfl ?_
  refine o_extract rfl rfl .free rfl ?_
  refine o_assign rfl .free rfl ?_
  refine o_assign rfl .free rfl ?_
  refine o_done ?_
  refine s_seq ?_
  refine s_seq ?_
  have hkr : kidRange (Ex.ite a b d).tree.head = (1, 4) := rfl
  rw [hkr]
  have hlen : (Ex.ite a b d).tree.parts.length = 4 := rfl
  have hki := kids_ite a b d
  have hp0 : ((Ex.ite a b d).tree.pt 0).atom = tIf := rfl
  simp only [Ex.ite.sizeOf_spec] at hlt
  simp only [Ex.ok, Bool.and_eq_true, decide_eq_true_eq] at hok
  simp only [Ex.nb] at hk
  simp only [Ex.size] at hfl
  simp only [show (Ex.ite a b d).tree.parts = [.node tIf [], a.tree, b.tree, d.tree] from rfl, cellsF, List.cons_append, List.nil_append]
  refine s_mem (fun w h => h.f4) ?_
  refine o_enter rfl ?_
  refine o_fieldAddr rfl .free rfl ?_
  refine o_lO1 rfl .free rfl ?_
  first | refine o_ixD rfl rfl 0 rfl .free rfl ?_ | refine o_ixP rfl rfl 0 rfl .free rfl ?_
  refine o_fieldAddr' rfl .free rfl ?_
  refine o_lIF rfl .free rfl ?_
  refine o_cmps rfl rfl rfl .free rfl ?_
  refine o_done ?_
  first | refine s_fp rfl (by rw [hp0]; decide) ?_ | refine s_fn rfl (by rw [hp0]; decide) ?_ | refine s_false (by simp [look, opd, *]) ?_
  refine s_skip ?_
  refine s_seq ?_
  refine s_seq ?_
  refine o_enter rfl ?_
  refine o_fieldAddr rfl .free rfl ?_
  refine o_lO1 rfl .free rfl ?_
  first | refine o_ixD rfl rfl 0 rfl .free rfl ?_ | refine o_ixP rfl rfl 0 rfl .free rfl ?_
  refine o_fieldAddr' rfl .free rfl ?_
  refine o_lIF rfl .free rfl ?_
  refine o_cmps rfl rfl rfl .free rfl ?_
  refine o_done ?_
  first | refine s_fp rfl (by rw [hp0]; decide) ?_ | refine s_fn rfl (by rw [hp0]; decide) ?_ | refine s_false (by simp [look, opd, *]) ?_
  refine s_skip ?_
  refine s_seq ?_
  refine s_seq ?_
  refine o_enter rfl ?_
  refine o_move rfl .free rfl ?_
  refine o_assign rfl .free rfl ?_
  refine o_done ?_
  refine s_block ?_
  refine s_loop ?_
  refine s_seq ?_
  refine s_seq ?_
  refine o_enter rfl ?_
  refine o_move rfl .free rfl ?_
  refine o_move rfl .free rfl ?_
  refine o_cmp rfl rfl rfl .free rfl ?_
  refine o_done ?_
  refine s_condT rfl (by first | rfl | decide | (simp; done) | omega) ?_
  refine s_skip ?_
  refine s_seq ?_
  refine s_block ?_
  refine s_here fun hlr => ?_
  have hpl := a.pl_hits av (f) (t) k
  refine d_tl 14 rfl rfl ?_
  refine d_takeA 0 rfl (by kernel_rfl) rfl (.inr heldx) (y_fieldAddr rfl) .free rfl ?_
  refine d_take 1 [13] rfl (by kernel_rfl) rfl heldx (y_lO1 rfl) .free rfl ?_
  refine d_takeA 2 rfl (by kernel_rfl) rfl (.inr heldx) (y_move rfl) .free rfl ?_
  refine d_takeA 3 rfl (by kernel_rfl) rfl (.inr heldx) (y_fieldAddr rfl) .free rfl ?_
  refine d_take 4 [13] rfl (by kernel_rfl) rfl heldx (y_lO1 rfl) .free rfl ?_
  refine d_takeA 5 rfl (by kernel_rfl) rfl (.inr heldx) (y_move rfl) .free rfl ?_
  first | refine d_takeA 6 rfl (by kernel_rfl) rfl (.inr heldx) (y_ixD rfl rfl _ rfl) .free rfl ?_ | refine d_takeA 6 rfl (by kernel_rfl) rfl (.inr heldx) (y_ixP rfl rfl _ rfl) .free rfl ?_
  refine d_take 7 [13] rfl (by kernel_rfl) rfl heldx (y_lIS rfl) .free rfl ?_
  refine d_takeA 8 rfl (by kernel_rfl) rfl (.inr heldx) (y_move rfl) .free rfl ?_
  refine d_takeA 9 rfl (by kernel_rfl) rfl (.inr heldx) (y_move rfl) .free rfl ?_
  refine d_takeA 10 rfl (by kernel_rfl) rfl (.inr heldx) (y_move rfl) .free rfl ?_
  refine d_call 11 rfl (by kernel_rfl) rfl rfl .free rfl (ihn (f := f) (t := t) (by omega) (hf.as 1 a.tree (by omega) rfl) hok.1.1 hfr hto (by simp [hft]) (by first | omega | (simp only [List.length_append, List.length_cons, List.length_nil]; omega)) hav bp _ (by omega) ha5 _) ?_
  rintro _ J2 _ e2 ⟨cs2, rfl, hr_0, rfl⟩
  obtain ⟨o2, k2, _, rfl, -⟩ := hr_0.open
  have hlr := hlr.trans e2
  have hf := hf.mono e2
  have hfr := hfr.mono e2
  have hto := hto.mono e2
  have hav := hav.mono e2
  have hle := hle.trans e2
  refine ⟨(.inr heldx), ?_⟩
  first | refine d_takeA 12 rfl (by kernel_rfl) rfl (.inr heldx) (y_ixD rfl rfl _ rfl) .free rfl ?_ | refine d_takeA 12 rfl (by kernel_rfl) rfl (.inr heldx) (y_ixP rfl rfl _ rfl) .free rfl ?_
  refine d_st 13 rfl (by kernel_rfl) rfl rfl rfl rfl rfl .free (.inl (by kernel_rfl)) ?_
  refine d_done (by kernel_rfl) ?_
  refine s_inBlock ?_
  refine o_enter rfl ?_
  refine o_move rfl .free rfl ?_
  refine o_arith rfl rfl rfl (by omega) .free rfl ?_
  refine o_assign rfl .free rfl ?_
  refine o_done ?_
  refine s_round ?_
  refine s_seq ?_
  refine s_seq ?_
  refine o_enter rfl ?_
  refine o_move rfl .free rfl ?_
  refine o_move rfl .free rfl ?_
  refine o_cmp rfl rfl rfl .free rfl ?_
  refine o_done ?_
  refine s_condT rfl (by first | rfl | decide | (simp; done) | omega) ?_
  refine s_skip ?_
  refine s_seq ?_
  refine s_block ?_
  refine s_here fun hlr => ?_
  have hpl := b.pl_hits av (f) (t) (a.pl av (f) (t) k).2
  refine d_tl 14 rfl rfl ?_
  refine d_takeA 0 rfl (by kernel_rfl) rfl (.inr heldx) (y_fieldAddr rfl) .free rfl ?_
  refine d_take 1 [13] rfl (by kernel_rfl) rfl heldx (y_lO1 rfl) .free rfl ?_
  refine d_takeA 2 rfl (by kernel_rfl) rfl (.inr heldx) (y_move rfl) .free rfl ?_
  refine d_takeA 3 rfl (by kernel_rfl) rfl (.inr heldx) (y_fieldAddr rfl) .free rfl ?_
  refine d_take 4 [13] rfl (by kernel_rfl) rfl heldx (y_lO1 rfl) .free rfl ?_
  refine d_takeA 5 rfl (by kernel_rfl) rfl (.inr heldx) (y_move rfl) .free rfl ?_
  first | refine d_takeA 6 rfl (by kernel_rfl) rfl (.inr heldx) (y_ixD rfl rfl _ rfl) .free rfl ?_ | refine d_takeA 6 rfl (by kernel_rfl) rfl (.inr heldx) (y_ixP rfl rfl _ rfl) .free rfl ?_
  refine d_take 7 [13] rfl (by kernel_rfl) rfl heldx (y_lIS rfl) .free rfl ?_
  refine d_takeA 8 rfl (by kernel_rfl) rfl (.inr heldx) (y_move rfl) .free rfl ?_
  refine d_takeA 9 rfl (by kernel_rfl) rfl (.inr heldx) (y_move rfl) .free rfl ?_
  refine d_takeA 10 rfl (by kernel_rfl) rfl (.inr heldx) (y_move rfl) .free rfl ?_
  refine d_call 11 rfl (by kernel_rfl) rfl rfl .free rfl (ihn (f := f) (t := t) (by omega) (hf.as 2 b.tree (by omega) rfl) hok.1.2 hfr hto (by simp [hft]) (by first | omega | (simp only [List.length_append, List.length_cons, List.length_nil]; omega)) hav bp _ (by omega) ha5 _) ?_
  rintro _ J2 _ e2 ⟨cs2, rfl, hr_1, rfl⟩
  obtain ⟨o2, k2, _, rfl, -⟩ := hr_1.open
  have hlr := hlr.trans e2
  have hf := hf.mono e2
  have hfr := hfr.mono e2
  have hto := hto.mono e2
  have hav := hav.mono e2
  have hle := hle.trans e2
  have hr_0 := hr_0.mono e2
  refine ⟨(.inr heldx), ?_⟩
  first | refine d_takeA 12 rfl (by kernel_rfl) rfl (.inr heldx) (y_ixD rfl rfl _ rfl) .free rfl ?_ | refine d_takeA 12 rfl (by kernel_rfl) rfl (.inr heldx) (y_ixP rfl rfl _ rfl) .free rfl ?_
  refine d_st 13 rfl (by kernel_rfl) rfl rfl rfl rfl rfl .free (.inl (by kernel_rfl)) ?_
  refine d_done (by kernel_rfl) ?_
  refine s_inBlock ?_
  refine o_enter rfl ?_
  refine o_move rfl .free rfl ?_
  refine o_arith rfl rfl rfl (by omega) .free rfl ?_
  refine o_assign rfl .free rfl ?_
  refine o_done ?_
  refine s_round ?_
  refine s_seq ?_
  refine s_seq ?_
  refine o_enter rfl ?_
  refine o_move rfl .free rfl ?_
  refine o_move rfl .free rfl ?_
  refine o_cmp rfl rfl rfl .free rfl ?_
  refine o_done ?_
  refine s_condT rfl (by first | rfl | decide | (simp; done) | omega) ?_
  refine s_skip ?_
  refine s_seq ?_
  refine s_block ?_
  refine s_here fun hlr => ?_
  have hpl := d.pl_hits av (f) (t) (b.pl av (f) (t) (a.pl av (f) (t) k).2).2
  refine d_tl 14 rfl rfl ?_
  refine d_takeA 0 rfl (by kernel_rfl) rfl (.inr heldx) (y_fieldAddr rfl) .free rfl ?_
  refine d_take 1 [13] rfl (by kernel_rfl) rfl heldx (y_lO1 rfl) .free rfl ?_
  refine d_takeA 2 rfl (by kernel_rfl) rfl (.inr heldx) (y_move rfl) .free rfl ?_
  refine d_takeA 3 rfl (by kernel_rfl) rfl (.inr heldx) (y_fieldAddr rfl) .free rfl ?_
  refine d_take 4 [13] rfl (by kernel_rfl) rfl heldx (y_lO1 rfl) .free rfl ?_
  refine d_takeA 5 rfl (by kernel_rfl) rfl (.inr heldx) (y_move rfl) .free rfl ?_
  first | refine d_takeA 6 rfl (by kernel_rfl) rfl (.inr heldx) (y_ixD rfl rfl _ rfl) .free rfl ?_ | refine d_takeA 6 rfl (by kernel_rfl) rfl (.inr heldx) (y_ixP rfl rfl _ rfl) .free rfl ?_
  refine d_take 7 [13] rfl (by kernel_rfl) rfl heldx (y_lIS rfl) .free rfl ?_
  refine d_takeA 8 rfl (by kernel_rfl) rfl (.inr heldx) (y_move rfl) .free rfl ?_
  refine d_takeA 9 rfl (by kernel_rfl) rfl (.inr heldx) (y_move rfl) .free rfl ?_
  refine d_takeA 10 rfl (by kernel_rfl) rfl (.inr heldx) (y_move rfl) .free rfl ?_
  refine d_call 11 rfl (by kernel_rfl) rfl rfl .free rfl (ihn (f := f) (t := t) (by omega) (hf.as 3 d.tree (by omega) rfl) hok.2 hfr hto (by simp [hft]) (by first | omega | (simp only [List.length_append, List.length_cons, List.length_nil]; omega)) hav bp _ (by omega) ha5 _) ?_
  rintro _ J2 _ e2 ⟨cs2, rfl, hr_2, rfl⟩
  obtain ⟨o2, k2, _, rfl, -⟩ := hr_2.open
  have hlr := hlr.trans e2
  have hf := hf.mono e2
  have hfr := hfr.mono e2
  have hto := hto.mono e2
  have hav := hav.mono e2
  have hle := hle.trans e2
  have hr_0 := hr_0.mono e2
  have hr_1 := hr_1.mono e2
  refine ⟨(.inr heldx), ?_⟩
  first | refine d_takeA 12 rfl (by kernel_rfl) rfl (.inr heldx) (y_ixD rfl rfl _ rfl) .free rfl ?_ | refine d_takeA 12 rfl (by kernel_rfl) rfl (.inr heldx) (y_ixP rfl rfl _ rfl) .free rfl ?_
  refine d_st 13 rfl (by kernel_rfl) rfl rfl rfl rfl rfl .free (.inl (by kernel_rfl)) ?_
  refine d_done (by kernel_rfl) ?_
  refine s_inBlock ?_
  refine o_enter rfl ?_
  refine o_move rfl .free rfl ?_
  refine o_arith rfl rfl rfl (by omega) .free rfl ?_
  refine o_assign rfl .free rfl ?_
  refine o_done ?_
  refine s_round ?_
  refine s_seq ?_
  refine s_seq ?_
  refine o_enter rfl ?_
  refine o_move rfl .free rfl ?_
  refine o_move rfl .free rfl ?_
  refine o_cmp rfl rfl rfl .free rfl ?_
  refine o_done ?_
  refine s_condF rfl (by first | rfl | decide | (simp; done) | omega) ?_
  refine s_exit rfl ?_
  refine s_seq ?_
  refine o_enter rfl ?_
  refine o_lOS rfl .free rfl ?_
  refine o_st rfl rfl rfl rfl .free ?_
  refine o_done ?_
  refine s_mem (fun w h => h.f2) (s_freeze ?_)
  intro hz
  have hf := hf.mono hz
  refine s_ret (.c rfl .nil) ?_
  exact ⟨_, _, hle.trans hz, fun w h => Mem.sub (L' := rn bp ov av cv _ :: L) (by repeat (first | exact List.Sublist.refl _ | apply List.Sublist.cons_cons | apply List.Sublist.cons)) h, _, rfl, .mk' rfl (.cons (hf.as 0 (.node tIf []) (by omega) rfl) (.cons (hr_0.mono hz) (.cons (hr_1.mono hz) (.cons (hr_2.mono hz) (.nil))))) (fun y hy => by cases hy; exact still_set (xs := [_, _, _, _, _, _, _, _])) (by simp) hcc (by simp [maxN]) (by simp [maxN]), rfl⟩
set_option maxHeartbeats 2000000 in
theorem plain_lt {n : Nat} (ihn : PlainH n) {z : Txt} {a b : Ex} {I : Heap} {cs : List Value} (hlt : SizeOf.sizeOf (Ex.lt z a b) < n + 1) (h : Rep I (Ex.lt z a b).tree cs) (hok : (Ex.lt z a b).ok = true) {f t : List Txt} {of ot : Option Addr} {cf ct : Nat} (hfr : Strs I of f cf) (hto : Strs I ot t ct) (hft : f.length = t.length) (hfl : f.length + 2 * (Ex.lt z a b).size ≤ 100000)
    {ov : Option Addr} {av : List Txt} {cv : Nat} (hav : Strs I ov av cv) (bp k : Nat) (hk : k + (Ex.lt z a b).nb + av.length ≤ 90 + hits 120 av k) (ha5 : av.length ≤ 500) (L : Own) :
    Fun Tryz.prog 84 [.agg cs.toArray, .slice of f.length cf, .slice ot t.length ct, .pointer (some ⟨bp, 0, none⟩)] I (rn bp ov av cv k :: L) (PR bp ov av cv ((Ex.lt z a b).pl av f t k) L) := by
  obtain ⟨oa, c, oaf, cf1, rfl, hf, hcl, hcs⟩ := h.cells
  have hle : HLe I I := .refl _
  have ha := hf.alen
  have hh0 := hits_le 120 av k
  refine fun_intro (by simp) ?_
  refine s_seq ?_
  refine o_enter rfl ?_
  refine o_box rfl rfl .free rfl ?_
  intro b4
  refine o_alloc .free rfl ?_
  intro b8
  refine o_done ?_
  refine s_seq ?_
  refine s_seq ?_
  refine o_enter rfl ?_
  refine o_fieldAddr rfl .free rfl ?_
  refine o_lO1 rfl .free rfl ?_
  refine o_cmps rfl rfl rfl .free rfl ?_
  refine o_done ?_
  first | refine s_fp rfl (by simp [Ex.tree, Tree.atom]) ?_ | refine s_fn rfl (by simp [Ex.tree, Tree.atom]) ?_ | refine s_false (by simp [look, opd, *]) ?_
  refine s_skip ?_
  refine s_seq ?_
  have hok0 := hok
  have hb : (Ex.lt z a b).bare = false := rfl
  have hpos : 0 < (Ex.lt z a b).tree.parts.length := by
    rw [Ex.bare_parts] at hb
    have : (Ex.lt z a b).tree.parts ≠ [] := by intro hh; rw [hh] at hb; cases hb
    exact List.length_pos_iff.2 this
  have hhd := head_at hpos
  obtain ⟨xa, rfl⟩ : ∃ xa, oa = some xa := ⟨_, some_oad hf.nil hpos⟩
  have hp := hf.len
  unfold maxN at hp
  refine o_enter rfl ?_
  refine o_lits0 .free rfl ?_
  intro b29
  refine o_fieldAddr rfl .free rfl ?_
  refine o_lO1 rfl .free rfl ?_
  refine o_append (B := some (b29, [])) (xs := []) (ys := cellsF oaf cf1 0 (Ex.lt z a b).tree.parts) (m := 0) (c := 0) (by intro kk; simp) (by rfl) rfl rfl ⟨rfl, Nat.le_refl _, rfl⟩ (fun _ h => h) (by have := hcl.length; omega) (fun a ha => by cases ha; exact (hcs _ rfl).reads) (by simp) hcl.plain hpos (by decide) (by omega) (by decide) .free rfl ?_
  intro bc sp cc hB'
  have hcc : (Ex.lt z a b).tree.parts.length ≤ cc := by have := hB'.2.1; omega
  refine o_put (t := 32) (v' := .slice (some ⟨bc, 0, none⟩) (Ex.lt z a b).tree.parts.length cc) rfl (by rw [Nat.zero_add]) ?_
  simp only [List.nil_append]
  refine o_struct rfl rfl rfl .free rfl ?_
  refine o_alloc .free rfl ?_
  intro b9
  refine o_st rfl rfl rfl rfl .free ?_
  refine o_done ?_
  refine s_seq ?_
  refine o_enter rfl ?_
  refine o_fieldAddr rfl .free rfl ?_
  refine o_lO1 rfl .free rfl ?_
  first | refine o_ixD rfl rfl 0 rfl .free rfl ?_ | refine o_ixP rfl rfl 0 rfl .free rfl ?_
  refine o_fieldAddr' rfl .free rfl ?_
  refine o_lIF rfl .free rfl ?_
  refine o_call rfl .free rfl (g_l2Kids ((Ex.lt z a b).tree.pt 0).atom _ _) ?_
  rw [← hhd]; rintro _ _ _ _ ⟨rfl, rfl, rfl⟩
  refine o_move rfl .free rfl ?_
  refine o_extract rfl rfl .free rfl ?_
  refine o_extract rfl rfl .free rfl ?_
  refine o_assign rfl .free rfl ?_
  refine o_assign rfl .free rfl ?_
  refine o_done ?_
  refine s_seq ?_
  refine s_seq ?_
  have hkr : kidRange (Ex.lt z a b).tree.head = (2, 4) := rfl
  rw [hkr]
  have hlen : (Ex.lt z a b).tree.parts.length = 4 := rfl
  have hki := kids_lt' z a b
  have hp0 : ((Ex.lt z a b).tree.pt 0).atom = tLet := rfl
  simp only [Ex.lt.sizeOf_spec] at hlt
  simp only [Ex.ok, Bool.and_eq_true, decide_eq_true_eq] at hok
  simp only [Ex.nb] at hk
  simp only [Ex.size] at hfl
  simp only [show (Ex.lt z a b).tree.parts = [.node tLet [], .node z [], a.tree, b.tree] from rfl, cellsF, List.cons_append, List.nil_append]
  refine s_mem (fun w h => h.f4) ?_
  refine o_enter rfl ?_
  refine o_fieldAddr rfl .free rfl ?_
  refine o_lO1 rfl .free rfl ?_
  first | refine o_ixD rfl rfl 0 rfl .free rfl ?_ | refine o_ixP rfl rfl 0 rfl .free rfl ?_
  refine o_fieldAddr' rfl .free rfl ?_
  refine o_lIF rfl .free rfl ?_
  refine o_cmps rfl rfl rfl .free rfl ?_
  refine o_done ?_
  first | refine s_tp rfl (by rw [hp0]; rfl) ?_ | refine s_tn rfl (by rw [hp0]; rfl) ?_ | refine s_true (by simp [look, opd, *]) ?_
  refine s_seq ?_
  obtain ⟨x1, x2, x3⟩ := fr_facts 120 av k
  have x4 := fr_hits_succ 120 av k
  have x5 := hits_le 120 av (fr 120 av k)
  have x6 := hits_le 120 av (fr 120 av k + 1)
  have hzl := Ex.name_len hok.1.1
  refine o_enter rfl ?_
  refine o_move rfl .free rfl ?_
  refine o_call rfl .free rfl (g_l2Fresh hav bp k (by omega) _) ?_
  rintro _ _ _ _ ⟨rfl, rfl, rfl⟩
  have hnl1 := nm_len (n := fr 120 av k) (by omega)
  generalize hn1e : nm 120 (fr 120 av k) = n1 at hnl1 ⊢
  refine o_assign rfl .free rfl ?_
  refine o_done ?_
  refine s_seq ?_
  refine d_all 6 rfl rfl ?_
  refine d_takeA 0 rfl (by kernel_rfl) rfl (.inr heldx) (y_fieldAddr rfl) .free rfl ?_
  refine d_take 1 [5] rfl (by kernel_rfl) rfl heldx (y_lO1 rfl) .free rfl ?_
  refine d_takeA 2 rfl (by kernel_rfl) rfl (.inr heldx) (y_move rfl) .free rfl ?_
  refine d_call 3 rfl (by kernel_rfl) rfl rfl .free rfl (g_l1Atom n1 _ _) ?_
  rintro _ _ _ _ ⟨rfl, rfl, rfl⟩
  refine ⟨(.inr heldx), ?_⟩
  first | refine d_takeA 4 rfl (by kernel_rfl) rfl (.inr heldx) (y_ixD rfl rfl 1 rfl) .free rfl ?_ | refine d_takeA 4 rfl (by kernel_rfl) rfl (.inr heldx) (y_ixP rfl rfl 1 rfl) .free rfl ?_
  refine d_st 5 rfl (by kernel_rfl) rfl rfl rfl rfl rfl .free (.inl (by kernel_rfl)) ?_
  refine d_done (by kernel_rfl) ?_
  refine s_seq ?_
  refine s_here fun hlr => ?_
  have hpl := a.pl_hits av f t (fr 120 av k + 1)
  refine d_tl 12 rfl rfl ?_
  refine d_takeA 0 rfl (by kernel_rfl) rfl (.inr heldx) (y_fieldAddr rfl) .free rfl ?_
  refine d_take 1 [11] rfl (by kernel_rfl) rfl heldx (y_lO1 rfl) .free rfl ?_
  refine d_takeA 2 rfl (by kernel_rfl) rfl (.inr heldx) (y_fieldAddr rfl) .free rfl ?_
  refine d_take 3 [11] rfl (by kernel_rfl) rfl heldx (y_lO1 rfl) .free rfl ?_
  first | refine d_takeA 4 rfl (by kernel_rfl) rfl (.inr heldx) (y_ixD rfl rfl 2 rfl) .free rfl ?_ | refine d_takeA 4 rfl (by kernel_rfl) rfl (.inr heldx) (y_ixP rfl rfl 2 rfl) .free rfl ?_
  refine d_take 5 [11] rfl (by kernel_rfl) rfl heldx (y_lIS rfl) .free rfl ?_
  refine d_takeA 6 rfl (by kernel_rfl) rfl (.inr heldx) (y_move rfl) .free rfl ?_
  refine d_takeA 7 rfl (by kernel_rfl) rfl (.inr heldx) (y_move rfl) .free rfl ?_
  refine d_takeA 8 rfl (by kernel_rfl) rfl (.inr heldx) (y_move rfl) .free rfl ?_
  refine d_call 9 rfl (by kernel_rfl) rfl rfl .free rfl (ihn (f := f) (t := t) (by omega) (hf.as 2 a.tree (by omega) rfl) hok.1.2 hfr hto hft (by omega) hav bp _ (by omega) ha5 _) ?_
  rintro _ J2 _ e2 ⟨cs2, rfl, hr_0, rfl⟩
  obtain ⟨o2, k2, _, rfl, -⟩ := hr_0.open
  have hlr := hlr.trans e2
  have hf := hf.mono e2
  have hfr := hfr.mono e2
  have hto := hto.mono e2
  have hav := hav.mono e2
  have hle := hle.trans e2
  refine ⟨(.inr heldx), ?_⟩
  first | refine d_takeA 10 rfl (by kernel_rfl) rfl (.inr heldx) (y_ixD rfl rfl 2 rfl) .free rfl ?_ | refine d_takeA 10 rfl (by kernel_rfl) rfl (.inr heldx) (y_ixP rfl rfl 2 rfl) .free rfl ?_
  refine d_st 11 rfl (by kernel_rfl) rfl rfl rfl rfl rfl .free (.inl (by kernel_rfl)) ?_
  refine d_done (by kernel_rfl) ?_
  refine s_seq ?_
  refine s_here fun hlr => ?_
  refine d_tl 26 rfl rfl ?_
  refine d_takeA 0 rfl (by kernel_rfl) rfl (.inr heldx) (y_fieldAddr rfl) .free rfl ?_
  refine d_take 1 [25] rfl (by kernel_rfl) rfl heldx (y_lO1 rfl) .free rfl ?_
  refine d_takeA 2 rfl (by kernel_rfl) rfl (.inr heldx) (y_fieldAddr rfl) .free rfl ?_
  refine d_take 3 [25] rfl (by kernel_rfl) rfl heldx (y_lO1 rfl) .free rfl ?_
  first | refine d_takeA 4 rfl (by kernel_rfl) rfl (.inr heldx) (y_ixD rfl rfl 3 rfl) .free rfl ?_ | refine d_takeA 4 rfl (by kernel_rfl) rfl (.inr heldx) (y_ixP rfl rfl 3 rfl) .free rfl ?_
  refine d_take 5 [25] rfl (by kernel_rfl) rfl heldx (y_lIS rfl) .free rfl ?_
  refine d_takeA 7 rfl (by kernel_rfl) rfl (.inr heldx) (y_move rfl) .free rfl ?_
  refine d_takeA 9 rfl (by kernel_rfl) rfl (.inr heldx) (y_fieldAddr rfl) .free rfl ?_
  refine d_take 10 [25] rfl (by kernel_rfl) rfl heldx (y_lO1 rfl) .free rfl ?_
  first | refine d_takeA 11 rfl (by kernel_rfl) rfl (.inr heldx) (y_ixD rfl rfl 1 rfl) .free rfl ?_ | refine d_takeA 11 rfl (by kernel_rfl) rfl (.inr heldx) (y_ixP rfl rfl 1 rfl) .free rfl ?_
  refine d_takeA 12 rfl (by kernel_rfl) rfl (.inr heldx) (y_fieldAddr' rfl) .free rfl ?_
  refine d_take 13 [25] rfl (by kernel_rfl) rfl heldx (y_lIF rfl) .free rfl ?_
  refine d_takeA 17 rfl (by kernel_rfl) rfl (.inr heldx) (y_move rfl) .free rfl ?_
  refine d_takeA 19 rfl (by kernel_rfl) rfl (.inr heldx) (y_move rfl) .free rfl ?_
  refine d_takeA 22 rfl (by kernel_rfl) rfl (.inr heldx) (y_move rfl) .free rfl ?_
  refine d_env (E' := [(8, _), (9, _), (68, _), (72, _), (74, _), (80, _), (84, _), (86, _), (89, _)]) ⟨rfl, rfl, rfl, rfl, rfl, rfl, rfl, rfl, rfl, trivial⟩ ?_
  refine d_state (X := G11) 3 #[true, true, true, true, true, true, true, true, true, true, true, true, true, true, true, true, true, true, true, true, true, true, true, false, false, false] (fun x => [(82, bufVal (0 + f.length + 1) x.c x.B), (88, bufVal (0 + t.length + 1) x.e x.D)]) (fun x L => bufOwn 9 ([] ++ f.map sv ++ [sv z]) x.B ++ ([(x.b14, .cells [sv z].toArray 9 (0, 0))] ++ (bufOwn 9 ([] ++ t.map sv ++ [sv n1]) x.D ++ ([(x.b20, .cells [sv n1].toArray 9 (0, 0))] ++ L)))) (fun x => BufOk 1 (0 + f.length + 1) x.c ([] ++ f.map sv ++ [sv z]) x.B ∧ BufOk 1 (0 + t.length + 1) x.e ([] ++ t.map sv ++ [sv n1]) x.D) ?_ ?_
  · rintro ⟨b6, b14, b16, b20, B2, c2, B4, c4⟩ ⟨hB2, hB4⟩
    simp only at hB2 hB4
    rw [show [] ++ f.map sv ++ [sv z] = (f ++ [z]).map sv by simp] at hB2
    rw [show [] ++ t.map sv ++ [sv n1] = (t ++ [n1]).map sv by simp] at hB4
    refine d_mem (L' := bufOwn 9 ((f ++ [z]).map sv) B2 ++ ([(b14, .cells [sv z].toArray 9 (0, 0))] ++ (bufOwn 9 ((t ++ [n1]).map sv) B4 ++ ([(b20, .cells [sv n1].toArray 9 (0, 0))] ++ _)))) (fun w h => by rw [show (f ++ [z]).map sv = [] ++ f.map sv ++ [sv z] by simp, show (t ++ [n1]).map sv = [] ++ t.map sv ++ [sv n1] by simp]; exact h) ?_
    refine d_freezeStrs hB2 (by simp) (by simp [maxN]; omega) (by intro s hs; rcases List.mem_append.1 hs with hs | hs; exact hfr.each s hs; rw [List.mem_singleton.1 hs]; exact hzl) ?_
    intro J3 o3 k3 ez hbv hs3
    refine d_put (t := 82) rfl hbv ?_
    have hlr := hlr.trans ez
    have hf := hf.mono ez
    have hfr := hfr.mono ez
    have hto := hto.mono ez
    have hav := hav.mono ez
    have hle := hle.trans ez
    have hr_0 := hr_0.mono ez
    refine d_mem (fun w h => Mem.seg2 (A := [(b14, _)]) h) ?_
    refine d_freezeStrs hB4 (by simp) (by simp [maxN]; omega) (by intro s hs; rcases List.mem_append.1 hs with hs | hs; exact hto.each s hs; rw [List.mem_singleton.1 hs]; exact hnl1) ?_
    intro J4 o4 k4 ey hbv4 hs4
    refine d_put (t := 88) rfl hbv4 ?_
    have hs3 := hs3.mono ey
    have hlr := hlr.trans ey
    have hf := hf.mono ey
    have hfr := hfr.mono ey
    have hto := hto.mono ey
    have hav := hav.mono ey
    have hle := hle.trans ey
    have hr_0 := hr_0.mono ey
    refine d_mem (fun w h => h.drop.drop) ?_
    refine d_call 23 rfl (by kernel_rfl) rfl rfl .free rfl (ihn (f := f ++ [z]) (t := t ++ [n1]) (by omega) (hf.as 3 b.tree (by omega) rfl) hok.2 hs3 hs4 (by simp [hft]) (by simp only [List.length_append, List.length_cons, List.length_nil]; omega) hav bp _ (by omega) ha5 _) ?_
    rintro _ J5 _ e5 ⟨cs5, rfl, hr_1, rfl⟩
    obtain ⟨o5, k5, _, rfl, -⟩ := hr_1.open
    have hlr := hlr.trans e5
    have hf := hf.mono e5
    have hfr := hfr.mono e5
    have hto := hto.mono e5
    have hav := hav.mono e5
    have hle := hle.trans e5
    have hr_0 := hr_0.mono e5
    refine ⟨(.inr heldx), ?_⟩
    first | refine d_takeA 24 rfl (by kernel_rfl) rfl (.inr heldx) (y_ixD rfl rfl 3 rfl) .free rfl ?_ | refine d_takeA 24 rfl (by kernel_rfl) rfl (.inr heldx) (y_ixP rfl rfl 3 rfl) .free rfl ?_
    refine d_st 25 rfl (by kernel_rfl) rfl rfl rfl rfl rfl .free (.inl (by kernel_rfl)) ?_
    refine d_done (by kernel_rfl) ?_
    refine s_seq ?_
    refine o_enter rfl ?_
    refine o_lOS rfl .free rfl ?_
    refine o_st rfl rfl rfl rfl .free ?_
    refine o_done ?_
    refine s_mem (fun w h => h.f2) (s_freeze ?_)
    intro hz
    have hf := hf.mono hz
    refine s_ret (.c rfl .nil) ?_
    subst hn1e
    exact ⟨_, _, hle.trans hz, fun w h => Mem.sub (L' := rn bp ov av cv _ :: L) (by repeat (first | exact List.Sublist.refl _ | apply List.Sublist.cons_cons | apply List.Sublist.cons)) h, _, rfl, .mk' rfl (.cons (hf.as 0 (.node tLet []) (by omega) rfl) (.cons (.ofAtom hnl1) (.cons (hr_0.mono hz) (.cons (hr_1.mono hz) .nil)))) (fun y hy => by cases hy; exact still_set (xs := [_, _, _, _, _, _, _, _])) (by simp) hcc (by simp [maxN]) (by simp [maxN]), rfl⟩
  · intro k5111
    refine d_state (X := G11) 4 #[true, true, true, true, true, true, true, true, true, true, true, true, true, true, true, true, true, true, true, true, true, false, true, false, false, false] (fun x => [(82, bufVal (0 + f.length + 1) x.c x.B), (85, bufVal (0 + t.length) x.e x.D), (87, .slice (some ⟨x.b20, 0, none⟩) 1 1)]) (fun x L => bufOwn 9 ([] ++ f.map sv ++ [sv z]) x.B ++ ([(x.b14, .cells [sv z].toArray 9 (0, 0))] ++ (bufOwn 9 ([] ++ t.map sv) x.D ++ ([(x.b20, .cells [sv n1].toArray 9 (0, 0))] ++ L)))) (fun x => BufOk 1 (0 + f.length + 1) x.c ([] ++ f.map sv ++ [sv z]) x.B ∧ BufOk 1 (0 + t.length) x.e ([] ++ t.map sv) x.D) ?_ ?_
    · rintro ⟨b6, b14, b16, b20, B, c, D, e⟩ ⟨h1, h2⟩
      try simp only at h1
      try simp only at h2
      refine d_appendB 21 (B := D) (xs := [] ++ t.map sv) (ys := [sv n1]) (m := 0 + t.length) (c := e) rfl (by kernel_rfl) rfl (by intro kk; simp) (by rfl) rfl rfl h2 (fun _ h => Mem.seg3 (B := [(b14, _)]) h) (by rfl) (fun a ha => by cases ha; exact reads_ownL (List.mem_append_right _ (List.mem_append_right _ (List.mem_append_left _ (List.mem_singleton.2 rfl)))) (by rfl)) (by simp) (by rfl) (by decide) (by omega) (by decide) .free rfl (fun _ => .inr heldx) ?_
      intro D e h2
      refine d_mem (fun w h => Mem.ins3 (A := bufOwn _ _ D) (B := bufOwn _ _ B) (C := [(b14, _)]) h) (d_env ?_ (k5111 ⟨b6, b14, b16, b20, B, c, D, e⟩ ⟨h1, h2⟩))
      exact ⟨rfl, rfl, rfl, rfl, rfl, rfl, rfl, rfl, rfl, rfl, rfl, trivial⟩
    · intro k4111
      refine d_state (X := G11) 5 #[true, true, true, true, true, true, true, true, true, true, true, true, true, true, true, true, true, true, false, true, true, false, true, false, false, false] (fun x => [(82, bufVal (0 + f.length + 1) x.c x.B), (83, .slice (some ⟨x.b16, 0, none⟩) 0 0), (87, .slice (some ⟨x.b20, 0, none⟩) 1 1)]) (fun x L => bufOwn 9 ([] ++ f.map sv ++ [sv z]) x.B ++ ([(x.b14, .cells [sv z].toArray 9 (0, 0))] ++ ([(x.b16, .cells [].toArray 9 (0, 0))] ++ ([(x.b20, .cells [sv n1].toArray 9 (0, 0))] ++ L)))) (fun x => BufOk 1 (0 + f.length + 1) x.c ([] ++ f.map sv ++ [sv z]) x.B) ?_ ?_
      · rintro ⟨b6, b14, b16, b20, B, c, D, e⟩ h1
        try simp only at h1
        refine d_appendB 18 (B := some (b16, [])) (xs := []) (ys := t.map sv) (m := 0) (c := 0) rfl (by kernel_rfl) rfl (by intro kk; simp) (by rfl) rfl rfl ⟨rfl, Nat.le_refl _, rfl⟩ (fun _ h => Mem.seg3 (B := [(b14, _)]) (C := [(b16, _)]) h) (by simp) hto.reads hto.none (sv_plain t) (by decide) (by omega) (by decide) .free rfl (fun _ => .inr heldx) ?_
        intro D e h2
        refine d_mem (fun w h => Mem.ins3 (A := bufOwn _ _ D) (B := bufOwn _ _ B) (C := [(b14, _)]) h) (d_env ?_ (k4111 ⟨b6, b14, b16, b20, B, c, D, e⟩ ⟨h1, h2⟩))
        exact ⟨rfl, rfl, rfl, rfl, rfl, rfl, rfl, rfl, rfl, rfl, rfl, rfl, trivial⟩
      · intro k3111
        refine d_state (X := G11) 5 #[true, true, true, true, true, true, true, true, true, true, true, true, true, true, true, true, true, true, true, true, false, false, true, false, false, false] (fun x => [(82, bufVal (0 + f.length + 1) x.c x.B), (85, bufVal (0 + t.length) x.e x.D)]) (fun x L => bufOwn 9 ([] ++ f.map sv ++ [sv z]) x.B ++ ([(x.b14, .cells [sv z].toArray 9 (0, 0))] ++ (bufOwn 9 ([] ++ t.map sv) x.D ++ ([] ++ L)))) (fun x => BufOk 1 (0 + f.length + 1) x.c ([] ++ f.map sv ++ [sv z]) x.B ∧ BufOk 1 (0 + t.length) x.e ([] ++ t.map sv) x.D) ?_ ?_
        · rintro ⟨b6, b14, b16, b20, B, c, D, e⟩ ⟨h1, h2⟩
          try simp only at h1
          try simp only at h2
          refine d_lits 20 rfl (by kernel_rfl) rfl rfl rfl (by rfl) (by rfl) (by rfl) (by decide) (by decide) (by rfl) .free rfl (.inr heldx) ?_
          intro b20
          refine d_mem (fun w h => Mem.ins4 (A := [(b20, _)]) (B := bufOwn _ _ B) (C := [(b14, _)]) (D := bufOwn _ _ D) h) (d_env ?_ (k4111 ⟨b6, b14, b16, b20, B, c, D, e⟩ ⟨h1, h2⟩))
          exact ⟨rfl, rfl, rfl, rfl, rfl, rfl, rfl, rfl, rfl, rfl, rfl, rfl, trivial⟩
        · intro k4110
          refine d_state (X := G11) 6 #[true, true, true, true, true, true, true, true, true, true, true, true, true, true, true, false, true, true, false, true, true, false, true, false, false, false] (fun x => [(75, bufVal (0 + f.length) x.c x.B), (81, .slice (some ⟨x.b14, 0, none⟩) 1 1), (83, .slice (some ⟨x.b16, 0, none⟩) 0 0), (87, .slice (some ⟨x.b20, 0, none⟩) 1 1)]) (fun x L => bufOwn 9 ([] ++ f.map sv) x.B ++ ([(x.b14, .cells [sv z].toArray 9 (0, 0))] ++ ([(x.b16, .cells [].toArray 9 (0, 0))] ++ ([(x.b20, .cells [sv n1].toArray 9 (0, 0))] ++ L)))) (fun x => BufOk 1 (0 + f.length) x.c ([] ++ f.map sv) x.B) ?_ ?_
          · rintro ⟨b6, b14, b16, b20, B, c, D, e⟩ h1
            try simp only at h1
            refine d_appendB 15 (B := B) (xs := [] ++ f.map sv) (ys := [sv z]) (m := 0 + f.length) (c := c) rfl (by kernel_rfl) rfl (by intro kk; simp) (by rfl) rfl rfl h1 (fun _ h => h) (by rfl) (fun a ha => by cases ha; exact reads_ownL (List.mem_append_left _ (List.mem_singleton.2 rfl)) (by rfl)) (by simp) (by rfl) (by decide) (by omega) (by decide) .free rfl (fun _ => .inr heldx) ?_
            intro B c h1
            refine d_mem (fun w h => h) (d_env ?_ (k3111 ⟨b6, b14, b16, b20, B, c, D, e⟩ h1))
            exact ⟨rfl, rfl, rfl, rfl, rfl, rfl, rfl, rfl, rfl, rfl, rfl, rfl, trivial⟩
          · intro k2111
            refine d_state (X := G11) 6 #[true, true, true, true, true, true, true, true, true, true, true, true, true, true, true, true, false, true, false, true, true, false, true, false, false, false] (fun x => [(82, bufVal (0 + f.length + 1) x.c x.B), (87, .slice (some ⟨x.b20, 0, none⟩) 1 1)]) (fun x L => bufOwn 9 ([] ++ f.map sv ++ [sv z]) x.B ++ ([(x.b14, .cells [sv z].toArray 9 (0, 0))] ++ ([] ++ ([(x.b20, .cells [sv n1].toArray 9 (0, 0))] ++ L)))) (fun x => BufOk 1 (0 + f.length + 1) x.c ([] ++ f.map sv ++ [sv z]) x.B) ?_ ?_
            · rintro ⟨b6, b14, b16, b20, B, c, D, e⟩ h1
              try simp only at h1
              refine d_lits0 16 rfl (by kernel_rfl) rfl .free rfl (.inr heldx) ?_
              intro b16
              refine d_mem (fun w h => Mem.ins3 (A := [(b16, _)]) (B := bufOwn _ _ B) (C := [(b14, _)]) h) (d_env ?_ (k3111 ⟨b6, b14, b16, b20, B, c, D, e⟩ h1))
              exact ⟨rfl, rfl, rfl, rfl, rfl, rfl, rfl, rfl, rfl, rfl, rfl, rfl, trivial⟩
            · intro k3101
              refine d_state (X := G11) 6 #[true, true, true, true, true, true, true, true, true, true, true, true, true, true, true, true, true, true, false, true, false, false, true, false, false, false] (fun x => [(82, bufVal (0 + f.length + 1) x.c x.B), (83, .slice (some ⟨x.b16, 0, none⟩) 0 0)]) (fun x L => bufOwn 9 ([] ++ f.map sv ++ [sv z]) x.B ++ ([(x.b14, .cells [sv z].toArray 9 (0, 0))] ++ ([(x.b16, .cells [].toArray 9 (0, 0))] ++ ([] ++ L)))) (fun x => BufOk 1 (0 + f.length + 1) x.c ([] ++ f.map sv ++ [sv z]) x.B) ?_ ?_
              · rintro ⟨b6, b14, b16, b20, B, c, D, e⟩ h1
                try simp only at h1
                refine d_two 18 20 (by kernel_rfl) ?_ ?_
                · skip
                  refine i_appendB 18 (B := some (b16, [])) (xs := []) (ys := t.map sv) (m := 0) (c := 0) rfl rfl (by intro kk; simp) (by rfl) rfl rfl ⟨rfl, Nat.le_refl _, rfl⟩ (fun _ h => Mem.seg3 (B := [(b14, _)]) (C := [(b16, _)]) h) (by simp) hto.reads hto.none (sv_plain t) (by decide) (by omega) (by decide) .free rfl (fun _ => .inr heldx) ?_
                  intro D e h2
                  refine d_mem (fun w h => Mem.ins3 (A := bufOwn _ _ D) (B := bufOwn _ _ B) (C := [(b14, _)]) h) (d_env ?_ (k4110 ⟨b6, b14, b16, b20, B, c, D, e⟩ ⟨h1, h2⟩))
                  exact ⟨rfl, rfl, rfl, rfl, rfl, rfl, rfl, rfl, rfl, rfl, rfl, trivial⟩
                · skip
                  refine i_lits 20 rfl rfl rfl rfl (by rfl) (by rfl) (by rfl) (by decide) (by decide) (by rfl) .free rfl (.inr heldx) ?_
                  intro b20
                  refine d_mem (fun w h => Mem.ins4 (A := [(b20, _)]) (B := bufOwn _ _ B) (C := [(b14, _)]) (D := [(b16, _)]) h) (d_env ?_ (k3111 ⟨b6, b14, b16, b20, B, c, D, e⟩ h1))
                  exact ⟨rfl, rfl, rfl, rfl, rfl, rfl, rfl, rfl, rfl, rfl, rfl, rfl, trivial⟩
              · intro k3110
                refine d_state (X := G11) 7 #[true, true, true, true, true, true, true, true, false, true, true, true, true, true, true, false, true, true, false, true, true, false, true, false, false, false] (fun x => [(73, .slice (some ⟨x.b6, 0, none⟩) 0 0), (81, .slice (some ⟨x.b14, 0, none⟩) 1 1), (83, .slice (some ⟨x.b16, 0, none⟩) 0 0), (87, .slice (some ⟨x.b20, 0, none⟩) 1 1)]) (fun x L => [(x.b6, .cells [].toArray 9 (0, 0))] ++ ([(x.b14, .cells [sv z].toArray 9 (0, 0))] ++ ([(x.b16, .cells [].toArray 9 (0, 0))] ++ ([(x.b20, .cells [sv n1].toArray 9 (0, 0))] ++ L)))) (fun x => True) ?_ ?_
                · rintro ⟨b6, b14, b16, b20, B, c, D, e⟩ h1
                  try simp only at h1
                  refine d_appendB 8 (B := some (b6, [])) (xs := []) (ys := f.map sv) (m := 0) (c := 0) rfl (by kernel_rfl) rfl (by intro kk; simp) (by rfl) rfl rfl ⟨rfl, Nat.le_refl _, rfl⟩ (fun _ h => h) (by simp) hfr.reads hfr.none (sv_plain f) (by decide) (by omega) (by decide) .free rfl (fun _ => .inr heldx) ?_
                  intro B c h1
                  refine d_mem (fun w h => h) (d_env ?_ (k2111 ⟨b6, b14, b16, b20, B, c, D, e⟩ h1))
                  exact ⟨rfl, rfl, rfl, rfl, rfl, rfl, rfl, rfl, rfl, rfl, rfl, rfl, rfl, trivial⟩
                · intro k1111
                  refine d_state (X := G11) 7 #[true, true, true, true, true, true, true, true, true, true, true, true, true, true, false, false, true, true, false, true, true, false, true, false, false, false] (fun x => [(75, bufVal (0 + f.length) x.c x.B), (83, .slice (some ⟨x.b16, 0, none⟩) 0 0), (87, .slice (some ⟨x.b20, 0, none⟩) 1 1)]) (fun x L => bufOwn 9 ([] ++ f.map sv) x.B ++ ([] ++ ([(x.b16, .cells [].toArray 9 (0, 0))] ++ ([(x.b20, .cells [sv n1].toArray 9 (0, 0))] ++ L)))) (fun x => BufOk 1 (0 + f.length) x.c ([] ++ f.map sv) x.B) ?_ ?_
                  · rintro ⟨b6, b14, b16, b20, B, c, D, e⟩ h1
                    try simp only at h1
                    refine d_lits 14 rfl (by kernel_rfl) rfl rfl rfl (by rfl) (by rfl) (by rfl) (by decide) (by decide) (by rfl) .free rfl (.inr heldx) ?_
                    intro b14
                    refine d_mem (fun w h => Mem.seg2 (A := [(b14, _)]) (B := bufOwn _ _ B) h) (d_env ?_ (k2111 ⟨b6, b14, b16, b20, B, c, D, e⟩ h1))
                    exact ⟨rfl, rfl, rfl, rfl, rfl, rfl, rfl, rfl, rfl, rfl, rfl, rfl, rfl, trivial⟩
                  · intro k2011
                    refine d_state (X := G11) 7 #[true, true, true, true, true, true, true, true, true, true, true, true, true, true, true, false, false, true, false, true, true, false, true, false, false, false] (fun x => [(75, bufVal (0 + f.length) x.c x.B), (81, .slice (some ⟨x.b14, 0, none⟩) 1 1), (87, .slice (some ⟨x.b20, 0, none⟩) 1 1)]) (fun x L => bufOwn 9 ([] ++ f.map sv) x.B ++ ([(x.b14, .cells [sv z].toArray 9 (0, 0))] ++ ([] ++ ([(x.b20, .cells [sv n1].toArray 9 (0, 0))] ++ L)))) (fun x => BufOk 1 (0 + f.length) x.c ([] ++ f.map sv) x.B) ?_ ?_
                    · rintro ⟨b6, b14, b16, b20, B, c, D, e⟩ h1
                      try simp only at h1
                      refine d_two 15 16 (by kernel_rfl) ?_ ?_
                      · skip
                        refine i_appendB 15 (B := B) (xs := [] ++ f.map sv) (ys := [sv z]) (m := 0 + f.length) (c := c) rfl rfl (by intro kk; simp) (by rfl) rfl rfl h1 (fun _ h => h) (by rfl) (fun a ha => by cases ha; exact reads_ownL (List.mem_append_left _ (List.mem_singleton.2 rfl)) (by rfl)) (by simp) (by rfl) (by decide) (by omega) (by decide) .free rfl (fun _ => .inr heldx) ?_
                        intro B c h1
                        refine d_mem (fun w h => h) (d_env ?_ (k3101 ⟨b6, b14, b16, b20, B, c, D, e⟩ h1))
                        exact ⟨rfl, rfl, rfl, rfl, rfl, rfl, rfl, rfl, rfl, rfl, rfl, trivial⟩
                      · skip
                        refine i_lits0 16 rfl rfl .free rfl (.inr heldx) ?_
                        intro b16
                        refine d_mem (fun w h => Mem.ins3 (A := [(b16, _)]) (B := bufOwn _ _ B) (C := [(b14, _)]) h) (d_env ?_ (k2111 ⟨b6, b14, b16, b20, B, c, D, e⟩ h1))
                        exact ⟨rfl, rfl, rfl, rfl, rfl, rfl, rfl, rfl, rfl, rfl, rfl, rfl, rfl, trivial⟩
                    · intro k2101
                      refine d_state (X := G11) 7 #[true, true, true, true, true, true, true, true, true, true, true, true, true, true, true, false, true, true, false, true, false, false, true, false, false, false] (fun x => [(75, bufVal (0 + f.length) x.c x.B), (81, .slice (some ⟨x.b14, 0, none⟩) 1 1), (83, .slice (some ⟨x.b16, 0, none⟩) 0 0)]) (fun x L => bufOwn 9 ([] ++ f.map sv) x.B ++ ([(x.b14, .cells [sv z].toArray 9 (0, 0))] ++ ([(x.b16, .cells [].toArray 9 (0, 0))] ++ ([] ++ L)))) (fun x => BufOk 1 (0 + f.length) x.c ([] ++ f.map sv) x.B) ?_ ?_
                      · rintro ⟨b6, b14, b16, b20, B, c, D, e⟩ h1
                        try simp only at h1
                        refine d_two 15 20 (by kernel_rfl) ?_ ?_
                        · skip
                          refine i_appendB 15 (B := B) (xs := [] ++ f.map sv) (ys := [sv z]) (m := 0 + f.length) (c := c) rfl rfl (by intro kk; simp) (by rfl) rfl rfl h1 (fun _ h => h) (by rfl) (fun a ha => by cases ha; exact reads_ownL (List.mem_append_left _ (List.mem_singleton.2 rfl)) (by rfl)) (by simp) (by rfl) (by decide) (by omega) (by decide) .free rfl (fun _ => .inr heldx) ?_
                          intro B c h1
                          refine d_mem (fun w h => h) (d_env ?_ (k3110 ⟨b6, b14, b16, b20, B, c, D, e⟩ h1))
                          exact ⟨rfl, rfl, rfl, rfl, rfl, rfl, rfl, rfl, rfl, rfl, rfl, trivial⟩
                        · skip
                          refine i_lits 20 rfl rfl rfl rfl (by rfl) (by rfl) (by rfl) (by decide) (by decide) (by rfl) .free rfl (.inr heldx) ?_
                          intro b20
                          refine d_mem (fun w h => Mem.ins4 (A := [(b20, _)]) (B := bufOwn _ _ B) (C := [(b14, _)]) (D := [(b16, _)]) h) (d_env ?_ (k2111 ⟨b6, b14, b16, b20, B, c, D, e⟩ h1))
                          exact ⟨rfl, rfl, rfl, rfl, rfl, rfl, rfl, rfl, rfl, rfl, rfl, rfl, rfl, trivial⟩
                      · intro k2110
                        refine d_state (X := G11) 7 #[true, true, true, true, true, true, true, true, true, true, true, true, true, true, true, true, false, true, false, true, false, false, true, false, false, false] (fun x => [(82, bufVal (0 + f.length + 1) x.c x.B)]) (fun x L => bufOwn 9 ([] ++ f.map sv ++ [sv z]) x.B ++ ([(x.b14, .cells [sv z].toArray 9 (0, 0))] ++ ([] ++ ([] ++ L)))) (fun x => BufOk 1 (0 + f.length + 1) x.c ([] ++ f.map sv ++ [sv z]) x.B) ?_ ?_
                        · rintro ⟨b6, b14, b16, b20, B, c, D, e⟩ h1
                          try simp only at h1
                          refine d_two 16 20 (by kernel_rfl) ?_ ?_
                          · skip
                            refine i_lits0 16 rfl rfl .free rfl (.inr heldx) ?_
                            intro b16
                            refine d_mem (fun w h => Mem.ins3 (A := [(b16, _)]) (B := bufOwn _ _ B) (C := [(b14, _)]) h) (d_env ?_ (k3110 ⟨b6, b14, b16, b20, B, c, D, e⟩ h1))
                            exact ⟨rfl, rfl, rfl, rfl, rfl, rfl, rfl, rfl, rfl, rfl, rfl, trivial⟩
                          · skip
                            refine i_lits 20 rfl rfl rfl rfl (by rfl) (by rfl) (by rfl) (by decide) (by decide) (by rfl) .free rfl (.inr heldx) ?_
                            intro b20
                            refine d_mem (fun w h => Mem.ins4 (A := [(b20, _)]) (B := bufOwn _ _ B) (C := [(b14, _)]) (D := []) h) (d_env ?_ (k3101 ⟨b6, b14, b16, b20, B, c, D, e⟩ h1))
                            exact ⟨rfl, rfl, rfl, rfl, rfl, rfl, rfl, rfl, rfl, rfl, rfl, trivial⟩
                        · intro k3100
                          refine d_state (X := G11) 8 #[true, true, true, true, true, true, false, true, false, true, true, true, true, true, true, false, true, true, false, true, true, false, true, false, false, false] (fun x => [(81, .slice (some ⟨x.b14, 0, none⟩) 1 1), (83, .slice (some ⟨x.b16, 0, none⟩) 0 0), (87, .slice (some ⟨x.b20, 0, none⟩) 1 1)]) (fun x L => [] ++ ([(x.b14, .cells [sv z].toArray 9 (0, 0))] ++ ([(x.b16, .cells [].toArray 9 (0, 0))] ++ ([(x.b20, .cells [sv n1].toArray 9 (0, 0))] ++ L)))) (fun x => True) ?_ ?_
                          · rintro ⟨b6, b14, b16, b20, B, c, D, e⟩ h1
                            try simp only at h1
                            refine d_lits0 6 rfl (by kernel_rfl) rfl .free rfl (.inr heldx) ?_
                            intro b6
                            refine d_mem (fun w h => h) (d_env ?_ (k1111 ⟨b6, b14, b16, b20, B, c, D, e⟩ trivial))
                            exact ⟨rfl, rfl, rfl, rfl, rfl, rfl, rfl, rfl, rfl, rfl, rfl, rfl, rfl, trivial⟩
                          · intro k0111
                            refine d_state (X := G11) 8 #[true, true, true, true, true, true, true, true, false, true, true, true, true, true, false, false, true, true, false, true, true, false, true, false, false, false] (fun x => [(73, .slice (some ⟨x.b6, 0, none⟩) 0 0), (83, .slice (some ⟨x.b16, 0, none⟩) 0 0), (87, .slice (some ⟨x.b20, 0, none⟩) 1 1)]) (fun x L => [(x.b6, .cells [].toArray 9 (0, 0))] ++ ([] ++ ([(x.b16, .cells [].toArray 9 (0, 0))] ++ ([(x.b20, .cells [sv n1].toArray 9 (0, 0))] ++ L)))) (fun x => True) ?_ ?_
                            · rintro ⟨b6, b14, b16, b20, B, c, D, e⟩ h1
                              try simp only at h1
                              refine d_two 8 14 (by kernel_rfl) ?_ ?_
                              · skip
                                refine i_appendB 8 (B := some (b6, [])) (xs := []) (ys := f.map sv) (m := 0) (c := 0) rfl rfl (by intro kk; simp) (by rfl) rfl rfl ⟨rfl, Nat.le_refl _, rfl⟩ (fun _ h => h) (by simp) hfr.reads hfr.none (sv_plain f) (by decide) (by omega) (by decide) .free rfl (fun _ => .inr heldx) ?_
                                intro B c h1
                                refine d_mem (fun w h => h) (d_env ?_ (k2011 ⟨b6, b14, b16, b20, B, c, D, e⟩ h1))
                                exact ⟨rfl, rfl, rfl, rfl, rfl, rfl, rfl, rfl, rfl, rfl, rfl, rfl, trivial⟩
                              · skip
                                refine i_lits 14 rfl rfl rfl rfl (by rfl) (by rfl) (by rfl) (by decide) (by decide) (by rfl) .free rfl (.inr heldx) ?_
                                intro b14
                                refine d_mem (fun w h => Mem.seg2 (A := [(b14, _)]) (B := [(b6, _)]) h) (d_env ?_ (k1111 ⟨b6, b14, b16, b20, B, c, D, e⟩ trivial))
                                exact ⟨rfl, rfl, rfl, rfl, rfl, rfl, rfl, rfl, rfl, rfl, rfl, rfl, rfl, trivial⟩
                            · intro k1011
                              refine d_state (X := G11) 8 #[true, true, true, true, true, true, true, true, false, true, true, true, true, true, true, false, false, true, false, true, true, false, true, false, false, false] (fun x => [(73, .slice (some ⟨x.b6, 0, none⟩) 0 0), (81, .slice (some ⟨x.b14, 0, none⟩) 1 1), (87, .slice (some ⟨x.b20, 0, none⟩) 1 1)]) (fun x L => [(x.b6, .cells [].toArray 9 (0, 0))] ++ ([(x.b14, .cells [sv z].toArray 9 (0, 0))] ++ ([] ++ ([(x.b20, .cells [sv n1].toArray 9 (0, 0))] ++ L)))) (fun x => True) ?_ ?_
                              · rintro ⟨b6, b14, b16, b20, B, c, D, e⟩ h1
                                try simp only at h1
                                refine d_two 8 16 (by kernel_rfl) ?_ ?_
                                · skip
                                  refine i_appendB 8 (B := some (b6, [])) (xs := []) (ys := f.map sv) (m := 0) (c := 0) rfl rfl (by intro kk; simp) (by rfl) rfl rfl ⟨rfl, Nat.le_refl _, rfl⟩ (fun _ h => h) (by simp) hfr.reads hfr.none (sv_plain f) (by decide) (by omega) (by decide) .free rfl (fun _ => .inr heldx) ?_
                                  intro B c h1
                                  refine d_mem (fun w h => h) (d_env ?_ (k2101 ⟨b6, b14, b16, b20, B, c, D, e⟩ h1))
                                  exact ⟨rfl, rfl, rfl, rfl, rfl, rfl, rfl, rfl, rfl, rfl, rfl, rfl, trivial⟩
                                · skip
                                  refine i_lits0 16 rfl rfl .free rfl (.inr heldx) ?_
                                  intro b16
                                  refine d_mem (fun w h => Mem.ins3 (A := [(b16, _)]) (B := [(b6, _)]) (C := [(b14, _)]) h) (d_env ?_ (k1111 ⟨b6, b14, b16, b20, B, c, D, e⟩ trivial))
                                  exact ⟨rfl, rfl, rfl, rfl, rfl, rfl, rfl, rfl, rfl, rfl, rfl, rfl, rfl, trivial⟩
                              · intro k1101
                                refine d_state (X := G11) 8 #[true, true, true, true, true, true, true, true, false, true, true, true, true, true, true, false, true, true, false, true, false, false, true, false, false, false] (fun x => [(73, .slice (some ⟨x.b6, 0, none⟩) 0 0), (81, .slice (some ⟨x.b14, 0, none⟩) 1 1), (83, .slice (some ⟨x.b16, 0, none⟩) 0 0)]) (fun x L => [(x.b6, .cells [].toArray 9 (0, 0))] ++ ([(x.b14, .cells [sv z].toArray 9 (0, 0))] ++ ([(x.b16, .cells [].toArray 9 (0, 0))] ++ ([] ++ L)))) (fun x => True) ?_ ?_
                                · rintro ⟨b6, b14, b16, b20, B, c, D, e⟩ h1
                                  try simp only at h1
                                  refine d_two 8 20 (by kernel_rfl) ?_ ?_
                                  · skip
                                    refine i_appendB 8 (B := some (b6, [])) (xs := []) (ys := f.map sv) (m := 0) (c := 0) rfl rfl (by intro kk; simp) (by rfl) rfl rfl ⟨rfl, Nat.le_refl _, rfl⟩ (fun _ h => h) (by simp) hfr.reads hfr.none (sv_plain f) (by decide) (by omega) (by decide) .free rfl (fun _ => .inr heldx) ?_
                                    intro B c h1
                                    refine d_mem (fun w h => h) (d_env ?_ (k2110 ⟨b6, b14, b16, b20, B, c, D, e⟩ h1))
                                    exact ⟨rfl, rfl, rfl, rfl, rfl, rfl, rfl, rfl, rfl, rfl, rfl, rfl, trivial⟩
                                  · skip
                                    refine i_lits 20 rfl rfl rfl rfl (by rfl) (by rfl) (by rfl) (by decide) (by decide) (by rfl) .free rfl (.inr heldx) ?_
                                    intro b20
                                    refine d_mem (fun w h => Mem.ins4 (A := [(b20, _)]) (B := [(b6, _)]) (C := [(b14, _)]) (D := [(b16, _)]) h) (d_env ?_ (k1111 ⟨b6, b14, b16, b20, B, c, D, e⟩ trivial))
                                    exact ⟨rfl, rfl, rfl, rfl, rfl, rfl, rfl, rfl, rfl, rfl, rfl, rfl, rfl, trivial⟩
                                · intro k1110
                                  refine d_state (X := G11) 8 #[true, true, true, true, true, true, true, true, true, true, true, true, true, true, false, false, false, true, false, true, true, false, true, false, false, false] (fun x => [(75, bufVal (0 + f.length) x.c x.B), (87, .slice (some ⟨x.b20, 0, none⟩) 1 1)]) (fun x L => bufOwn 9 ([] ++ f.map sv) x.B ++ ([] ++ ([] ++ ([(x.b20, .cells [sv n1].toArray 9 (0, 0))] ++ L)))) (fun x => BufOk 1 (0 + f.length) x.c ([] ++ f.map sv) x.B) ?_ ?_
                                  · rintro ⟨b6, b14, b16, b20, B, c, D, e⟩ h1
                                    try simp only at h1
                                    refine d_two 14 16 (by kernel_rfl) ?_ ?_
                                    · skip
                                      refine i_lits 14 rfl rfl rfl rfl (by rfl) (by rfl) (by rfl) (by decide) (by decide) (by rfl) .free rfl (.inr heldx) ?_
                                      intro b14
                                      refine d_mem (fun w h => Mem.seg2 (A := [(b14, _)]) (B := bufOwn _ _ B) h) (d_env ?_ (k2101 ⟨b6, b14, b16, b20, B, c, D, e⟩ h1))
                                      exact ⟨rfl, rfl, rfl, rfl, rfl, rfl, rfl, rfl, rfl, rfl, rfl, rfl, trivial⟩
                                    · skip
                                      refine i_lits0 16 rfl rfl .free rfl (.inr heldx) ?_
                                      intro b16
                                      refine d_mem (fun w h => Mem.ins3 (A := [(b16, _)]) (B := bufOwn _ _ B) (C := []) h) (d_env ?_ (k2011 ⟨b6, b14, b16, b20, B, c, D, e⟩ h1))
                                      exact ⟨rfl, rfl, rfl, rfl, rfl, rfl, rfl, rfl, rfl, rfl, rfl, rfl, trivial⟩
                                  · intro k2001
                                    refine d_state (X := G11) 8 #[true, true, true, true, true, true, true, true, true, true, true, true, true, true, false, false, true, true, false, true, false, false, true, false, false, false] (fun x => [(75, bufVal (0 + f.length) x.c x.B), (83, .slice (some ⟨x.b16, 0, none⟩) 0 0)]) (fun x L => bufOwn 9 ([] ++ f.map sv) x.B ++ ([] ++ ([(x.b16, .cells [].toArray 9 (0, 0))] ++ ([] ++ L)))) (fun x => BufOk 1 (0 + f.length) x.c ([] ++ f.map sv) x.B) ?_ ?_
                                    · rintro ⟨b6, b14, b16, b20, B, c, D, e⟩ h1
                                      try simp only at h1
                                      refine d_two 14 20 (by kernel_rfl) ?_ ?_
                                      · skip
                                        refine i_lits 14 rfl rfl rfl rfl (by rfl) (by rfl) (by rfl) (by decide) (by decide) (by rfl) .free rfl (.inr heldx) ?_
                                        intro b14
                                        refine d_mem (fun w h => Mem.seg2 (A := [(b14, _)]) (B := bufOwn _ _ B) h) (d_env ?_ (k2110 ⟨b6, b14, b16, b20, B, c, D, e⟩ h1))
                                        exact ⟨rfl, rfl, rfl, rfl, rfl, rfl, rfl, rfl, rfl, rfl, rfl, rfl, trivial⟩
                                      · skip
                                        refine i_lits 20 rfl rfl rfl rfl (by rfl) (by rfl) (by rfl) (by decide) (by decide) (by rfl) .free rfl (.inr heldx) ?_
                                        intro b20
                                        refine d_mem (fun w h => Mem.ins4 (A := [(b20, _)]) (B := bufOwn _ _ B) (C := []) (D := [(b16, _)]) h) (d_env ?_ (k2011 ⟨b6, b14, b16, b20, B, c, D, e⟩ h1))
                                        exact ⟨rfl, rfl, rfl, rfl, rfl, rfl, rfl, rfl, rfl, rfl, rfl, rfl, trivial⟩
                                    · intro k2010
                                      refine d_state (X := G11) 8 #[true, true, true, true, true, true, true, true, true, true, true, true, true, true, true, false, false, true, false, true, false, false, true, false, false, false] (fun x => [(75, bufVal (0 + f.length) x.c x.B), (81, .slice (some ⟨x.b14, 0, none⟩) 1 1)]) (fun x L => bufOwn 9 ([] ++ f.map sv) x.B ++ ([(x.b14, .cells [sv z].toArray 9 (0, 0))] ++ ([] ++ ([] ++ L)))) (fun x => BufOk 1 (0 + f.length) x.c ([] ++ f.map sv) x.B) ?_ ?_
                                      · rintro ⟨b6, b14, b16, b20, B, c, D, e⟩ h1
                                        try simp only at h1
                                        refine d_three 15 16 20 (by kernel_rfl) ?_ ?_ ?_
                                        · skip
                                          refine i_appendB 15 (B := B) (xs := [] ++ f.map sv) (ys := [sv z]) (m := 0 + f.length) (c := c) rfl rfl (by intro kk; simp) (by rfl) rfl rfl h1 (fun _ h => h) (by rfl) (fun a ha => by cases ha; exact reads_ownL (List.mem_append_left _ (List.mem_singleton.2 rfl)) (by rfl)) (by simp) (by rfl) (by decide) (by omega) (by decide) .free rfl (fun _ => .inr heldx) ?_
                                          intro B c h1
                                          refine d_mem (fun w h => h) (d_env ?_ (k3100 ⟨b6, b14, b16, b20, B, c, D, e⟩ h1))
                                          exact ⟨rfl, rfl, rfl, rfl, rfl, rfl, rfl, rfl, rfl, rfl, trivial⟩
                                        · skip
                                          refine i_lits0 16 rfl rfl .free rfl (.inr heldx) ?_
                                          intro b16
                                          refine d_mem (fun w h => Mem.ins3 (A := [(b16, _)]) (B := bufOwn _ _ B) (C := [(b14, _)]) h) (d_env ?_ (k2110 ⟨b6, b14, b16, b20, B, c, D, e⟩ h1))
                                          exact ⟨rfl, rfl, rfl, rfl, rfl, rfl, rfl, rfl, rfl, rfl, rfl, rfl, trivial⟩
                                        · skip
                                          refine i_lits 20 rfl rfl rfl rfl (by rfl) (by rfl) (by rfl) (by decide) (by decide) (by rfl) .free rfl (.inr heldx) ?_
                                          intro b20
                                          refine d_mem (fun w h => Mem.ins4 (A := [(b20, _)]) (B := bufOwn _ _ B) (C := [(b14, _)]) (D := []) h) (d_env ?_ (k2101 ⟨b6, b14, b16, b20, B, c, D, e⟩ h1))
                                          exact ⟨rfl, rfl, rfl, rfl, rfl, rfl, rfl, rfl, rfl, rfl, rfl, rfl, trivial⟩
                                      · intro k2100
                                        refine d_state (X := G11) 9 #[true, true, true, true, true, true, false, true, false, true, true, true, true, true, false, false, true, true, false, true, true, false, true, false, false, false] (fun x => [(83, .slice (some ⟨x.b16, 0, none⟩) 0 0), (87, .slice (some ⟨x.b20, 0, none⟩) 1 1)]) (fun x L => [] ++ ([] ++ ([(x.b16, .cells [].toArray 9 (0, 0))] ++ ([(x.b20, .cells [sv n1].toArray 9 (0, 0))] ++ L)))) (fun x => True) ?_ ?_
                                        · rintro ⟨b6, b14, b16, b20, B, c, D, e⟩ h1
                                          try simp only at h1
                                          refine d_two 6 14 (by kernel_rfl) ?_ ?_
                                          · skip
                                            refine i_lits0 6 rfl rfl .free rfl (.inr heldx) ?_
                                            intro b6
                                            refine d_mem (fun w h => h) (d_env ?_ (k1011 ⟨b6, b14, b16, b20, B, c, D, e⟩ trivial))
                                            exact ⟨rfl, rfl, rfl, rfl, rfl, rfl, rfl, rfl, rfl, rfl, rfl, rfl, trivial⟩
                                          · skip
                                            refine i_lits 14 rfl rfl rfl rfl (by rfl) (by rfl) (by rfl) (by decide) (by decide) (by rfl) .free rfl (.inr heldx) ?_
                                            intro b14
                                            refine d_mem (fun w h => Mem.seg2 (A := [(b14, _)]) (B := []) h) (d_env ?_ (k0111 ⟨b6, b14, b16, b20, B, c, D, e⟩ trivial))
                                            exact ⟨rfl, rfl, rfl, rfl, rfl, rfl, rfl, rfl, rfl, rfl, rfl, rfl, trivial⟩
                                        · intro k0011
                                          refine d_state (X := G11) 9 #[true, true, true, true, true, true, false, true, false, true, true, true, true, true, true, false, false, true, false, true, true, false, true, false, false, false] (fun x => [(81, .slice (some ⟨x.b14, 0, none⟩) 1 1), (87, .slice (some ⟨x.b20, 0, none⟩) 1 1)]) (fun x L => [] ++ ([(x.b14, .cells [sv z].toArray 9 (0, 0))] ++ ([] ++ ([(x.b20, .cells [sv n1].toArray 9 (0, 0))] ++ L)))) (fun x => True) ?_ ?_
                                          · rintro ⟨b6, b14, b16, b20, B, c, D, e⟩ h1
                                            try simp only at h1
                                            refine d_two 6 16 (by kernel_rfl) ?_ ?_
                                            · skip
                                              refine i_lits0 6 rfl rfl .free rfl (.inr heldx) ?_
                                              intro b6
                                              refine d_mem (fun w h => h) (d_env ?_ (k1101 ⟨b6, b14, b16, b20, B, c, D, e⟩ trivial))
                                              exact ⟨rfl, rfl, rfl, rfl, rfl, rfl, rfl, rfl, rfl, rfl, rfl, rfl, trivial⟩
                                            · skip
                                              refine i_lits0 16 rfl rfl .free rfl (.inr heldx) ?_
                                              intro b16
                                              refine d_mem (fun w h => Mem.ins3 (A := [(b16, _)]) (B := []) (C := [(b14, _)]) h) (d_env ?_ (k0111 ⟨b6, b14, b16, b20, B, c, D, e⟩ trivial))
                                              exact ⟨rfl, rfl, rfl, rfl, rfl, rfl, rfl, rfl, rfl, rfl, rfl, rfl, trivial⟩
                                          · intro k0101
                                            refine d_state (X := G11) 9 #[true, true, true, true, true, true, false, true, false, true, true, true, true, true, true, false, true, true, false, true, false, false, true, false, false, false] (fun x => [(81, .slice (some ⟨x.b14, 0, none⟩) 1 1), (83, .slice (some ⟨x.b16, 0, none⟩) 0 0)]) (fun x L => [] ++ ([(x.b14, .cells [sv z].toArray 9 (0, 0))] ++ ([(x.b16, .cells [].toArray 9 (0, 0))] ++ ([] ++ L)))) (fun x => True) ?_ ?_
                                            · rintro ⟨b6, b14, b16, b20, B, c, D, e⟩ h1
                                              try simp only at h1
                                              refine d_two 6 20 (by kernel_rfl) ?_ ?_
                                              · skip
                                                refine i_lits0 6 rfl rfl .free rfl (.inr heldx) ?_
                                                intro b6
                                                refine d_mem (fun w h => h) (d_env ?_ (k1110 ⟨b6, b14, b16, b20, B, c, D, e⟩ trivial))
                                                exact ⟨rfl, rfl, rfl, rfl, rfl, rfl, rfl, rfl, rfl, rfl, rfl, rfl, trivial⟩
                                              · skip
                                                refine i_lits 20 rfl rfl rfl rfl (by rfl) (by rfl) (by rfl) (by decide) (by decide) (by rfl) .free rfl (.inr heldx) ?_
                                                intro b20
                                                refine d_mem (fun w h => Mem.ins4 (A := [(b20, _)]) (B := []) (C := [(b14, _)]) (D := [(b16, _)]) h) (d_env ?_ (k0111 ⟨b6, b14, b16, b20, B, c, D, e⟩ trivial))
                                                exact ⟨rfl, rfl, rfl, rfl, rfl, rfl, rfl, rfl, rfl, rfl, rfl, rfl, trivial⟩
                                            · intro k0110
                                              refine d_state (X := G11) 9 #[true, true, true, true, true, true, true, true, false, true, true, true, true, true, false, false, false, true, false, true, true, false, true, false, false, false] (fun x => [(73, .slice (some ⟨x.b6, 0, none⟩) 0 0), (87, .slice (some ⟨x.b20, 0, none⟩) 1 1)]) (fun x L => [(x.b6, .cells [].toArray 9 (0, 0))] ++ ([] ++ ([] ++ ([(x.b20, .cells [sv n1].toArray 9 (0, 0))] ++ L)))) (fun x => True) ?_ ?_
                                              · rintro ⟨b6, b14, b16, b20, B, c, D, e⟩ h1
                                                try simp only at h1
                                                refine d_three 8 14 16 (by kernel_rfl) ?_ ?_ ?_
                                                · skip
                                                  refine i_appendB 8 (B := some (b6, [])) (xs := []) (ys := f.map sv) (m := 0) (c := 0) rfl rfl (by intro kk; simp) (by rfl) rfl rfl ⟨rfl, Nat.le_refl _, rfl⟩ (fun _ h => h) (by simp) hfr.reads hfr.none (sv_plain f) (by decide) (by omega) (by decide) .free rfl (fun _ => .inr heldx) ?_
                                                  intro B c h1
                                                  refine d_mem (fun w h => h) (d_env ?_ (k2001 ⟨b6, b14, b16, b20, B, c, D, e⟩ h1))
                                                  exact ⟨rfl, rfl, rfl, rfl, rfl, rfl, rfl, rfl, rfl, rfl, rfl, trivial⟩
                                                · skip
                                                  refine i_lits 14 rfl rfl rfl rfl (by rfl) (by rfl) (by rfl) (by decide) (by decide) (by rfl) .free rfl (.inr heldx) ?_
                                                  intro b14
                                                  refine d_mem (fun w h => Mem.seg2 (A := [(b14, _)]) (B := [(b6, _)]) h) (d_env ?_ (k1101 ⟨b6, b14, b16, b20, B, c, D, e⟩ trivial))
                                                  exact ⟨rfl, rfl, rfl, rfl, rfl, rfl, rfl, rfl, rfl, rfl, rfl, rfl, trivial⟩
                                                · skip
                                                  refine i_lits0 16 rfl rfl .free rfl (.inr heldx) ?_
                                                  intro b16
                                                  refine d_mem (fun w h => Mem.ins3 (A := [(b16, _)]) (B := [(b6, _)]) (C := []) h) (d_env ?_ (k1011 ⟨b6, b14, b16, b20, B, c, D, e⟩ trivial))
                                                  exact ⟨rfl, rfl, rfl, rfl, rfl, rfl, rfl, rfl, rfl, rfl, rfl, rfl, trivial⟩
                                              · intro k1001
                                                refine d_state (X := G11) 9 #[true, true, true, true, true, true, true, true, false, true, true, true, true, true, false, false, true, true, false, true, false, false, true, false, false, false] (fun x => [(73, .slice (some ⟨x.b6, 0, none⟩) 0 0), (83, .slice (some ⟨x.b16, 0, none⟩) 0 0)]) (fun x L => [(x.b6, .cells [].toArray 9 (0, 0))] ++ ([] ++ ([(x.b16, .cells [].toArray 9 (0, 0))] ++ ([] ++ L)))) (fun x => True) ?_ ?_
                                                · rintro ⟨b6, b14, b16, b20, B, c, D, e⟩ h1
                                                  try simp only at h1
                                                  refine d_three 8 14 20 (by kernel_rfl) ?_ ?_ ?_
                                                  · skip
                                                    refine i_appendB 8 (B := some (b6, [])) (xs := []) (ys := f.map sv) (m := 0) (c := 0) rfl rfl (by intro kk; simp) (by rfl) rfl rfl ⟨rfl, Nat.le_refl _, rfl⟩ (fun _ h => h) (by simp) hfr.reads hfr.none (sv_plain f) (by decide) (by omega) (by decide) .free rfl (fun _ => .inr heldx) ?_
                                                    intro B c h1
                                                    refine d_mem (fun w h => h) (d_env ?_ (k2010 ⟨b6, b14, b16, b20, B, c, D, e⟩ h1))
                                                    exact ⟨rfl, rfl, rfl, rfl, rfl, rfl, rfl, rfl, rfl, rfl, rfl, trivial⟩
                                                  · skip
                                                    refine i_lits 14 rfl rfl rfl rfl (by rfl) (by rfl) (by rfl) (by decide) (by decide) (by rfl) .free rfl (.inr heldx) ?_
                                                    intro b14
                                                    refine d_mem (fun w h => Mem.seg2 (A := [(b14, _)]) (B := [(b6, _)]) h) (d_env ?_ (k1110 ⟨b6, b14, b16, b20, B, c, D, e⟩ trivial))
                                                    exact ⟨rfl, rfl, rfl, rfl, rfl, rfl, rfl, rfl, rfl, rfl, rfl, rfl, trivial⟩
                                                  · skip
                                                    refine i_lits 20 rfl rfl rfl rfl (by rfl) (by rfl) (by rfl) (by decide) (by decide) (by rfl) .free rfl (.inr heldx) ?_
                                                    intro b20
                                                    refine d_mem (fun w h => Mem.ins4 (A := [(b20, _)]) (B := [(b6, _)]) (C := []) (D := [(b16, _)]) h) (d_env ?_ (k1011 ⟨b6, b14, b16, b20, B, c, D, e⟩ trivial))
                                                    exact ⟨rfl, rfl, rfl, rfl, rfl, rfl, rfl, rfl, rfl, rfl, rfl, rfl, trivial⟩
                                                · intro k1010
                                                  refine d_state (X := G11) 9 #[true, true, true, true, true, true, true, true, false, true, true, true, true, true, true, false, false, true, false, true, false, false, true, false, false, false] (fun x => [(73, .slice (some ⟨x.b6, 0, none⟩) 0 0), (81, .slice (some ⟨x.b14, 0, none⟩) 1 1)]) (fun x L => [(x.b6, .cells [].toArray 9 (0, 0))] ++ ([(x.b14, .cells [sv z].toArray 9 (0, 0))] ++ ([] ++ ([] ++ L)))) (fun x => True) ?_ ?_
                                                  · rintro ⟨b6, b14, b16, b20, B, c, D, e⟩ h1
                                                    try simp only at h1
                                                    refine d_three 8 16 20 (by kernel_rfl) ?_ ?_ ?_
                                                    · skip
                                                      refine i_appendB 8 (B := some (b6, [])) (xs := []) (ys := f.map sv) (m := 0) (c := 0) rfl rfl (by intro kk; simp) (by rfl) rfl rfl ⟨rfl, Nat.le_refl _, rfl⟩ (fun _ h => h) (by simp) hfr.reads hfr.none (sv_plain f) (by decide) (by omega) (by decide) .free rfl (fun _ => .inr heldx) ?_
                                                      intro B c h1
                                                      refine d_mem (fun w h => h) (d_env ?_ (k2100 ⟨b6, b14, b16, b20, B, c, D, e⟩ h1))
                                                      exact ⟨rfl, rfl, rfl, rfl, rfl, rfl, rfl, rfl, rfl, rfl, rfl, trivial⟩
                                                    · skip
                                                      refine i_lits0 16 rfl rfl .free rfl (.inr heldx) ?_
                                                      intro b16
                                                      refine d_mem (fun w h => Mem.ins3 (A := [(b16, _)]) (B := [(b6, _)]) (C := [(b14, _)]) h) (d_env ?_ (k1110 ⟨b6, b14, b16, b20, B, c, D, e⟩ trivial))
                                                      exact ⟨rfl, rfl, rfl, rfl, rfl, rfl, rfl, rfl, rfl, rfl, rfl, rfl, trivial⟩
                                                    · skip
                                                      refine i_lits 20 rfl rfl rfl rfl (by rfl) (by rfl) (by rfl) (by decide) (by decide) (by rfl) .free rfl (.inr heldx) ?_
                                                      intro b20
                                                      refine d_mem (fun w h => Mem.ins4 (A := [(b20, _)]) (B := [(b6, _)]) (C := [(b14, _)]) (D := []) h) (d_env ?_ (k1101 ⟨b6, b14, b16, b20, B, c, D, e⟩ trivial))
                                                      exact ⟨rfl, rfl, rfl, rfl, rfl, rfl, rfl, rfl, rfl, rfl, rfl, rfl, trivial⟩
                                                  · intro k1100
                                                    refine d_state (X := G11) 9 #[true, true, true, true, true, true, true, true, true, true, true, true, true, true, false, false, false, true, false, true, false, false, true, false, false, false] (fun x => [(75, bufVal (0 + f.length) x.c x.B)]) (fun x L => bufOwn 9 ([] ++ f.map sv) x.B ++ ([] ++ ([] ++ ([] ++ L)))) (fun x => BufOk 1 (0 + f.length) x.c ([] ++ f.map sv) x.B) ?_ ?_
                                                    · rintro ⟨b6, b14, b16, b20, B, c, D, e⟩ h1
                                                      try simp only at h1
                                                      refine d_three 14 16 20 (by kernel_rfl) ?_ ?_ ?_
                                                      · skip
                                                        refine i_lits 14 rfl rfl rfl rfl (by rfl) (by rfl) (by rfl) (by decide) (by decide) (by rfl) .free rfl (.inr heldx) ?_
                                                        intro b14
                                                        refine d_mem (fun w h => Mem.seg2 (A := [(b14, _)]) (B := bufOwn _ _ B) h) (d_env ?_ (k2100 ⟨b6, b14, b16, b20, B, c, D, e⟩ h1))
                                                        exact ⟨rfl, rfl, rfl, rfl, rfl, rfl, rfl, rfl, rfl, rfl, rfl, trivial⟩
                                                      · skip
                                                        refine i_lits0 16 rfl rfl .free rfl (.inr heldx) ?_
                                                        intro b16
                                                        refine d_mem (fun w h => Mem.ins3 (A := [(b16, _)]) (B := bufOwn _ _ B) (C := []) h) (d_env ?_ (k2010 ⟨b6, b14, b16, b20, B, c, D, e⟩ h1))
                                                        exact ⟨rfl, rfl, rfl, rfl, rfl, rfl, rfl, rfl, rfl, rfl, rfl, trivial⟩
                                                      · skip
                                                        refine i_lits 20 rfl rfl rfl rfl (by rfl) (by rfl) (by rfl) (by decide) (by decide) (by rfl) .free rfl (.inr heldx) ?_
                                                        intro b20
                                                        refine d_mem (fun w h => Mem.ins4 (A := [(b20, _)]) (B := bufOwn _ _ B) (C := []) (D := []) h) (d_env ?_ (k2001 ⟨b6, b14, b16, b20, B, c, D, e⟩ h1))
                                                        exact ⟨rfl, rfl, rfl, rfl, rfl, rfl, rfl, rfl, rfl, rfl, rfl, trivial⟩
                                                    · intro k2000
                                                      refine d_state (X := G11) 10 #[true, true, true, true, true, true, false, true, false, true, true, true, true, true, false, false, false, true, false, true, true, false, true, false, false, false] (fun x => [(87, .slice (some ⟨x.b20, 0, none⟩) 1 1)]) (fun x L => [] ++ ([] ++ ([] ++ ([(x.b20, .cells [sv n1].toArray 9 (0, 0))] ++ L)))) (fun x => True) ?_ ?_
                                                      · rintro ⟨b6, b14, b16, b20, B, c, D, e⟩ h1
                                                        try simp only at h1
                                                        refine d_three 6 14 16 (by kernel_rfl) ?_ ?_ ?_
                                                        · skip
                                                          refine i_lits0 6 rfl rfl .free rfl (.inr heldx) ?_
                                                          intro b6
                                                          refine d_mem (fun w h => h) (d_env ?_ (k1001 ⟨b6, b14, b16, b20, B, c, D, e⟩ trivial))
                                                          exact ⟨rfl, rfl, rfl, rfl, rfl, rfl, rfl, rfl, rfl, rfl, rfl, trivial⟩
                                                        · skip
                                                          refine i_lits 14 rfl rfl rfl rfl (by rfl) (by rfl) (by rfl) (by decide) (by decide) (by rfl) .free rfl (.inr heldx) ?_
                                                          intro b14
                                                          refine d_mem (fun w h => Mem.seg2 (A := [(b14, _)]) (B := []) h) (d_env ?_ (k0101 ⟨b6, b14, b16, b20, B, c, D, e⟩ trivial))
                                                          exact ⟨rfl, rfl, rfl, rfl, rfl, rfl, rfl, rfl, rfl, rfl, rfl, trivial⟩
                                                        · skip
                                                          refine i_lits0 16 rfl rfl .free rfl (.inr heldx) ?_
                                                          intro b16
                                                          refine d_mem (fun w h => Mem.ins3 (A := [(b16, _)]) (B := []) (C := []) h) (d_env ?_ (k0011 ⟨b6, b14, b16, b20, B, c, D, e⟩ trivial))
                                                          exact ⟨rfl, rfl, rfl, rfl, rfl, rfl, rfl, rfl, rfl, rfl, rfl, trivial⟩
                                                      · intro k0001
                                                        refine d_state (X := G11) 10 #[true, true, true, true, true, true, false, true, false, true, true, true, true, true, false, false, true, true, false, true, false, false, true, false, false, false] (fun x => [(83, .slice (some ⟨x.b16, 0, none⟩) 0 0)]) (fun x L => [] ++ ([] ++ ([(x.b16, .cells [].toArray 9 (0, 0))] ++ ([] ++ L)))) (fun x => True) ?_ ?_
                                                        · rintro ⟨b6, b14, b16, b20, B, c, D, e⟩ h1
                                                          try simp only at h1
                                                          refine d_three 6 14 20 (by kernel_rfl) ?_ ?_ ?_
                                                          · skip
                                                            refine i_lits0 6 rfl rfl .free rfl (.inr heldx) ?_
                                                            intro b6
                                                            refine d_mem (fun w h => h) (d_env ?_ (k1010 ⟨b6, b14, b16, b20, B, c, D, e⟩ trivial))
                                                            exact ⟨rfl, rfl, rfl, rfl, rfl, rfl, rfl, rfl, rfl, rfl, rfl, trivial⟩
                                                          · skip
                                                            refine i_lits 14 rfl rfl rfl rfl (by rfl) (by rfl) (by rfl) (by decide) (by decide) (by rfl) .free rfl (.inr heldx) ?_
                                                            intro b14
                                                            refine d_mem (fun w h => Mem.seg2 (A := [(b14, _)]) (B := []) h) (d_env ?_ (k0110 ⟨b6, b14, b16, b20, B, c, D, e⟩ trivial))
                                                            exact ⟨rfl, rfl, rfl, rfl, rfl, rfl, rfl, rfl, rfl, rfl, rfl, trivial⟩
                                                          · skip
                                                            refine i_lits 20 rfl rfl rfl rfl (by rfl) (by rfl) (by rfl) (by decide) (by decide) (by rfl) .free rfl (.inr heldx) ?_
                                                            intro b20
                                                            refine d_mem (fun w h => Mem.ins4 (A := [(b20, _)]) (B := []) (C := []) (D := [(b16, _)]) h) (d_env ?_ (k0011 ⟨b6, b14, b16, b20, B, c, D, e⟩ trivial))
                                                            exact ⟨rfl, rfl, rfl, rfl, rfl, rfl, rfl, rfl, rfl, rfl, rfl, trivial⟩
                                                        · intro k0010
                                                          refine d_state (X := G11) 10 #[true, true, true, true, true, true, false, true, false, true, true, true, true, true, true, false, false, true, false, true, false, false, true, false, false, false] (fun x => [(81, .slice (some ⟨x.b14, 0, none⟩) 1 1)]) (fun x L => [] ++ ([(x.b14, .cells [sv z].toArray 9 (0, 0))] ++ ([] ++ ([] ++ L)))) (fun x => True) ?_ ?_
                                                          · rintro ⟨b6, b14, b16, b20, B, c, D, e⟩ h1
                                                            try simp only at h1
                                                            refine d_three 6 16 20 (by kernel_rfl) ?_ ?_ ?_
                                                            · skip
                                                              refine i_lits0 6 rfl rfl .free rfl (.inr heldx) ?_
                                                              intro b6
                                                              refine d_mem (fun w h => h) (d_env ?_ (k1100 ⟨b6, b14, b16, b20, B, c, D, e⟩ trivial))
                                                              exact ⟨rfl, rfl, rfl, rfl, rfl, rfl, rfl, rfl, rfl, rfl, rfl, trivial⟩
                                                            · skip
                                                              refine i_lits0 16 rfl rfl .free rfl (.inr heldx) ?_
                                                              intro b16
                                                              refine d_mem (fun w h => Mem.ins3 (A := [(b16, _)]) (B := []) (C := [(b14, _)]) h) (d_env ?_ (k0110 ⟨b6, b14, b16, b20, B, c, D, e⟩ trivial))
                                                              exact ⟨rfl, rfl, rfl, rfl, rfl, rfl, rfl, rfl, rfl, rfl, rfl, trivial⟩
                                                            · skip
                                                              refine i_lits 20 rfl rfl rfl rfl (by rfl) (by rfl) (by rfl) (by decide) (by decide) (by rfl) .free rfl (.inr heldx) ?_
                                                              intro b20
                                                              refine d_mem (fun w h => Mem.ins4 (A := [(b20, _)]) (B := []) (C := [(b14, _)]) (D := []) h) (d_env ?_ (k0101 ⟨b6, b14, b16, b20, B, c, D, e⟩ trivial))
                                                              exact ⟨rfl, rfl, rfl, rfl, rfl, rfl, rfl, rfl, rfl, rfl, rfl, trivial⟩
                                                          · intro k0100
                                                            refine d_state (X := G11) 10 #[true, true, true, true, true, true, true, true, false, true, true, true, true, true, false, false, false, true, false, true, false, false, true, false, false, false] (fun x => [(73, .slice (some ⟨x.b6, 0, none⟩) 0 0)]) (fun x L => [(x.b6, .cells [].toArray 9 (0, 0))] ++ ([] ++ ([] ++ ([] ++ L)))) (fun x => True) ?_ ?_
                                                            · rintro ⟨b6, b14, b16, b20, B, c, D, e⟩ h1
                                                              try simp only at h1
                                                              refine d_four 8 14 16 20 (by kernel_rfl) ?_ ?_ ?_ ?_
                                                              · skip
                                                                refine i_appendB 8 (B := some (b6, [])) (xs := []) (ys := f.map sv) (m := 0) (c := 0) rfl rfl (by intro kk; simp) (by rfl) rfl rfl ⟨rfl, Nat.le_refl _, rfl⟩ (fun _ h => h) (by simp) hfr.reads hfr.none (sv_plain f) (by decide) (by omega) (by decide) .free rfl (fun _ => .inr heldx) ?_
                                                                intro B c h1
                                                                refine d_mem (fun w h => h) (d_env ?_ (k2000 ⟨b6, b14, b16, b20, B, c, D, e⟩ h1))
                                                                exact ⟨rfl, rfl, rfl, rfl, rfl, rfl, rfl, rfl, rfl, rfl, trivial⟩
                                                              · skip
                                                                refine i_lits 14 rfl rfl rfl rfl (by rfl) (by rfl) (by rfl) (by decide) (by decide) (by rfl) .free rfl (.inr heldx) ?_
                                                                intro b14
                                                                refine d_mem (fun w h => Mem.seg2 (A := [(b14, _)]) (B := [(b6, _)]) h) (d_env ?_ (k1100 ⟨b6, b14, b16, b20, B, c, D, e⟩ trivial))
                                                                exact ⟨rfl, rfl, rfl, rfl, rfl, rfl, rfl, rfl, rfl, rfl, rfl, trivial⟩
                                                              · skip
                                                                refine i_lits0 16 rfl rfl .free rfl (.inr heldx) ?_
                                                                intro b16
                                                                refine d_mem (fun w h => Mem.ins3 (A := [(b16, _)]) (B := [(b6, _)]) (C := []) h) (d_env ?_ (k1010 ⟨b6, b14, b16, b20, B, c, D, e⟩ trivial))
                                                                exact ⟨rfl, rfl, rfl, rfl, rfl, rfl, rfl, rfl, rfl, rfl, rfl, trivial⟩
                                                              · skip
                                                                refine i_lits 20 rfl rfl rfl rfl (by rfl) (by rfl) (by rfl) (by decide) (by decide) (by rfl) .free rfl (.inr heldx) ?_
                                                                intro b20
                                                                refine d_mem (fun w h => Mem.ins4 (A := [(b20, _)]) (B := [(b6, _)]) (C := []) (D := []) h) (d_env ?_ (k1001 ⟨b6, b14, b16, b20, B, c, D, e⟩ trivial))
                                                                exact ⟨rfl, rfl, rfl, rfl, rfl, rfl, rfl, rfl, rfl, rfl, rfl, trivial⟩
                                                            · intro k1000
                                                              refine d_four 6 14 16 20 (by kernel_rfl) ?_ ?_ ?_ ?_
                                                              · skip
                                                                refine i_lits0 6 rfl rfl .free rfl (.inr heldx) ?_
                                                                intro b6
                                                                refine d_mem (fun w h => h) (d_env ?_ (k1000 ⟨b6, 0, 0, 0, none, 0, none, 0⟩ trivial))
                                                                exact ⟨rfl, rfl, rfl, rfl, rfl, rfl, rfl, rfl, rfl, rfl, trivial⟩
                                                              · skip
                                                                refine i_lits 14 rfl rfl rfl rfl (by rfl) (by rfl) (by rfl) (by decide) (by decide) (by rfl) .free rfl (.inr heldx) ?_
                                                                intro b14
                                                                refine d_mem (fun w h => Mem.seg2 (A := [(b14, _)]) (B := []) h) (d_env ?_ (k0100 ⟨0, b14, 0, 0, none, 0, none, 0⟩ trivial))
                                                                exact ⟨rfl, rfl, rfl, rfl, rfl, rfl, rfl, rfl, rfl, rfl, trivial⟩
                                                              · skip
                                                                refine i_lits0 16 rfl rfl .free rfl (.inr heldx) ?_
                                                                intro b16
                                                                refine d_mem (fun w h => Mem.ins3 (A := [(b16, _)]) (B := []) (C := []) h) (d_env ?_ (k0010 ⟨0, 0, b16, 0, none, 0, none, 0⟩ trivial))
                                                                exact ⟨rfl, rfl, rfl, rfl, rfl, rfl, rfl, rfl, rfl, rfl, trivial⟩
                                                              · skip
                                                                refine i_lits 20 rfl rfl rfl rfl (by rfl) (by rfl) (by rfl) (by decide) (by decide) (by rfl) .free rfl (.inr heldx) ?_
                                                                intro b20
                                                                refine d_mem (fun w h => Mem.ins4 (A := [(b20, _)]) (B := []) (C := []) (D := []) h) (d_env ?_ (k0001 ⟨0, 0, 0, b20, none, 0, none, 0⟩ trivial))
                                                                exact ⟨rfl, rfl, rfl, rfl, rfl, rfl, rfl, rfl, rfl, rfl, trivial⟩
set_option maxHeartbeats 2000000 in
theorem plain_fn {n : Nat} (ihn : PlainH n) {h1 z : Txt} {s u : Ty} {b : Ex} {I : Heap} {cs : List Value} (hlt : SizeOf.sizeOf (Ex.fn h1 z s u b) < n + 1) (h : Rep I (Ex.fn h1 z s u b).tree cs) (hok : (Ex.fn h1 z s u b).ok = true) {f t : List Txt} {of ot : Option Addr} {cf ct : Nat} (hfr : Strs I of f cf) (hto : Strs I ot t ct) (hft : f.length = t.length) (hfl : f.length + 2 * (Ex.fn h1 z s u b).size ≤ 100000)
    {ov : Option Addr} {av : List Txt} {cv : Nat} (hav : Strs I ov av cv) (bp k : Nat) (hk : k + (Ex.fn h1 z s u b).nb + av.length ≤ 90 + hits 120 av k) (ha5 : av.length ≤ 500) (L : Own) :
    Fun Tryz.prog 84 [.agg cs.toArray, .slice of f.length cf, .slice ot t.length ct, .pointer (some ⟨bp, 0, none⟩)] I (rn bp ov av cv k :: L) (PR bp ov av cv ((Ex.fn h1 z s u b).pl av f t k) L) := by
  obtain ⟨oa, c, oaf, cf1, rfl, hf, hcl, hcs⟩ := h.cells
  have hle : HLe I I := .refl _
  have ha := hf.alen
  have hh0 := hits_le 120 av k
  refine fun_intro (by simp) ?_
  refine s_seq ?_
  refine o_enter rfl ?_
  refine o_box rfl rfl .free rfl ?_
  intro b4
  refine o_alloc .free rfl ?_
  intro b8
  refine o_done ?_
  refine s_seq ?_
  refine s_seq ?_
  refine o_enter rfl ?_
  refine o_fieldAddr rfl .free rfl ?_
  refine o_lO1 rfl .free rfl ?_
  refine o_cmps rfl rfl rfl .free rfl ?_
  refine o_done ?_
  first | refine s_fp rfl (by simp [Ex.tree, Tree.atom]) ?_ | refine s_fn rfl (by simp [Ex.tree, Tree.atom]) ?_ | refine s_false (by simp [look, opd, *]) ?_
  refine s_skip ?_
  refine s_seq ?_
  have hok0 := hok
  have hb : (Ex.fn h1 z s u b).bare = false := rfl
  have hpos : 0 < (Ex.fn h1 z s u b).tree.parts.length := by
    rw [Ex.bare_parts] at hb
    have : (Ex.fn h1 z s u b).tree.parts ≠ [] := by intro hh; rw [hh] at hb; cases hb
    exact List.length_pos_iff.2 this
  have hhd := head_at hpos
  obtain ⟨xa, rfl⟩ : ∃ xa, oa = some xa := ⟨_, some_oad hf.nil hpos⟩
  have hp := hf.len
  unfold maxN at hp
  refine o_enter rfl ?_
  refine o_lits0 .free rfl ?_
  intro b29
  refine o_fieldAddr rfl .free rfl ?_
  refine o_lO1 rfl .free rfl ?_
  refine o_append (B := some (b29, [])) (xs := []) (ys := cellsF oaf cf1 0 (Ex.fn h1 z s u b).tree.parts) (m := 0) (c := 0) (by intro kk; simp) (by rfl) rfl rfl ⟨rfl, Nat.le_refl _, rfl⟩ (fun _ h => h) (by have := hcl.length; omega) (fun a ha => by cases ha; exact (hcs _ rfl).reads) (by simp) hcl.plain hpos (by decide) (by omega) (by decide) .free rfl ?_
  intro bc sp cc hB'
  have hcc : (Ex.fn h1 z s u b).tree.parts.length ≤ cc := by have := hB'.2.1; omega
  refine o_put (t := 32) (v' := .slice (some ⟨bc, 0, none⟩) (Ex.fn h1 z s u b).tree.parts.length cc) rfl (by rw [Nat.zero_add]) ?_
  simp only [List.nil_append]
  refine o_struct rfl rfl rfl .free rfl ?_
  refine o_alloc .free rfl ?_
  intro b9
  refine o_st rfl rfl rfl rfl .free ?_
  refine o_done ?_
  refine s_seq ?_
  refine o_enter rfl ?_
  refine o_fieldAddr rfl .free rfl ?_
  refine o_lO1 rfl .free rfl ?_
  first | refine o_ixD rfl rfl 0 rfl .free rfl ?_ | refine o_ixP rfl rfl 0 rfl .free rfl ?_
  refine o_fieldAddr' rfl .free rfl ?_
  refine o_lIF rfl .free rfl ?_
  refine o_call rfl .free rfl (g_l2Kids ((Ex.fn h1 z s u b).tree.pt 0).atom _ _) ?_
  rw [← hhd]; rintro _ _ _ _ ⟨rfl, rfl, rfl⟩
  refine o_move rfl .free rfl ?_
  refine o_extract rfl rfl .free rfl ?_
  refine o_extract rfl rfl .free rfl ?_
  refine o_assign rfl .free rfl ?_
  refine o_assign rfl .free rfl ?_
  refine o_done ?_
  refine s_seq ?_
  refine s_seq ?_
  have hkr : kidRange (Ex.fn h1 z s u b).tree.head = (5, 6) := rfl
  rw [hkr]
  have hlen : (Ex.fn h1 z s u b).tree.parts.length = 6 := rfl
  have hki := kids_fn h1 z s u b
  have hp0 : ((Ex.fn h1 z s u b).tree.pt 0).atom = tFun := rfl
  simp only [Ex.fn.sizeOf_spec] at hlt
  simp only [Ex.ok, Bool.and_eq_true, decide_eq_true_eq] at hok
  simp only [Ex.nb] at hk
  simp only [Ex.size] at hfl
  simp only [show (Ex.fn h1 z s u b).tree.parts = [.node tFun [], .node h1 [], .node z [], s.tree, u.tree, b.tree] from rfl, cellsF, List.cons_append, List.nil_append]
  refine s_mem (fun w h => h.f4) ?_
  refine o_enter rfl ?_
  refine o_fieldAddr rfl .free rfl ?_
  refine o_lO1 rfl .free rfl ?_
  first | refine o_ixD rfl rfl 0 rfl .free rfl ?_ | refine o_ixP rfl rfl 0 rfl .free rfl ?_
  refine o_fieldAddr' rfl .free rfl ?_
  refine o_lIF rfl .free rfl ?_
  refine o_cmps rfl rfl rfl .free rfl ?_
  refine o_done ?_
  first | refine s_fp rfl (by rw [hp0]; decide) ?_ | refine s_fn rfl (by rw [hp0]; decide) ?_ | refine s_false (by simp [look, opd, *]) ?_
  refine s_skip ?_
  refine s_seq ?_
  refine s_seq ?_
  refine o_enter rfl ?_
  refine o_fieldAddr rfl .free rfl ?_
  refine o_lO1 rfl .free rfl ?_
  first | refine o_ixD rfl rfl 0 rfl .free rfl ?_ | refine o_ixP rfl rfl 0 rfl .free rfl ?_
  refine o_fieldAddr' rfl .free rfl ?_
  refine o_lIF rfl .free rfl ?_
  refine o_cmps rfl rfl rfl .free rfl ?_
  refine o_done ?_
  first | refine s_tp rfl (by rw [hp0]; rfl) ?_ | refine s_tn rfl (by rw [hp0]; rfl) ?_ | refine s_true (by simp [look, opd, *]) ?_
  refine s_seq ?_
  obtain ⟨x1, x2, x3⟩ := fr_facts 120 av k
  have x4 := fr_hits_succ 120 av k
  have x5 := hits_le 120 av (fr 120 av k)
  have x6 := hits_le 120 av (fr 120 av k + 1)
  obtain ⟨y1, y2, y3⟩ := fr_facts 120 av (fr 120 av k + 1)
  have y4 := fr_hits_succ 120 av (fr 120 av k + 1)
  have y5 := hits_le 120 av (fr 120 av (fr 120 av k + 1))
  have y6 := hits_le 120 av (fr 120 av (fr 120 av k + 1) + 1)
  have hhl := Ex.name_len hok.1.1.1.1.1
  have hzl := Ex.name_len hok.1.1.1.1.2
  refine o_enter rfl ?_
  refine o_move rfl .free rfl ?_
  refine o_call rfl .free rfl (g_l2Fresh hav bp k (by omega) _) ?_
  rintro _ _ _ _ ⟨rfl, rfl, rfl⟩
  have hnl1 := nm_len (n := fr 120 av k) (by omega)
  generalize hn1e : nm 120 (fr 120 av k) = n1 at hnl1 ⊢
  refine o_assign rfl .free rfl ?_
  refine o_done ?_
  refine s_seq ?_
  refine o_enter rfl ?_
  refine o_move rfl .free rfl ?_
  refine o_call rfl .free rfl (g_l2Fresh hav bp (fr 120 av k + 1) (by omega) _) ?_
  rintro _ _ _ _ ⟨rfl, rfl, rfl⟩
  have hnl2 := nm_len (n := fr 120 av (fr 120 av k + 1)) (by omega)
  generalize hn2e : nm 120 (fr 120 av (fr 120 av k + 1)) = n2 at hnl2 ⊢
  refine o_assign rfl .free rfl ?_
  refine o_done ?_
  refine s_seq ?_
  refine d_all 6 rfl rfl ?_
  refine d_takeA 0 rfl (by kernel_rfl) rfl (.inr heldx) (y_fieldAddr rfl) .free rfl ?_
  refine d_take 1 [5] rfl (by kernel_rfl) rfl heldx (y_lO1 rfl) .free rfl ?_
  refine d_takeA 2 rfl (by kernel_rfl) rfl (.inr heldx) (y_move rfl) .free rfl ?_
  refine d_call 3 rfl (by kernel_rfl) rfl rfl .free rfl (g_l1Atom n1 _ _) ?_
  rintro _ _ _ _ ⟨rfl, rfl, rfl⟩
  refine ⟨(.inr heldx), ?_⟩
  first | refine d_takeA 4 rfl (by kernel_rfl) rfl (.inr heldx) (y_ixD rfl rfl 1 rfl) .free rfl ?_ | refine d_takeA 4 rfl (by kernel_rfl) rfl (.inr heldx) (y_ixP rfl rfl 1 rfl) .free rfl ?_
  refine d_st 5 rfl (by kernel_rfl) rfl rfl rfl rfl rfl .free (.inl (by kernel_rfl)) ?_
  refine d_done (by kernel_rfl) ?_
  refine s_seq ?_
  refine d_all 6 rfl rfl ?_
  refine d_takeA 0 rfl (by kernel_rfl) rfl (.inr heldx) (y_fieldAddr rfl) .free rfl ?_
  refine d_take 1 [5] rfl (by kernel_rfl) rfl heldx (y_lO1 rfl) .free rfl ?_
  refine d_takeA 2 rfl (by kernel_rfl) rfl (.inr heldx) (y_move rfl) .free rfl ?_
  refine d_call 3 rfl (by kernel_rfl) rfl rfl .free rfl (g_l1Atom n2 _ _) ?_
  rintro _ _ _ _ ⟨rfl, rfl, rfl⟩
  refine ⟨(.inr heldx), ?_⟩
  first | refine d_takeA 4 rfl (by kernel_rfl) rfl (.inr heldx) (y_ixD rfl rfl 2 rfl) .free rfl ?_ | refine d_takeA 4 rfl (by kernel_rfl) rfl (.inr heldx) (y_ixP rfl rfl 2 rfl) .free rfl ?_
  refine d_st 5 rfl (by kernel_rfl) rfl rfl rfl rfl rfl .free (.inl (by kernel_rfl)) ?_
  refine d_done (by kernel_rfl) ?_
  refine s_seq ?_
  refine d_all 16 rfl rfl ?_
  refine d_takeA 1 rfl (by kernel_rfl) rfl (.inr heldx) (y_move rfl) .free rfl ?_
  refine d_takeA 3 rfl (by kernel_rfl) rfl (.inr heldx) (y_fieldAddr rfl) .free rfl ?_
  refine d_take 4 [16] rfl (by kernel_rfl) rfl heldx (y_lO1 rfl) .free rfl ?_
  first | refine d_takeA 5 rfl (by kernel_rfl) rfl (.inr heldx) (y_ixD rfl rfl 1 rfl) .free rfl ?_ | refine d_takeA 5 rfl (by kernel_rfl) rfl (.inr heldx) (y_ixP rfl rfl 1 rfl) .free rfl ?_
  refine d_takeA 6 rfl (by kernel_rfl) rfl (.inr heldx) (y_fieldAddr' rfl) .free rfl ?_
  refine d_take 7 [16] rfl (by kernel_rfl) rfl heldx (y_lIF rfl) .free rfl ?_
  refine d_takeA 8 rfl (by kernel_rfl) rfl (.inr heldx) (y_fieldAddr rfl) .free rfl ?_
  refine d_take 9 [16] rfl (by kernel_rfl) rfl heldx (y_lO1 rfl) .free rfl ?_
  first | refine d_takeA 10 rfl (by kernel_rfl) rfl (.inr heldx) (y_ixD rfl rfl 2 rfl) .free rfl ?_ | refine d_takeA 10 rfl (by kernel_rfl) rfl (.inr heldx) (y_ixP rfl rfl 2 rfl) .free rfl ?_
  refine d_takeA 11 rfl (by kernel_rfl) rfl (.inr heldx) (y_fieldAddr' rfl) .free rfl ?_
  refine d_take 12 [16] rfl (by kernel_rfl) rfl heldx (y_lIF rfl) .free rfl ?_
  refine d_two 0 13 (by kernel_rfl) ?_ ?_
  · skip
    refine i_lits0 0 rfl rfl .free rfl (.inr heldx) ?_
    intro b113
    refine d_two 2 13 (by kernel_rfl) ?_ ?_
    · skip
      refine i_appendB 2 (B := some (b113, [])) (xs := []) (ys := f.map sv) (m := 0) (c := 0) rfl rfl (by intro kk; simp) (by rfl) rfl rfl ⟨rfl, Nat.le_refl _, rfl⟩ (by first | exact fun _ h => h | exact fun _ h => h.f1 | exact fun _ h => h.f2 | exact fun _ h => h.f3) (by simp) hfr.reads hfr.none (sv_plain f) (by decide) (by omega) (by decide) .free rfl (fun _ => .inr heldx) ?_
      intro B1 c1 hB1
      refine d_lits 13 rfl (by kernel_rfl) rfl rfl rfl (by rfl) (by rfl) (by rfl) (by decide) (by decide) (by rfl) .free rfl (.inr heldx) ?_
      intro b126
      refine d_appendB 14 (B := B1) (xs := f.map sv) (ys := [sv h1, sv z]) (m := 0 + f.length) (c := c1) rfl (by kernel_rfl) rfl (by intro kk; simp) (by rfl) rfl rfl hB1 (by first | exact fun _ h => h | exact fun _ h => h.u1 | exact fun _ h => h.u2 | exact fun _ h => h.u3) (by rfl) (fun a ha => by cases ha; exact reads_ownL (by first | exact m0 | exact m1 | exact m2 | exact m3 | exact m4 | exact m5 | exact m6 | exact List.mem_append_right _ m0 | exact List.mem_append_right _ m1 | exact List.mem_append_right _ m2 | exact List.mem_append_right _ m3 | exact .tail _ (List.mem_append_right _ m0) | exact .tail _ (List.mem_append_right _ m1) | exact .tail _ (List.mem_append_right _ m2) | exact .tail _ (List.mem_append_right _ m3)) (by rfl)) (by simp) (by rfl) (by decide) (by omega) (by decide) .free rfl (fun _ => .inr heldx) ?_
      intro B2 c2 hB2
      rw [show f.map sv ++ [sv h1, sv z] = (f ++ [h1, z]).map sv by simp] at hB2 ⊢
      refine d_freezeStrs hB2 (by simp) (by simp [maxN]; omega) (by intro s hs; rcases List.mem_append.1 hs with hs | hs; exact hfr.each s hs; simp only [List.mem_cons, List.not_mem_nil, or_false] at hs; rcases hs with rfl | rfl; exact hhl; exact hzl) ?_
      intro J3 o3 k3 ez hbv hs3
      refine d_put (t := 127) rfl hbv ?_
      have hf := hf.mono ez
      have hfr := hfr.mono ez
      have hto := hto.mono ez
      have hav := hav.mono ez
      have hle := hle.trans ez
      refine d_takeA 15 rfl (by kernel_rfl) rfl (.inr heldx) (y_assign rfl) .free rfl ?_
      refine d_done (by kernel_rfl) ?_
      refine o_enter rfl ?_
      refine o_lits0 .free rfl ?_
      intro b128
      refine o_move rfl .free rfl ?_
      refine o_appendB (B := some (b128, [])) (xs := []) (ys := t.map sv) (m := 0) (c := 0) (by intro kk; simp) (by rfl) rfl rfl ⟨rfl, Nat.le_refl _, rfl⟩ (by first | exact fun _ h => h | exact fun _ h => h.f1 | exact fun _ h => h.f2 | exact fun _ h => h.f3) (by simp) hto.reads hto.none (sv_plain t) (by decide) (by omega) (by decide) .free rfl ?_
      intro B3 c3 hB3
      refine o_move rfl .free rfl ?_
      refine o_move rfl .free rfl ?_
      refine o_lits rfl rfl (by rfl) (by rfl) (by rfl) (by decide) (by decide) (by rfl) .free rfl ?_
      intro b133
      refine o_appendB (B := B3) (xs := t.map sv) (ys := [sv n1, sv n2]) (m := 0 + t.length) (c := c3) (by intro kk; simp) (by rfl) rfl rfl hB3 (by first | exact fun _ h => h | exact fun _ h => h.u1 | exact fun _ h => h.u2 | exact fun _ h => h.u3) (by rfl) (fun a ha => by cases ha; exact reads_ownL (by first | exact m0 | exact m1 | exact m2 | exact m3 | exact m4 | exact m5 | exact m6 | exact List.mem_append_right _ m0 | exact List.mem_append_right _ m1 | exact List.mem_append_right _ m2 | exact List.mem_append_right _ m3 | exact .tail _ (List.mem_append_right _ m0) | exact .tail _ (List.mem_append_right _ m1) | exact .tail _ (List.mem_append_right _ m2) | exact .tail _ (List.mem_append_right _ m3)) (by rfl)) (by simp) (by rfl) (by decide) (by omega) (by decide) .free rfl ?_
      intro B4 c4 hB4
      rw [show t.map sv ++ [sv n1, sv n2] = (t ++ [n1, n2]).map sv by simp] at hB4 ⊢
      refine o_assign rfl .free rfl ?_
      refine o_done ?_
      refine s_seq ?_
      refine s_seq ?_
      refine s_freezeStrs hB4 (by simp) (by simp [maxN]; omega) (by intro s hs; rcases List.mem_append.1 hs with hs | hs; exact hto.each s hs; simp only [List.mem_cons, List.not_mem_nil, or_false] at hs; rcases hs with rfl | rfl; exact hnl1; exact hnl2) ?_
      intro J4 o4 k4 ey hbv4 hs4
      refine s_put (t := 2) rfl hbv4 ?_
      refine s_mem (fun w h => h.drop.drop) ?_
      have hs3 := hs3.mono ey
      have hf := hf.mono ey
      have hfr := hfr.mono ey
      have hto := hto.mono ey
      have hav := hav.mono ey
      have hle := hle.trans ey
      refine o_enter rfl ?_
      refine o_move rfl .free rfl ?_
      refine o_assign rfl .free rfl ?_
      refine o_done ?_
      refine s_block ?_
      refine s_loop ?_
      refine s_seq ?_
      refine s_seq ?_
      refine o_enter rfl ?_
      refine o_move rfl .free rfl ?_
      refine o_move rfl .free rfl ?_
      refine o_cmp rfl rfl rfl .free rfl ?_
      refine o_done ?_
      refine s_condT rfl (by first | rfl | decide | (simp; done) | omega) ?_
      refine s_skip ?_
      refine s_seq ?_
      refine s_block ?_
      refine s_here fun hlr => ?_
      have hpl := b.pl_hits av (f ++ [h1, z]) (t ++ [n1, n2]) (fr 120 av (fr 120 av k + 1) + 1)
      refine d_tl 14 rfl rfl ?_
      refine d_takeA 0 rfl (by kernel_rfl) rfl (.inr heldx) (y_fieldAddr rfl) .free rfl ?_
      refine d_take 1 [13] rfl (by kernel_rfl) rfl heldx (y_lO1 rfl) .free rfl ?_
      refine d_takeA 2 rfl (by kernel_rfl) rfl (.inr heldx) (y_move rfl) .free rfl ?_
      refine d_takeA 3 rfl (by kernel_rfl) rfl (.inr heldx) (y_fieldAddr rfl) .free rfl ?_
      refine d_take 4 [13] rfl (by kernel_rfl) rfl heldx (y_lO1 rfl) .free rfl ?_
      refine d_takeA 5 rfl (by kernel_rfl) rfl (.inr heldx) (y_move rfl) .free rfl ?_
      first | refine d_takeA 6 rfl (by kernel_rfl) rfl (.inr heldx) (y_ixD rfl rfl _ rfl) .free rfl ?_ | refine d_takeA 6 rfl (by kernel_rfl) rfl (.inr heldx) (y_ixP rfl rfl _ rfl) .free rfl ?_
      refine d_take 7 [13] rfl (by kernel_rfl) rfl heldx (y_lIS rfl) .free rfl ?_
      refine d_takeA 8 rfl (by kernel_rfl) rfl (.inr heldx) (y_move rfl) .free rfl ?_
      refine d_takeA 9 rfl (by kernel_rfl) rfl (.inr heldx) (y_move rfl) .free rfl ?_
      refine d_takeA 10 rfl (by kernel_rfl) rfl (.inr heldx) (y_move rfl) .free rfl ?_
      refine d_call 11 rfl (by kernel_rfl) rfl rfl .free rfl (ihn (f := f ++ [h1, z]) (t := t ++ [n1, n2]) (by omega) (hf.as 5 b.tree (by omega) rfl) hok.2 hs3 hs4 (by simp [hft]) (by first | omega | (simp only [List.length_append, List.length_cons, List.length_nil]; omega)) hav bp _ (by omega) ha5 _) ?_
      rintro _ J2 _ e2 ⟨cs2, rfl, hr_0, rfl⟩
      obtain ⟨o2, k2, _, rfl, -⟩ := hr_0.open
      have hlr := hlr.trans e2
      have hf := hf.mono e2
      have hfr := hfr.mono e2
      have hto := hto.mono e2
      have hav := hav.mono e2
      have hle := hle.trans e2
      refine ⟨(.inr heldx), ?_⟩
      first | refine d_takeA 12 rfl (by kernel_rfl) rfl (.inr heldx) (y_ixD rfl rfl _ rfl) .free rfl ?_ | refine d_takeA 12 rfl (by kernel_rfl) rfl (.inr heldx) (y_ixP rfl rfl _ rfl) .free rfl ?_
      refine d_st 13 rfl (by kernel_rfl) rfl rfl rfl rfl rfl .free (.inl (by kernel_rfl)) ?_
      refine d_done (by kernel_rfl) ?_
      refine s_inBlock ?_
      refine o_enter rfl ?_
      refine o_move rfl .free rfl ?_
      refine o_arith rfl rfl rfl (by omega) .free rfl ?_
      refine o_assign rfl .free rfl ?_
      refine o_done ?_
      refine s_round ?_
      refine s_seq ?_
      refine s_seq ?_
      refine o_enter rfl ?_
      refine o_move rfl .free rfl ?_
      refine o_move rfl .free rfl ?_
      refine o_cmp rfl rfl rfl .free rfl ?_
      refine o_done ?_
      refine s_condF rfl (by first | rfl | decide | (simp; done) | omega) ?_
      refine s_exit rfl ?_
      refine s_seq ?_
      refine o_enter rfl ?_
      refine o_lOS rfl .free rfl ?_
      refine o_st rfl rfl rfl rfl .free ?_
      refine o_done ?_
      refine s_mem (fun w h => h.f2) (s_freeze ?_)
      intro hz
      have hf := hf.mono hz
      refine s_ret (.c rfl .nil) ?_
      subst hn1e hn2e
      exact ⟨_, _, hle.trans hz, fun w h => Mem.sub (L' := rn bp ov av cv _ :: L) (by repeat (first | exact List.Sublist.refl _ | apply List.Sublist.cons_cons | apply List.Sublist.cons)) h, _, rfl, .mk' rfl (.cons (hf.as 0 (.node tFun []) (by omega) rfl) (.cons (.ofAtom hnl1) (.cons (.ofAtom hnl2) (.cons (hf.as 3 (s.tree) (by omega) rfl) (.cons (hf.as 4 (u.tree) (by omega) rfl) (.cons (hr_0.mono hz) (.nil))))))) (fun y hy => by cases hy; exact still_set (xs := [_, _, _, _, _, _, _, _, _, _, _, _])) (by simp) hcc (by simp [maxN]) (by simp [maxN]), rfl⟩
    · skip
      refine i_lits 13 rfl rfl rfl rfl (by rfl) (by rfl) (by rfl) (by decide) (by decide) (by rfl) .free rfl (.inr heldx) ?_
      intro b126
      refine d_appendB 2 (B := some (b113, [])) (xs := []) (ys := f.map sv) (m := 0) (c := 0) rfl (by kernel_rfl) rfl (by intro kk; simp) (by rfl) rfl rfl ⟨rfl, Nat.le_refl _, rfl⟩ (by first | exact fun _ h => h | exact fun _ h => h.f1 | exact fun _ h => h.f2 | exact fun _ h => h.f3) (by simp) hfr.reads hfr.none (sv_plain f) (by decide) (by omega) (by decide) .free rfl (fun _ => .inr heldx) ?_
      intro B1 c1 hB1
      refine d_appendB 14 (B := B1) (xs := f.map sv) (ys := [sv h1, sv z]) (m := 0 + f.length) (c := c1) rfl (by kernel_rfl) rfl (by intro kk; simp) (by rfl) rfl rfl hB1 (by first | exact fun _ h => h | exact fun _ h => h.u1 | exact fun _ h => h.u2 | exact fun _ h => h.u3) (by rfl) (fun a ha => by cases ha; exact reads_ownL (by first | exact m0 | exact m1 | exact m2 | exact m3 | exact m4 | exact m5 | exact m6 | exact List.mem_append_right _ m0 | exact List.mem_append_right _ m1 | exact List.mem_append_right _ m2 | exact List.mem_append_right _ m3 | exact .tail _ (List.mem_append_right _ m0) | exact .tail _ (List.mem_append_right _ m1) | exact .tail _ (List.mem_append_right _ m2) | exact .tail _ (List.mem_append_right _ m3)) (by rfl)) (by simp) (by rfl) (by decide) (by omega) (by decide) .free rfl (fun _ => .inr heldx) ?_
      intro B2 c2 hB2
      rw [show f.map sv ++ [sv h1, sv z] = (f ++ [h1, z]).map sv by simp] at hB2 ⊢
      refine d_freezeStrs hB2 (by simp) (by simp [maxN]; omega) (by intro s hs; rcases List.mem_append.1 hs with hs | hs; exact hfr.each s hs; simp only [List.mem_cons, List.not_mem_nil, or_false] at hs; rcases hs with rfl | rfl; exact hhl; exact hzl) ?_
      intro J3 o3 k3 ez hbv hs3
      refine d_put (t := 127) rfl hbv ?_
      have hf := hf.mono ez
      have hfr := hfr.mono ez
      have hto := hto.mono ez
      have hav := hav.mono ez
      have hle := hle.trans ez
      refine d_takeA 15 rfl (by kernel_rfl) rfl (.inr heldx) (y_assign rfl) .free rfl ?_
      refine d_done (by kernel_rfl) ?_
      refine o_enter rfl ?_
      refine o_lits0 .free rfl ?_
      intro b128
      refine o_move rfl .free rfl ?_
      refine o_appendB (B := some (b128, [])) (xs := []) (ys := t.map sv) (m := 0) (c := 0) (by intro kk; simp) (by rfl) rfl rfl ⟨rfl, Nat.le_refl _, rfl⟩ (by first | exact fun _ h => h | exact fun _ h => h.f1 | exact fun _ h => h.f2 | exact fun _ h => h.f3) (by simp) hto.reads hto.none (sv_plain t) (by decide) (by omega) (by decide) .free rfl ?_
      intro B3 c3 hB3
      refine o_move rfl .free rfl ?_
      refine o_move rfl .free rfl ?_
      refine o_lits rfl rfl (by rfl) (by rfl) (by rfl) (by decide) (by decide) (by rfl) .free rfl ?_
      intro b133
      refine o_appendB (B := B3) (xs := t.map sv) (ys := [sv n1, sv n2]) (m := 0 + t.length) (c := c3) (by intro kk; simp) (by rfl) rfl rfl hB3 (by first | exact fun _ h => h | exact fun _ h => h.u1 | exact fun _ h => h.u2 | exact fun _ h => h.u3) (by rfl) (fun a ha => by cases ha; exact reads_ownL (by first | exact m0 | exact m1 | exact m2 | exact m3 | exact m4 | exact m5 | exact m6 | exact List.mem_append_right _ m0 | exact List.mem_append_right _ m1 | exact List.mem_append_right _ m2 | exact List.mem_append_right _ m3 | exact .tail _ (List.mem_append_right _ m0) | exact .tail _ (List.mem_append_right _ m1) | exact .tail _ (List.mem_append_right _ m2) | exact .tail _ (List.mem_append_right _ m3)) (by rfl)) (by simp) (by rfl) (by decide) (by omega) (by decide) .free rfl ?_
      intro B4 c4 hB4
      rw [show t.map sv ++ [sv n1, sv n2] = (t ++ [n1, n2]).map sv by simp] at hB4 ⊢
      refine o_assign rfl .free rfl ?_
      refine o_done ?_
      refine s_seq ?_
      refine s_seq ?_
      refine s_freezeStrs hB4 (by simp) (by simp [maxN]; omega) (by intro s hs; rcases List.mem_append.1 hs with hs | hs; exact hto.each s hs; simp only [List.mem_cons, List.not_mem_nil, or_false] at hs; rcases hs with rfl | rfl; exact hnl1; exact hnl2) ?_
      intro J4 o4 k4 ey hbv4 hs4
      refine s_put (t := 2) rfl hbv4 ?_
      refine s_mem (fun w h => h.drop.drop) ?_
      have hs3 := hs3.mono ey
      have hf := hf.mono ey
      have hfr := hfr.mono ey
      have hto := hto.mono ey
      have hav := hav.mono ey
      have hle := hle.trans ey
      refine o_enter rfl ?_
      refine o_move rfl .free rfl ?_
      refine o_assign rfl .free rfl ?_
      refine o_done ?_
      refine s_block ?_
      refine s_loop ?_
      refine s_seq ?_
      refine s_seq ?_
      refine o_enter rfl ?_
      refine o_move rfl .free rfl ?_
      refine o_move rfl .free rfl ?_
      refine o_cmp rfl rfl rfl .free rfl ?_
      refine o_done ?_
      refine s_condT rfl (by first | rfl | decide | (simp; done) | omega) ?_
      refine s_skip ?_
      refine s_seq ?_
      refine s_block ?_
      refine s_here fun hlr => ?_
      have hpl := b.pl_hits av (f ++ [h1, z]) (t ++ [n1, n2]) (fr 120 av (fr 120 av k + 1) + 1)
      refine d_tl 14 rfl rfl ?_
      refine d_takeA 0 rfl (by kernel_rfl) rfl (.inr heldx) (y_fieldAddr rfl) .free rfl ?_
      refine d_take 1 [13] rfl (by kernel_rfl) rfl heldx (y_lO1 rfl) .free rfl ?_
      refine d_takeA 2 rfl (by kernel_rfl) rfl (.inr heldx) (y_move rfl) .free rfl ?_
      refine d_takeA 3 rfl (by kernel_rfl) rfl (.inr heldx) (y_fieldAddr rfl) .free rfl ?_
      refine d_take 4 [13] rfl (by kernel_rfl) rfl heldx (y_lO1 rfl) .free rfl ?_
      refine d_takeA 5 rfl (by kernel_rfl) rfl (.inr heldx) (y_move rfl) .free rfl ?_
      first | refine d_takeA 6 rfl (by kernel_rfl) rfl (.inr heldx) (y_ixD rfl rfl _ rfl) .free rfl ?_ | refine d_takeA 6 rfl (by kernel_rfl) rfl (.inr heldx) (y_ixP rfl rfl _ rfl) .free rfl ?_
      refine d_take 7 [13] rfl (by kernel_rfl) rfl heldx (y_lIS rfl) .free rfl ?_
      refine d_takeA 8 rfl (by kernel_rfl) rfl (.inr heldx) (y_move rfl) .free rfl ?_
      refine d_takeA 9 rfl (by kernel_rfl) rfl (.inr heldx) (y_move rfl) .free rfl ?_
      refine d_takeA 10 rfl (by kernel_rfl) rfl (.inr heldx) (y_move rfl) .free rfl ?_
      refine d_call 11 rfl (by kernel_rfl) rfl rfl .free rfl (ihn (f := f ++ [h1, z]) (t := t ++ [n1, n2]) (by omega) (hf.as 5 b.tree (by omega) rfl) hok.2 hs3 hs4 (by simp [hft]) (by first | omega | (simp only [List.length_append, List.length_cons, List.length_nil]; omega)) hav bp _ (by omega) ha5 _) ?_
      rintro _ J2 _ e2 ⟨cs2, rfl, hr_0, rfl⟩
      obtain ⟨o2, k2, _, rfl, -⟩ := hr_0.open
      have hlr := hlr.trans e2
      have hf := hf.mono e2
      have hfr := hfr.mono e2
      have hto := hto.mono e2
      have hav := hav.mono e2
      have hle := hle.trans e2
      refine ⟨(.inr heldx), ?_⟩
      first | refine d_takeA 12 rfl (by kernel_rfl) rfl (.inr heldx) (y_ixD rfl rfl _ rfl) .free rfl ?_ | refine d_takeA 12 rfl (by kernel_rfl) rfl (.inr heldx) (y_ixP rfl rfl _ rfl) .free rfl ?_
      refine d_st 13 rfl (by kernel_rfl) rfl rfl rfl rfl rfl .free (.inl (by kernel_rfl)) ?_
      refine d_done (by kernel_rfl) ?_
      refine s_inBlock ?_
      refine o_enter rfl ?_
      refine o_move rfl .free rfl ?_
      refine o_arith rfl rfl rfl (by omega) .free rfl ?_
      refine o_assign rfl .free rfl ?_
      refine o_done ?_
      refine s_round ?_
      refine s_seq ?_
      refine s_seq ?_
      refine o_enter rfl ?_
      refine o_move rfl .free rfl ?_
      refine o_move rfl .free rfl ?_
      refine o_cmp rfl rfl rfl .free rfl ?_
      refine o_done ?_
      refine s_condF rfl (by first | rfl | decide | (simp; done) | omega) ?_
      refine s_exit rfl ?_
      refine s_seq ?_
      refine o_enter rfl ?_
      refine o_lOS rfl .free rfl ?_
      refine o_st rfl rfl rfl rfl .free ?_
      refine o_done ?_
      refine s_mem (fun w h => h.f2) (s_freeze ?_)
      intro hz
      have hf := hf.mono hz
      refine s_ret (.c rfl .nil) ?_
      subst hn1e hn2e
      exact ⟨_, _, hle.trans hz, fun w h => Mem.sub (L' := rn bp ov av cv _ :: L) (by repeat (first | exact List.Sublist.refl _ | apply List.Sublist.cons_cons | apply List.Sublist.cons)) h, _, rfl, .mk' rfl (.cons (hf.as 0 (.node tFun []) (by omega) rfl) (.cons (.ofAtom hnl1) (.cons (.ofAtom hnl2) (.cons (hf.as 3 (s.tree) (by omega) rfl) (.cons (hf.as 4 (u.tree) (by omega) rfl) (.cons (hr_0.mono hz) (.nil))))))) (fun y hy => by cases hy; exact still_set (xs := [_, _, _, _, _, _, _, _, _, _, _, _])) (by simp) hcc (by simp [maxN]) (by simp [maxN]), rfl⟩
  · skip
    refine i_lits 13 rfl rfl rfl rfl (by rfl) (by rfl) (by rfl) (by decide) (by decide) (by rfl) .free rfl (.inr heldx) ?_
    intro b126
    refine d_lits0 0 rfl (by kernel_rfl) rfl .free rfl (.inr heldx) ?_
    intro b113
    refine d_appendB 2 (B := some (b113, [])) (xs := []) (ys := f.map sv) (m := 0) (c := 0) rfl (by kernel_rfl) rfl (by intro kk; simp) (by rfl) rfl rfl ⟨rfl, Nat.le_refl _, rfl⟩ (by first | exact fun _ h => h | exact fun _ h => h.f1 | exact fun _ h => h.f2 | exact fun _ h => h.f3) (by simp) hfr.reads hfr.none (sv_plain f) (by decide) (by omega) (by decide) .free rfl (fun _ => .inr heldx) ?_
    intro B1 c1 hB1
    refine d_appendB 14 (B := B1) (xs := f.map sv) (ys := [sv h1, sv z]) (m := 0 + f.length) (c := c1) rfl (by kernel_rfl) rfl (by intro kk; simp) (by rfl) rfl rfl hB1 (by first | exact fun _ h => h | exact fun _ h => h.u1 | exact fun _ h => h.u2 | exact fun _ h => h.u3) (by rfl) (fun a ha => by cases ha; exact reads_ownL (by first | exact m0 | exact m1 | exact m2 | exact m3 | exact m4 | exact m5 | exact m6 | exact List.mem_append_right _ m0 | exact List.mem_append_right _ m1 | exact List.mem_append_right _ m2 | exact List.mem_append_right _ m3 | exact .tail _ (List.mem_append_right _ m0) | exact .tail _ (List.mem_append_right _ m1) | exact .tail _ (List.mem_append_right _ m2) | exact .tail _ (List.mem_append_right _ m3)) (by rfl)) (by simp) (by rfl) (by decide) (by omega) (by decide) .free rfl (fun _ => .inr heldx) ?_
    intro B2 c2 hB2
    rw [show f.map sv ++ [sv h1, sv z] = (f ++ [h1, z]).map sv by simp] at hB2 ⊢
    refine d_freezeStrs hB2 (by simp) (by simp [maxN]; omega) (by intro s hs; rcases List.mem_append.1 hs with hs | hs; exact hfr.each s hs; simp only [List.mem_cons, List.not_mem_nil, or_false] at hs; rcases hs with rfl | rfl; exact hhl; exact hzl) ?_
    intro J3 o3 k3 ez hbv hs3
    refine d_put (t := 127) rfl hbv ?_
    have hf := hf.mono ez
    have hfr := hfr.mono ez
    have hto := hto.mono ez
    have hav := hav.mono ez
    have hle := hle.trans ez
    refine d_takeA 15 rfl (by kernel_rfl) rfl (.inr heldx) (y_assign rfl) .free rfl ?_
    refine d_done (by kernel_rfl) ?_
    refine o_enter rfl ?_
    refine o_lits0 .free rfl ?_
    intro b128
    refine o_move rfl .free rfl ?_
    refine o_appendB (B := some (b128, [])) (xs := []) (ys := t.map sv) (m := 0) (c := 0) (by intro kk; simp) (by rfl) rfl rfl ⟨rfl, Nat.le_refl _, rfl⟩ (by first | exact fun _ h => h | exact fun _ h => h.f1 | exact fun _ h => h.f2 | exact fun _ h => h.f3) (by simp) hto.reads hto.none (sv_plain t) (by decide) (by omega) (by decide) .free rfl ?_
    intro B3 c3 hB3
    refine o_move rfl .free rfl ?_
    refine o_move rfl .free rfl ?_
    refine o_lits rfl rfl (by rfl) (by rfl) (by rfl) (by decide) (by decide) (by rfl) .free rfl ?_
    intro b133
    refine o_appendB (B := B3) (xs := t.map sv) (ys := [sv n1, sv n2]) (m := 0 + t.length) (c := c3) (by intro kk; simp) (by rfl) rfl rfl hB3 (by first | exact fun _ h => h | exact fun _ h => h.u1 | exact fun _ h => h.u2 | exact fun _ h => h.u3) (by rfl) (fun a ha => by cases ha; exact reads_ownL (by first | exact m0 | exact m1 | exact m2 | exact m3 | exact m4 | exact m5 | exact m6 | exact List.mem_append_right _ m0 | exact List.mem_append_right _ m1 | exact List.mem_append_right _ m2 | exact List.mem_append_right _ m3 | exact .tail _ (List.mem_append_right _ m0) | exact .tail _ (List.mem_append_right _ m1) | exact .tail _ (List.mem_append_right _ m2) | exact .tail _ (List.mem_append_right _ m3)) (by rfl)) (by simp) (by rfl) (by decide) (by omega) (by decide) .free rfl ?_
    intro B4 c4 hB4
    rw [show t.map sv ++ [sv n1, sv n2] = (t ++ [n1, n2]).map sv by simp] at hB4 ⊢
    refine o_assign rfl .free rfl ?_
    refine o_done ?_
    refine s_seq ?_
    refine s_seq ?_
    refine s_freezeStrs hB4 (by simp) (by simp [maxN]; omega) (by intro s hs; rcases List.mem_append.1 hs with hs | hs; exact hto.each s hs; simp only [List.mem_cons, List.not_mem_nil, or_false] at hs; rcases hs with rfl | rfl; exact hnl1; exact hnl2) ?_
    intro J4 o4 k4 ey hbv4 hs4
    refine s_put (t := 2) rfl hbv4 ?_
    refine s_mem (fun w h => h.drop.drop) ?_
    have hs3 := hs3.mono ey
    have hf := hf.mono ey
    have hfr := hfr.mono ey
    have hto := hto.mono ey
    have hav := hav.mono ey
    have hle := hle.trans ey
    refine o_enter rfl ?_
    refine o_move rfl .free rfl ?_
    refine o_assign rfl .free rfl ?_
    refine o_done ?_
    refine s_block ?_
    refine s_loop ?_
    refine s_seq ?_
    refine s_seq ?_
    refine o_enter rfl ?_
    refine o_move rfl .free rfl ?_
    refine o_move rfl .free rfl ?_
    refine o_cmp rfl rfl rfl .free rfl ?_
    refine o_done ?_
    refine s_condT rfl (by first | rfl | decide | (simp; done) | omega) ?_
    refine s_skip ?_
    refine s_seq ?_
    refine s_block ?_
    refine s_here fun hlr => ?_
    have hpl := b.pl_hits av (f ++ [h1, z]) (t ++ [n1, n2]) (fr 120 av (fr 120 av k + 1) + 1)
    refine d_tl 14 rfl rfl ?_
    refine d_takeA 0 rfl (by kernel_rfl) rfl (.inr heldx) (y_fieldAddr rfl) .free rfl ?_
    refine d_take 1 [13] rfl (by kernel_rfl) rfl heldx (y_lO1 rfl) .free rfl ?_
    refine d_takeA 2 rfl (by kernel_rfl) rfl (.inr heldx) (y_move rfl) .free rfl ?_
    refine d_takeA 3 rfl (by kernel_rfl) rfl (.inr heldx) (y_fieldAddr rfl) .free rfl ?_
    refine d_take 4 [13] rfl (by kernel_rfl) rfl heldx (y_lO1 rfl) .free rfl ?_
    refine d_takeA 5 rfl (by kernel_rfl) rfl (.inr heldx) (y_move rfl) .free rfl ?_
    first | refine d_takeA 6 rfl (by kernel_rfl) rfl (.inr heldx) (y_ixD rfl rfl _ rfl) .free rfl ?_ | refine d_takeA 6 rfl (by kernel_rfl) rfl (.inr heldx) (y_ixP rfl rfl _ rfl) .free rfl ?_
    refine d_take 7 [13] rfl (by kernel_rfl) rfl heldx (y_lIS rfl) .free rfl ?_
    refine d_takeA 8 rfl (by kernel_rfl) rfl (.inr heldx) (y_move rfl) .free rfl ?_
    refine d_takeA 9 rfl (by kernel_rfl) rfl (.inr heldx) (y_move rfl) .free rfl ?_
    refine d_takeA 10 rfl (by kernel_rfl) rfl (.inr heldx) (y_move rfl) .free rfl ?_
    refine d_call 11 rfl (by kernel_rfl) rfl rfl .free rfl (ihn (f := f ++ [h1, z]) (t := t ++ [n1, n2]) (by omega) (hf.as 5 b.tree (by omega) rfl) hok.2 hs3 hs4 (by simp [hft]) (by first | omega | (simp only [List.length_append, List.length_cons, List.length_nil]; omega)) hav bp _ (by omega) ha5 _) ?_
    rintro _ J2 _ e2 ⟨cs2, rfl, hr_0, rfl⟩
    obtain ⟨o2, k2, _, rfl, -⟩ := hr_0.open
    have hlr := hlr.trans e2
    have hf := hf.mono e2
    have hfr := hfr.mono e2
    have hto := hto.mono e2
    have hav := hav.mono e2
    have hle := hle.trans e2
    refine ⟨(.inr heldx), ?_⟩
    first | refine d_takeA 12 rfl (by kernel_rfl) rfl (.inr heldx) (y_ixD rfl rfl _ rfl) .free rfl ?_ | refine d_takeA 12 rfl (by kernel_rfl) rfl (.inr heldx) (y_ixP rfl rfl _ rfl) .free rfl ?_
    refine d_st 13 rfl (by kernel_rfl) rfl rfl rfl rfl rfl .free (.inl (by kernel_rfl)) ?_
    refine d_done (by kernel_rfl) ?_
    refine s_inBlock ?_
    refine o_enter rfl ?_
    refine o_move rfl .free rfl ?_
    refine o_arith rfl rfl rfl (by omega) .free rfl ?_
    refine o_assign rfl .free rfl ?_
    refine o_done ?_
    refine s_round ?_
    refine s_seq ?_
    refine s_seq ?_
    refine o_enter rfl ?_
    refine o_move rfl .free rfl ?_
    refine o_move rfl .free rfl ?_
    refine o_cmp rfl rfl rfl .free rfl ?_
    refine o_done ?_
    refine s_condF rfl (by first | rfl | decide | (simp; done) | omega) ?_
    refine s_exit rfl ?_
    refine s_seq ?_
    refine o_enter rfl ?_
    refine o_lOS rfl .free rfl ?_
    refine o_st rfl rfl rfl rfl .free ?_
    refine o_done ?_
    refine s_mem (fun w h => h.f2) (s_freeze ?_)
    intro hz
    have hf := hf.mono hz
    refine s_ret (.c rfl .nil) ?_
    subst hn1e hn2e
    exact ⟨_, _, hle.trans hz, fun w h => Mem.sub (L' := rn bp ov av cv _ :: L) (by repeat (first | exact List.Sublist.refl _ | apply List.Sublist.cons_cons | apply List.Sublist.cons)) h, _, rfl, .mk' rfl (.cons (hf.as 0 (.node tFun []) (by omega) rfl) (.cons (.ofAtom hnl1) (.cons (.ofAtom hnl2) (.cons (hf.as 3 (s.tree) (by omega) rfl) (.cons (hf.as 4 (u.tree) (by omega) rfl) (.cons (hr_0.mono hz) (.nil))))))) (fun y hy => by cases hy; exact still_set (xs := [_, _, _, _, _, _, _, _, _, _, _, _])) (by simp) hcc (by simp [maxN]) (by simp [maxN]), rfl⟩
set_option maxHeartbeats 2000000 in
theorem plain_un {n : Nat} (ihn : PlainH n) {o : U2} {a : Ex} {I : Heap} {cs : List Value} (hlt : SizeOf.sizeOf (Ex.un o a) < n + 1) (h : Rep I (Ex.un o a).tree cs) (hok : (Ex.un o a).ok = true) {f t : List Txt} {of ot : Option Addr} {cf ct : Nat} (hfr : Strs I of f cf) (hto : Strs I ot t ct) (hft : f.length = t.length) (hfl : f.length + 2 * (Ex.un o a).size ≤ 100000)
    {ov : Option Addr} {av : List Txt} {cv : Nat} (hav : Strs I ov av cv) (bp k : Nat) (hk : k + (Ex.un o a).nb + av.length ≤ 90 + hits 120 av k) (ha5 : av.length ≤ 500) (L : Own) :
    Fun Tryz.prog 84 [.agg cs.toArray, .slice of f.length cf, .slice ot t.length ct, .pointer (some ⟨bp, 0, none⟩)] I (rn bp ov av cv k :: L) (PR bp ov av cv ((Ex.un o a).pl av f t k) L) := by
  obtain ⟨oa, c, oaf, cf1, rfl, hf, hcl, hcs⟩ := h.cells
  have hle : HLe I I := .refl _
  have ha := hf.alen
  have hh0 := hits_le 120 av k
  refine fun_intro (by simp) ?_
  refine s_seq ?_
  refine o_enter rfl ?_
  refine o_box rfl rfl .free rfl ?_
  intro b4
  refine o_alloc .free rfl ?_
  intro b8
  refine o_done ?_
  refine s_seq ?_
  refine s_seq ?_
  refine o_enter rfl ?_
  refine o_fieldAddr rfl .free rfl ?_
  refine o_lO1 rfl .free rfl ?_
  refine o_cmps rfl rfl rfl .free rfl ?_
  refine o_done ?_
  first | refine s_fp rfl (by simp [Ex.tree, Tree.atom]) ?_ | refine s_fn rfl (by simp [Ex.tree, Tree.atom]) ?_ | refine s_false (by simp [look, opd, *]) ?_
  refine s_skip ?_
  refine s_seq ?_
  have hok0 := hok
  have hb : (Ex.un o a).bare = false := rfl
  have hpos : 0 < (Ex.un o a).tree.parts.length := by
    rw [Ex.bare_parts] at hb
    have : (Ex.un o a).tree.parts ≠ [] := by intro hh; rw [hh] at hb; cases hb
    exact List.length_pos_iff.2 this
  have hhd := head_at hpos
  obtain ⟨xa, rfl⟩ : ∃ xa, oa = some xa := ⟨_, some_oad hf.nil hpos⟩
  have hp := hf.len
  unfold maxN at hp
  refine o_enter rfl ?_
  refine o_lits0 .free rfl ?_
  intro b29
  refine o_fieldAddr rfl .free rfl ?_
  refine o_lO1 rfl .free rfl ?_
  refine o_append (B := some (b29, [])) (xs := []) (ys := cellsF oaf cf1 0 (Ex.un o a).tree.parts) (m := 0) (c := 0) (by intro kk; simp) (by rfl) rfl rfl ⟨rfl, Nat.le_refl _, rfl⟩ (fun _ h => h) (by have := hcl.length; omega) (fun a ha => by cases ha; exact (hcs _ rfl).reads) (by simp) hcl.plain hpos (by decide) (by omega) (by decide) .free rfl ?_
  intro bc sp cc hB'
  have hcc : (Ex.un o a).tree.parts.length ≤ cc := by have := hB'.2.1; omega
  refine o_put (t := 32) (v' := .slice (some ⟨bc, 0, none⟩) (Ex.un o a).tree.parts.length cc) rfl (by rw [Nat.zero_add]) ?_
  simp only [List.nil_append]
  refine o_struct rfl rfl rfl .free rfl ?_
  refine o_alloc .free rfl ?_
  intro b9
  refine o_st rfl rfl rfl rfl .free ?_
  refine o_done ?_
  refine s_seq ?_
  refine o_enter rfl ?_
  refine o_fieldAddr rfl .free rfl ?_
  refine o_lO1 rfl .free rfl ?_
  first | refine o_ixD rfl rfl 0 rfl .free rfl ?_ | refine o_ixP rfl rfl 0 rfl .free rfl ?_
  refine o_fieldAddr' rfl .free rfl ?_
  refine o_lIF rfl .free rfl ?_
  refine o_call rfl .free rfl (g_l2Kids ((Ex.un o a).tree.pt 0).atom _ _) ?_
  rw [← hhd]; rintro _ _ _ _ ⟨rfl, rfl, rfl⟩
  refine o_move rfl .free rfl ?_
  refine o_extract rfl rfl .free rfl ?_
  refine o_extract rfl rfl .free rfl ?_
  refine o_assign rfl .free rfl ?_
  refine o_assign rfl .free rfl ?_
  refine o_done ?_
  refine s_seq ?_
  refine s_seq ?_
  have hkr : kidRange (Ex.un o a).tree.head = (1, 2) := by cases o <;> rfl
  rw [hkr]
  have hlen : (Ex.un o a).tree.parts.length = 2 := rfl
  have hki := kids_un o a
  have hp0 : ((Ex.un o a).tree.pt 0).atom = o.txt := rfl
  simp only [Ex.un.sizeOf_spec] at hlt
  simp only [Ex.ok, Bool.and_eq_true, decide_eq_true_eq] at hok
  simp only [Ex.nb] at hk
  simp only [Ex.size] at hfl
  simp only [show (Ex.un o a).tree.parts = [.node o.txt [], a.tree] from rfl, cellsF, List.cons_append, List.nil_append]
  refine s_mem (fun w h => h.f4) ?_
  refine o_enter rfl ?_
  refine o_fieldAddr rfl .free rfl ?_
  refine o_lO1 rfl .free rfl ?_
  first | refine o_ixD rfl rfl 0 rfl .free rfl ?_ | refine o_ixP rfl rfl 0 rfl .free rfl ?_
  refine o_fieldAddr' rfl .free rfl ?_
  refine o_lIF rfl .free rfl ?_
  refine o_cmps rfl rfl rfl .free rfl ?_
  refine o_done ?_
  first | refine s_fp rfl (by rw [hp0]; cases o <;> decide) ?_ | refine s_fn rfl (by rw [hp0]; cases o <;> decide) ?_ | refine s_false (by simp [look, opd, *]) ?_
  refine s_skip ?_
  refine s_seq ?_
  refine s_seq ?_
  refine o_enter rfl ?_
  refine o_fieldAddr rfl .free rfl ?_
  refine o_lO1 rfl .free rfl ?_
  first | refine o_ixD rfl rfl 0 rfl .free rfl ?_ | refine o_ixP rfl rfl 0 rfl .free rfl ?_
  refine o_fieldAddr' rfl .free rfl ?_
  refine o_lIF rfl .free rfl ?_
  refine o_cmps rfl rfl rfl .free rfl ?_
  refine o_done ?_
  first | refine s_fp rfl (by rw [hp0]; cases o <;> decide) ?_ | refine s_fn rfl (by rw [hp0]; cases o <;> decide) ?_ | refine s_false (by simp [look, opd, *]) ?_
  refine s_skip ?_
  refine s_seq ?_
  refine s_seq ?_
  refine o_enter rfl ?_
  refine o_move rfl .free rfl ?_
  refine o_assign rfl .free rfl ?_
  refine o_done ?_
  refine s_block ?_
  refine s_loop ?_
  refine s_seq ?_
  refine s_seq ?_
  refine o_enter rfl ?_
  refine o_move rfl .free rfl ?_
  refine o_move rfl .free rfl ?_
  refine o_cmp rfl rfl rfl .free rfl ?_
  refine o_done ?_
  refine s_condT rfl (by first | rfl | decide | (simp; done) | omega) ?_
  refine s_skip ?_
  refine s_seq ?_
  refine s_block ?_
  refine s_here fun hlr => ?_
  have hpl := a.pl_hits av (f) (t) k
  refine d_tl 14 rfl rfl ?_
  refine d_takeA 0 rfl (by kernel_rfl) rfl (.inr heldx) (y_fieldAddr rfl) .free rfl ?_
  refine d_take 1 [13] rfl (by kernel_rfl) rfl heldx (y_lO1 rfl) .free rfl ?_
  refine d_takeA 2 rfl (by kernel_rfl) rfl (.inr heldx) (y_move rfl) .free rfl ?_
  refine d_takeA 3 rfl (by kernel_rfl) rfl (.inr heldx) (y_fieldAddr rfl) .free rfl ?_
  refine d_take 4 [13] rfl (by kernel_rfl) rfl heldx (y_lO1 rfl) .free rfl ?_
  refine d_takeA 5 rfl (by kernel_rfl) rfl (.inr heldx) (y_move rfl) .free rfl ?_
  first | refine d_takeA 6 rfl (by kernel_rfl) rfl (.inr heldx) (y_ixD rfl rfl _ rfl) .free rfl ?_ | refine d_takeA 6 rfl (by kernel_rfl) rfl (.inr heldx) (y_ixP rfl rfl _ rfl) .free rfl ?_
  refine d_take 7 [13] rfl (by kernel_rfl) rfl heldx (y_lIS rfl) .free rfl ?_
  refine d_takeA 8 rfl (by kernel_rfl) rfl (.inr heldx) (y_move rfl) .free rfl ?_
  refine d_takeA 9 rfl (by kernel_rfl) rfl (.inr heldx) (y_move rfl) .free rfl ?_
  refine d_takeA 10 rfl (by kernel_rfl) rfl (.inr heldx) (y_move rfl) .free rfl ?_
  refine d_call 11 rfl (by kernel_rfl) rfl rfl .free rfl (ihn (f := f) (t := t) (by omega) (hf.as 1 a.tree (by omega) rfl) hok hfr hto (by simp [hft]) (by first | omega | (simp only [List.length_append, List.length_cons, List.length_nil]; omega)) hav bp _ (by omega) ha5 _) ?_
  rintro _ J2 _ e2 ⟨cs2, rfl, hr_0, rfl⟩
  obtain ⟨o2, k2, _, rfl, -⟩ := hr_0.open
  have hlr := hlr.trans e2
  have hf := hf.mono e2
  have hfr := hfr.mono e2
  have hto := hto.mono e2
  have hav := hav.mono e2
  have hle := hle.trans e2
  refine ⟨(.inr heldx), ?_⟩
  first | refine d_takeA 12 rfl (by kernel_rfl) rfl (.inr heldx) (y_ixD rfl rfl _ rfl) .free rfl ?_ | refine d_takeA 12 rfl (by kernel_rfl) rfl (.inr heldx) (y_ixP rfl rfl _ rfl) .free rfl ?_
  refine d_st 13 rfl (by kernel_rfl) rfl rfl rfl rfl rfl .free (.inl (by kernel_rfl)) ?_
  refine d_done (by kernel_rfl) ?_
  refine s_inBlock ?_
  refine o_enter rfl ?_
  refine o_move rfl .free rfl ?_
  refine o_arith rfl rfl rfl (by omega) .free rfl ?_
  refine o_assign rfl .free rfl ?_
  refine o_done ?_
  refine s_round ?_
  refine s_seq ?_
  refine s_seq ?_
  refine o_enter rfl ?_
  refine o_move rfl .free rfl ?_
  refine o_move rfl .free rfl ?_
  refine o_cmp rfl rfl rfl .free rfl ?_
  refine o_done ?_
  refine s_condF rfl (by first | rfl | decide | (simp; done) | omega) ?_
  refine s_exit rfl ?_
  refine s_seq ?_
  refine o_enter rfl ?_
  refine o_lOS rfl .free rfl ?_
  refine o_st rfl rfl rfl rfl .free ?_
  refine o_done ?_
  refine s_mem (fun w h => h.f2) (s_freeze ?_)
  intro hz
  have hf := hf.mono hz
  refine s_ret (.c rfl .nil) ?_
  exact ⟨_, _, hle.trans hz, fun w h => Mem.sub (L' := rn bp ov av cv _ :: L) (by repeat (first | exact List.Sublist.refl _ | apply List.Sublist.cons_cons | apply List.Sublist.cons)) h, _, rfl, .mk' rfl (.cons (hf.as 0 (.node o.txt []) (by omega) rfl) (.cons (hr_0.mono hz) (.nil))) (fun y hy => by cases hy; exact still_set (xs := [_, _, _, _])) (by simp) hcc (by simp [maxN]) (by simp [maxN]), rfl⟩
set_option maxHeartbeats 2000000 in
theorem plain_atom {e : Ex} {I : Heap} {cs : List Value} (hb : e.bare = true) (h : Rep I e.tree cs) (hok : e.ok = true) {f t : List Txt} {of ot : Option Addr} {cf ct : Nat} (hfr : Strs I of f cf) (hto : Strs I ot t ct) (hft : f.length = t.length)
    {ov : Option Addr} {av : List Txt} {cv : Nat} (hav : Strs I ov av cv) (bp k : Nat) (L : Own) :
    Fun Tryz.prog 84 [.agg cs.toArray, .slice of f.length cf, .slice ot t.length ct, .pointer (some ⟨bp, 0, none⟩)] I (rn bp ov av cv k :: L) (PR bp ov av cv (e.pl av f t k) L) := by
  obtain ⟨oa, c, oaf, cf1, rfl, hf, hcl, hcs⟩ := h.cells
  have hle : HLe I I := .refl _
  have ha := hf.alen
  have hh0 := hits_le 120 av k
  refine fun_intro (by simp) ?_
  refine s_seq ?_
  refine o_enter rfl ?_
  refine o_box rfl rfl .free rfl ?_
  intro b4
  refine o_alloc .free rfl ?_
  intro b8
  refine o_done ?_
  refine s_seq ?_
  refine s_seq ?_
  refine o_enter rfl ?_
  refine o_fieldAddr rfl .free rfl ?_
  refine o_lO1 rfl .free rfl ?_
  refine o_cmps rfl rfl rfl .free rfl ?_
  refine o_done ?_
  first | refine s_tp rfl (by exact fun h2 => by have h3 := (Ex.atom_iff hok).1 h2; rw [hb] at h3; cases h3) ?_ | refine s_tn rfl (by exact fun h2 => by have h3 := (Ex.atom_iff hok).1 h2; rw [hb] at h3; cases h3) ?_ | refine s_true (by simp [look, opd, *]) ?_
  refine s_seq ?_
  refine s_seq ?_
  refine o_enter rfl ?_
  refine o_fieldAddr rfl .free rfl ?_
  refine o_lO1 rfl .free rfl ?_
  refine o_call rfl .free rfl (g_l2Name e.tree.atom ha _ _) ?_
  rintro _ _ _ _ ⟨rfl, rfl, rfl⟩
  refine o_done ?_
  refine s_cond rfl ?_ ?_
  · intro c1
    try simp only [nb] at c1
    refine s_seq ?_
    refine o_enter rfl ?_
    refine o_move rfl .free rfl ?_
    refine o_move rfl .free rfl ?_
    refine o_fieldAddr rfl .free rfl ?_
    refine o_lO1 rfl .free rfl ?_
    refine o_call rfl .free rfl (g_l2Look hfr hto hft e.tree.atom _) ?_
    rintro _ _ _ _ ⟨rfl, rfl, rfl⟩
    refine o_call rfl .free rfl (g_l1Atom (lookOr f t e.tree.atom) _ _) ?_
    rintro _ _ _ _ ⟨rfl, rfl, rfl⟩
    refine o_st rfl rfl rfl rfl .free ?_
    refine o_done ?_
    refine s_ret (.c rfl .nil) ?_
    cases e with
    | name s =>
      refine ⟨I, _, .refl _, fun w h => Mem.sub (L' := rn bp ov av cv k :: L) (by repeat (first | exact List.Sublist.refl _ | apply List.Sublist.cons_cons | apply List.Sublist.cons)) h, _, rfl, .ofAtom ?_, rfl⟩
      show (match lastIdx f s with | some i => t.getD i [] | none => s).length ≤ maxN
      cases hi : lastIdx f s with
      | none => exact ha
      | some i =>
        have hil := (lastAt_lt (show lastAt f s f.length = some i from hi)).1
        have hit : i < t.length := by omega
        show (t.getD i []).length ≤ maxN
        rw [show t.getD i [] = t[i] by simp [hit]]; exact hto.each _ (List.getElem_mem _)
    | num s =>
      have h1 := name_not_num (show isName s = true from c1)
      rw [show isNum s = true from hok] at h1; cases h1
    | _ => cases hb
  intro c1
  try simp only [nb] at c1
  refine s_skip ?_
  refine s_seq ?_
  refine o_enter rfl ?_
  refine o_lOS rfl .free rfl ?_
  refine o_st rfl rfl rfl rfl .free ?_
  refine o_done ?_
  refine s_ret (.c rfl .nil) ?_
  cases e with
  | num s => exact ⟨I, _, .refl _, fun w h => Mem.sub (L' := rn bp ov av cv k :: L) (by repeat (first | exact List.Sublist.refl _ | apply List.Sublist.cons_cons | apply List.Sublist.cons)) h, _, rfl, hf.rep, rfl⟩
  | name s => rw [show isName (Ex.name s).tree.atom = true from hok] at c1; cases c1
  | _ => cases hb
theorem g_l2Plain_all : ∀ n : Nat, PlainH n := by
  intro n
  induction n with
  | zero => intro I e cs h; omega
  | succ n ihn =>
    intro I e cs hlt h hok f t of ot cf ct hfr hto hft hfl ov av cv hav bp k hk ha5 L
    cases hb : e.bare with
    | true => exact plain_atom hb h hok hfr hto hft hav bp k L
    | false =>
      cases e with
      | num s => cases hb
      | name s => cases hb
      | bin o a b => exact plain_bin ihn hlt h hok hfr hto hft hfl hav bp k hk ha5 L
      | ite a b d => exact plain_ite ihn hlt h hok hfr hto hft hfl hav bp k hk ha5 L
      | lt z a b => exact plain_lt ihn hlt h hok hfr hto hft hfl hav bp k hk ha5 L
      | fn h1 z s u b => exact plain_fn ihn hlt h hok hfr hto hft hfl hav bp k hk ha5 L
      | un o a => exact plain_un ihn hlt h hok hfr hto hft hfl hav bp k hk ha5 L
theorem g_l2Plain (n : Nat) {I : Heap} {e : Ex} {cs : List Value} (h1 : SizeOf.sizeOf e < n) (h2 : Rep I e.tree cs) (h3 : e.ok = true) {f t : List Txt} {of ot : Option Addr} {cf ct : Nat} (h4 : Strs I of f cf) (h5 : Strs I ot t ct) (h6 : f.length = t.length) (h7 : f.length + 2 * e.size ≤ 100000)
    {oa : Option Addr} {av : List Txt} {c : Nat} (h8 : Strs I oa av c) (b k : Nat) (h9 : k + e.nb + av.length ≤ 90 + hits 120 av k) (h10 : av.length ≤ 500) (L : Own) :
    Fun Tryz.prog 84 [.agg cs.toArray, .slice of f.length cf, .slice ot t.length ct, .pointer (some ⟨b, 0, none⟩)] I (rn b oa av c k :: L) (PR b oa av c (e.pl av f t k) L) :=
  g_l2Plain_all n h1 h2 h3 h4 h5 h6 h7 h8 b k h9 h10 L
end Go.Proofs.YtdnmhgiaebbppaaGreat


/- 'ExprPut', by the program and by the reference. No conditions. -/
namespace Go.Proofs.YtdnmhgiaebbppaaGreat
set_option maxRecDepth 100000
set_option linter.unusedVariables false
set_option linter.unusedSimpArgs false

/-- What 'ExprPut' returns. -/
def putOf (s nm by' : Txt) : Option Txt := match exOf s, closedOf by' with
  | some e, some v => if isName nm = true ∧ (e.put nm v).fine = true then some (e.put nm v).tree.text else none
  | _, _ => none
end Go.Proofs.YtdnmhgiaebbppaaGreat


/- 'ExprPlain', by the reference. No conditions. -/
namespace Go.Proofs.YtdnmhgiaebbppaaGreat
set_option maxRecDepth 100000
set_option linter.unusedVariables false
set_option linter.unusedSimpArgs false

/-- A buffer of texts that is written no more, within a region. -/
theorem o_freezeStrs {P : Program} {f : FuncId} {n : Nat} {I₀ : Heap} {Q : Post} {k : List Item} {E : Env} {I : Heap} {L : Own} {ops : Array Oper} {ol : List Oper} {e : TypeId} {l : List Txt} {B : Buf} {m c : Nat}
    (hB : BufOk 1 m c (l.map sv) B) (hm : m = l.length) (hlen : l.length ≤ maxN) (hs : ∀ s ∈ l, s.length ≤ maxN)
    (h : ∀ I' oa c', HLe I I' → bufVal m c B = .slice oa l.length c' → Strs I' oa l c' → RunO P f n I₀ Q ops ol k E I' L) : RunO P f n I₀ Q ops ol k E I (bufOwn e (l.map sv) B ++ L) := by
  cases B with
  | none =>
    obtain ⟨h1, h2, h3⟩ := hB
    obtain rfl : l = [] := by simpa using h1
    exact h I .none 0 (.refl _) rfl ⟨by simp, by simp, by simp, hlen, hs⟩
  | some p =>
    obtain ⟨b, sp⟩ := p
    refine o_freeze fun hle => h _ (some ⟨b, 0, .none⟩) c hle (by rw [← hm]; rfl) ⟨fun y hy => ?_, by simp, by have := hB.2.1; omega, hlen, hs⟩
    cases hy; exact still_set
/-- The reference's plain one. -/
theorem g_l2Plainly {I : Heap} {e : Ex} {cs : List Value} (h : Rep I e.tree cs) (hfine : e.fine = true) (L : Own) : Fun Tryz.prog 67 [.agg cs.toArray] I L (fun v I' L' => ∃ ds, v = .tuple #[.agg (List.toArray ds), .bool true] ∧ Rep I' e.plain.tree ds ∧ L = L') := by
  obtain ⟨oa, c, oaf, cf, rfl, hf⟩ := h.at'
  have hf2 := hfine
  simp only [Ex.fine, Bool.and_eq_true, decide_eq_true_eq, Tree.fits] at hf2
  have hroom := plain_room hf2.1.2
  have hph := e.pl_hits e.free [] [] 0
  have hh0 : hits 120 e.free 0 = 0 := rfl
  have hh1 := hits_le 120 e.free (e.pl e.free [] [] 0).2
  refine fun_intro (by simp) ?_
  refine s_seq ?_
  refine o_enter rfl ?_
  refine o_box rfl rfl .free rfl ?_
  intro b1
  refine o_alloc .free rfl ?_
  intro b2
  refine o_assign rfl .free rfl ?_
  refine o_done ?_
  refine s_seq ?_
  refine o_enter rfl ?_
  refine o_lOS rfl .free rfl ?_
  refine o_lits0 .free rfl ?_
  intro b7
  refine o_lits0 .free rfl ?_
  intro b8
  refine o_mem (L' := bufOwn 9 (([] : List Txt).map sv) (some (b8, [])) ++ _) (fun w h => h) ?_
  refine o_call rfl .free rfl (g_l2Free _ (Nat.lt_succ_self _) hf.rep hf2.1.1 (strs_empty _ _) (by unfold maxN; simp; omega) [] (some (b8, [])) 0 (by simp; omega) ⟨rfl, Nat.le_refl _, rfl⟩ _) ?_
  rintro _ J1 _ e1 ⟨B, cB, rfl, hB, rfl⟩
  have hll := addAll_len [] (e.occ [])
  have hol := e.occ_len []
  simp only [List.length_nil, Nat.zero_add] at hll
  have hnm : ∀ z ∈ addAll [] (e.occ []), isName z = true := fun z hz => Ex.occ_name hf2.1.1 z (by simpa [addAll_mem] using hz)
  refine o_freezeStrs hB rfl (by unfold maxN; omega) (names_strs hnm) ?_
  intro J2 ov cv ez hbv hav
  refine o_put (t := 9) rfl hbv ?_
  have hav : Strs J2 ov e.free cv := hav
  have hf := (hf.mono e1).mono ez
  have hle := e1.trans ez
  refine o_struct rfl rfl rfl .free rfl ?_
  refine o_box rfl rfl .free rfl ?_
  intro b11
  refine o_assign rfl .free rfl ?_
  refine o_done ?_
  refine s_seq ?_
  refine o_enter rfl ?_
  refine o_lOS rfl .free rfl ?_
  refine o_lits0 .free rfl ?_
  intro b13
  refine o_lits0 .free rfl ?_
  intro b14
  refine o_move rfl .free rfl ?_
  refine o_mem (L' := rn b11 ov e.free cv 0 :: _) (fun w h => h.f2) ?_
  refine o_call rfl .free rfl (g_l2Plain _ (Nat.lt_succ_self _) hf.rep hf2.1.1 (strs_empty _ _) (strs_empty _ _) rfl (by simp; omega) hav b11 0 (by omega) (by omega) _) ?_
  rintro _ J3 _ e3 ⟨ds, rfl, hr, rfl⟩
  have hr : Rep J3 e.plain.tree ds := hr
  obtain ⟨od, cd, _, rfl, -⟩ := hr.open
  have hle := hle.trans e3
  unfold rn
  refine o_alloc .free rfl ?_
  intro b5
  refine o_st rfl rfl rfl rfl .free ?_
  refine o_done ?_
  refine s_seq ?_
  refine d_all 8 rfl rfl ?_
  refine d_take 0 [6] rfl (by kernel_rfl) rfl heldx (y_lOS rfl) .free rfl ?_
  refine d_takeA 1 rfl (by kernel_rfl) rfl (.inr heldx) (y_move rfl) .free rfl ?_
  refine d_takeA 2 rfl (by kernel_rfl) rfl (.inr heldx) (y_nilCheck rfl) .free rfl ?_
  first | refine d_takeA 3 rfl (by kernel_rfl) rfl (.inr heldx) (y_fieldAddr rfl) .free rfl ?_ | refine d_takeA 3 rfl (by kernel_rfl) rfl (.inr heldx) (y_fieldAddr' rfl) .free rfl ?_
  refine d_two 4 6 (by kernel_rfl) ?_ ?_
  · skip
    refine i_yld 4 rfl rfl (y_lJ rfl) .free rfl (.inr heldx) ?_
    refine d_takeA 5 rfl (by kernel_rfl) rfl (.inr heldx) (y_cmp rfl rfl rfl) .free rfl ?_
    refine d_st 6 rfl (by kernel_rfl) rfl rfl rfl rfl rfl .free (.inl (by kernel_rfl)) ?_
    refine d_takeA 7 rfl (by kernel_rfl) rfl (.inl (by kernel_rfl)) (y_assign rfl) .free rfl ?_
    refine d_done (by kernel_rfl) ?_
    refine s_ret (.c rfl (.tmp rfl .nil)) ?_
    refine ⟨J3, L, hle, drops, _, ?_, hr, rfl⟩
    simp [retOne]; omega
  · skip
    refine i_st 6 rfl rfl rfl rfl rfl rfl .free (.inl (by kernel_rfl)) ?_
    refine d_yld 4 rfl (by kernel_rfl) rfl (y_lJ rfl) .free rfl (.inl (by kernel_rfl)) ?_
    refine d_takeA 5 rfl (by kernel_rfl) rfl (.inl (by kernel_rfl)) (y_cmp rfl rfl rfl) .free rfl ?_
    refine d_takeA 7 rfl (by kernel_rfl) rfl (.inl (by kernel_rfl)) (y_assign rfl) .free rfl ?_
    refine d_done (by kernel_rfl) ?_
    refine s_ret (.c rfl (.tmp rfl .nil)) ?_
    refine ⟨J3, L, hle, drops, _, ?_, hr, rfl⟩
    simp [retOne]; omega
end Go.Proofs.YtdnmhgiaebbppaaGreat


/- Normal forms as plain data: what making an expression normal gives. No conditions. -/
namespace Go.Proofs.YtdnmhgiaebbppaaGreat
set_option maxRecDepth 100000
set_option linter.unusedVariables false
set_option linter.unusedSimpArgs false

/-- What makes an expression simple gives: the expression, the bindings ahead of it, the next number, how many names were given. -/
structure MK where
  e : Ex
  ns : List (Txt × Ex)
  n : Nat
  g : Nat
def MK.pt (tk : List Txt) (p : MK) : MK := if p.e.bare = true then p else ⟨.name (nm 121 (fr 121 tk p.n)), p.ns ++ [(nm 121 (fr 121 tk p.n), p.e)], fr 121 tk p.n + 1, p.g + 1⟩
def MK.all (p : MK) : Ex := lets p.ns p.e
def Ex.mk (tk : List Txt) : Ex → Nat → MK
  | .num s, n => ⟨.num s, [], n, 0⟩
  | .name s, n => ⟨.name s, [], n, 0⟩
  | .lt x a b, n => let p := a.mk tk n; let q := b.mk tk p.n; ⟨q.e, p.ns ++ (x, p.e) :: q.ns, q.n, p.g + q.g⟩
  | .fn f x s t b, n => let p := b.mk tk n; ⟨.fn f x s t p.all, [], p.n, p.g⟩
  | .ite a b c, n => let p := (a.mk tk n).pt tk; let q := b.mk tk p.n; let r := c.mk tk q.n; ⟨.ite p.e q.all r.all, p.ns, r.n, p.g + q.g + r.g⟩
  | .bin o a b, n => let p := (a.mk tk n).pt tk; let q := (b.mk tk p.n).pt tk; ⟨.bin o p.e q.e, p.ns ++ q.ns, q.n, p.g + q.g⟩
  | .un o a, n => let p := (a.mk tk n).pt tk; ⟨.un o p.e, p.ns, p.n, p.g⟩
def nsz : List (Txt × Ex) → Nat
  | [] => 0
  | p :: ps => 2 + p.2.size + nsz ps
theorem nsz_app : ∀ (a b : List (Txt × Ex)), nsz (a ++ b) = nsz a + nsz b
  | [], b => by simp [nsz]
  | p :: a, b => by simp only [List.cons_append, nsz, nsz_app a b]; omega
theorem letsN_size : ∀ (l : List (Txt × Ex)) (e : Ex), (lets l e).size = nsz l + e.size
  | [], e => by simp [lets, nsz]
  | p :: l, e => by simp only [lets, Ex.size, letsN_size l e, nsz]; omega
theorem MK.all_size (p : MK) : p.all.size = nsz p.ns + p.e.size := letsN_size _ _
theorem MK.pt_size (tk : List Txt) (p : MK) {s : Nat} (h : nsz p.ns + p.e.size = s + 3 * p.g) : nsz (p.pt tk).ns + (p.pt tk).e.size = s + 3 * (p.pt tk).g := by
  unfold MK.pt
  split
  · exact h
  · simp only [nsz_app, nsz, Ex.size]; omega
/-- Each name given costs three atoms. -/
theorem Ex.mk_size (tk : List Txt) : ∀ (e : Ex) (n : Nat), nsz (e.mk tk n).ns + (e.mk tk n).e.size = e.size + 3 * (e.mk tk n).g
  | .num s, n => by simp [Ex.mk, nsz, Ex.size]
  | .name s, n => by simp [Ex.mk, nsz, Ex.size]
  | .lt x a b, n => by
    have h1 := a.mk_size tk n; have h2 := b.mk_size tk (a.mk tk n).n
    simp only [Ex.mk, nsz_app, nsz, Ex.size]; omega
  | .fn f x s t b, n => by
    have h1 := b.mk_size tk n
    simp only [Ex.mk, nsz, Ex.size, MK.all_size]; omega
  | .ite a b c, n => by
    have h1 := MK.pt_size tk _ (a.mk_size tk n)
    have h2 := b.mk_size tk ((a.mk tk n).pt tk).n
    have h3 := c.mk_size tk (b.mk tk ((a.mk tk n).pt tk).n).n
    simp only [Ex.mk, Ex.size, MK.all_size]; omega
  | .bin o a b, n => by
    have h1 := MK.pt_size tk _ (a.mk_size tk n)
    have h2 := MK.pt_size tk _ (b.mk_size tk ((a.mk tk n).pt tk).n)
    simp only [Ex.mk, nsz_app, Ex.size]; omega
  | .un o a, n => by
    have h1 := MK.pt_size tk _ (a.mk_size tk n)
    simp only [Ex.mk, Ex.size]; omega
theorem MK.pt_hits (tk : List Txt) (p : MK) {n : Nat} (h : n ≤ p.n ∧ p.n + hits 121 tk n = n + p.g + hits 121 tk p.n) : n ≤ (p.pt tk).n ∧ (p.pt tk).n + hits 121 tk n = n + (p.pt tk).g + hits 121 tk (p.pt tk).n := by
  unfold MK.pt
  split
  · exact h
  · have h1 := fr_hits_succ 121 tk p.n
    have h2 := (fr_facts 121 tk p.n).2.1
    simp only; omega
theorem Ex.mk_hits (tk : List Txt) : ∀ (e : Ex) (n : Nat), n ≤ (e.mk tk n).n ∧ (e.mk tk n).n + hits 121 tk n = n + (e.mk tk n).g + hits 121 tk (e.mk tk n).n
  | .num s, n => ⟨Nat.le_refl _, by simp [Ex.mk]⟩
  | .name s, n => ⟨Nat.le_refl _, by simp [Ex.mk]⟩
  | .lt x a b, n => by
    have h1 := a.mk_hits tk n; have h2 := b.mk_hits tk (a.mk tk n).n
    simp only [Ex.mk]; omega
  | .fn f x s t b, n => by
    have h1 := b.mk_hits tk n
    simp only [Ex.mk]; omega
  | .ite a b c, n => by
    have h1 := MK.pt_hits tk _ (a.mk_hits tk n)
    have h2 := b.mk_hits tk ((a.mk tk n).pt tk).n
    have h3 := c.mk_hits tk (b.mk tk ((a.mk tk n).pt tk).n).n
    simp only [Ex.mk]; omega
  | .bin o a b, n => by
    have h1 := MK.pt_hits tk _ (a.mk_hits tk n)
    have h2 := MK.pt_hits tk _ (b.mk_hits tk ((a.mk tk n).pt tk).n)
    simp only [Ex.mk]; omega
  | .un o a, n => by
    have h1 := MK.pt_hits tk _ (a.mk_hits tk n)
    simp only [Ex.mk]; omega
theorem MK.pt_g (tk : List Txt) (p : MK) {s : Nat} (h : p.g + 1 ≤ s) (hb : p.e.bare = false → p.g + 2 ≤ s) : (p.pt tk).g + 1 ≤ s := by
  unfold MK.pt
  split
  · exact h
  · rename_i hx; simp only; have := hb (by simpa using hx); omega
/-- Fewer names are given than there are atoms. -/
theorem Ex.mk_g (tk : List Txt) : ∀ (e : Ex) (n : Nat), (e.mk tk n).g + 1 ≤ e.size ∧ ((e.mk tk n).e.bare = false → (e.mk tk n).g + 2 ≤ e.size)
  | .num s, n => ⟨Nat.le_refl _, fun h => by cases h⟩
  | .name s, n => ⟨Nat.le_refl _, fun h => by cases h⟩
  | .lt x a b, n => by
    have h1 := a.mk_g tk n; have h2 := b.mk_g tk (a.mk tk n).n
    simp only [Ex.mk, Ex.size]; omega
  | .fn f x s t b, n => by
    have h1 := b.mk_g tk n; have := s.size_pos
    simp only [Ex.mk, Ex.size]; omega
  | .ite a b c, n => by
    have h0 := a.mk_g tk n
    have h1 := MK.pt_g tk _ h0.1 h0.2
    have h2 := b.mk_g tk ((a.mk tk n).pt tk).n
    have h3 := c.mk_g tk (b.mk tk ((a.mk tk n).pt tk).n).n
    simp only [Ex.mk, Ex.size]; omega
  | .bin o a b, n => by
    have h0 := a.mk_g tk n
    have h1 := MK.pt_g tk _ h0.1 h0.2
    have h00 := b.mk_g tk ((a.mk tk n).pt tk).n
    have h2 := MK.pt_g tk _ h00.1 h00.2
    simp only [Ex.mk, Ex.size]; omega
  | .un o a, n => by
    have h0 := a.mk_g tk n
    have h1 := MK.pt_g tk _ h0.1 h0.2
    simp only [Ex.mk, Ex.size]; omega
theorem MK.pt_len (tk : List Txt) (p : MK) {s : Nat} (h : p.ns.length + 1 ≤ s) : (p.pt tk).ns.length ≤ s := by
  unfold MK.pt
  split
  · omega
  · simp only [List.length_append, List.length_cons, List.length_nil]; omega
/-- Fewer bindings than atoms. -/
theorem Ex.mk_len (tk : List Txt) : ∀ (e : Ex) (n : Nat), (e.mk tk n).ns.length + 1 ≤ e.size
  | .num s, n => Nat.le_refl _
  | .name s, n => Nat.le_refl _
  | .lt x a b, n => by
    have h1 := a.mk_len tk n; have h2 := b.mk_len tk (a.mk tk n).n
    simp only [Ex.mk, Ex.size, List.length_append, List.length_cons]; omega
  | .fn f x s t b, n => by simp only [Ex.mk, Ex.size, List.length_nil]; omega
  | .ite a b c, n => by
    have h1 := MK.pt_len tk _ (a.mk_len tk n)
    simp only [Ex.mk, Ex.size]; omega
  | .bin o a b, n => by
    have h1 := MK.pt_len tk _ (a.mk_len tk n)
    have h2 := MK.pt_len tk _ (b.mk_len tk ((a.mk tk n).pt tk).n)
    simp only [Ex.mk, Ex.size, List.length_append]; omega
  | .un o a, n => by
    have h1 := MK.pt_len tk _ (a.mk_len tk n)
    simp only [Ex.mk, Ex.size]; omega
/-- The bindings' names are names, their expressions are expressions. -/
def okNs (l : List (Txt × Ex)) : Prop := ∀ p ∈ l, isName p.1 = true ∧ p.2.ok = true
theorem okNs.add {l m : List (Txt × Ex)} (h : okNs l) (h' : okNs m) : okNs (l ++ m) := by
  intro p hp
  rcases List.mem_append.1 hp with hp | hp
  · exact h p hp
  · exact h' p hp
theorem letsN_ok : ∀ {l : List (Txt × Ex)} {e : Ex}, okNs l → e.ok = true → (lets l e).ok = true
  | [], e, _, h => h
  | p :: l, e, hl, h => by
    have h1 := hl p (.head _)
    simp only [lets, Ex.ok, Bool.and_eq_true]
    exact ⟨⟨h1.1, h1.2⟩, letsN_ok (fun q hq => hl q (.tail _ hq)) h⟩
theorem MK.pt_ok {tk : List Txt} {p : MK} (h : okNs p.ns ∧ p.e.ok = true) (hn : p.n + tk.length < 1000 + hits 121 tk p.n) : okNs (p.pt tk).ns ∧ (p.pt tk).e.ok = true := by
  unfold MK.pt
  split
  · exact h
  · have h1 := (fr_facts 121 tk p.n).2.2
    have h2 := hits_le 121 tk (fr 121 tk p.n)
    have hz : isName (nm 121 (fr 121 tk p.n)) = true := nm_name (by decide) (by omega)
    exact ⟨h.1.add fun q hq => by rw [List.mem_singleton.1 hq]; exact ⟨hz, h.2⟩, hz⟩
theorem MK.n_le {tk : List Txt} {p : MK} {n : Nat} (h : n ≤ p.n ∧ p.n + hits 121 tk n = n + p.g + hits 121 tk p.n) : p.n ≤ n + p.g + tk.length := by
  have := hits_le 121 tk p.n; omega
theorem Ex.mk_ok {tk : List Txt} : ∀ {e : Ex} {n : Nat}, e.ok = true → n + e.size + tk.length ≤ 900 + hits 121 tk n → okNs (e.mk tk n).ns ∧ (e.mk tk n).e.ok = true
  | .num s, n, h, _ => ⟨fun p hp => (by cases hp), h⟩
  | .name s, n, h, _ => ⟨fun p hp => (by cases hp), h⟩
  | .lt x a b, n, h, hn => by
    simp only [Ex.ok, Bool.and_eq_true] at h
    simp only [Ex.size] at hn
    have g1 := a.mk_g tk n; have m1 := a.mk_hits tk n
    have h1 := Ex.mk_ok (tk := tk) (n := n) h.1.2 (by omega)
    have h2 := Ex.mk_ok (tk := tk) (n := (a.mk tk n).n) h.2 (by omega)
    simp only [Ex.mk]
    refine ⟨h1.1.add fun p hp => ?_, h2.2⟩
    rcases List.mem_cons.1 hp with rfl | hp
    · exact ⟨h.1.1, h1.2⟩
    · exact h2.1 p hp
  | .fn f x s t b, n, h, hn => by
    simp only [Ex.ok, Bool.and_eq_true, decide_eq_true_eq] at h
    simp only [Ex.size] at hn
    have h1 := Ex.mk_ok (tk := tk) (n := n) h.2 (by omega)
    simp only [Ex.mk, Ex.ok, Bool.and_eq_true, decide_eq_true_eq]
    exact ⟨fun p hp => (by cases hp), h.1, letsN_ok h1.1 h1.2⟩
  | .ite a b c, n, h, hn => by
    simp only [Ex.ok, Bool.and_eq_true] at h
    simp only [Ex.size] at hn
    have g1 := a.mk_g tk n; have m1 := a.mk_hits tk n; have k0 := hits_le 121 tk (a.mk tk n).n; have k00 := hits_le 121 tk n
    have gp := MK.pt_g tk _ g1.1 g1.2; have mp := MK.pt_hits tk _ m1
    have h1 := MK.pt_ok (tk := tk) (Ex.mk_ok (tk := tk) (n := n) h.1.1 (by omega)) (by omega)
    have g2 := b.mk_g tk ((a.mk tk n).pt tk).n; have m2 := b.mk_hits tk ((a.mk tk n).pt tk).n
    have h2 := Ex.mk_ok (tk := tk) (n := ((a.mk tk n).pt tk).n) h.1.2 (by omega)
    have h3 := Ex.mk_ok (tk := tk) (n := (b.mk tk ((a.mk tk n).pt tk).n).n) h.2 (by omega)
    simp only [Ex.mk, Ex.ok, Bool.and_eq_true]
    exact ⟨h1.1, ⟨h1.2, letsN_ok h2.1 h2.2⟩, letsN_ok h3.1 h3.2⟩
  | .bin o a b, n, h, hn => by
    simp only [Ex.ok, Bool.and_eq_true] at h
    simp only [Ex.size] at hn
    have g1 := a.mk_g tk n; have m1 := a.mk_hits tk n; have k0 := hits_le 121 tk (a.mk tk n).n; have k00 := hits_le 121 tk n
    have gp := MK.pt_g tk _ g1.1 g1.2; have mp := MK.pt_hits tk _ m1
    have h1 := MK.pt_ok (tk := tk) (Ex.mk_ok (tk := tk) (n := n) h.1 (by omega)) (by omega)
    have g2 := b.mk_g tk ((a.mk tk n).pt tk).n; have m2 := b.mk_hits tk ((a.mk tk n).pt tk).n; have k2 := hits_le 121 tk (b.mk tk ((a.mk tk n).pt tk).n).n
    have h2 := MK.pt_ok (tk := tk) (Ex.mk_ok (tk := tk) (n := ((a.mk tk n).pt tk).n) h.2 (by omega)) (by omega)
    simp only [Ex.mk, Ex.ok, Bool.and_eq_true]
    exact ⟨h1.1.add h2.1, h1.2, h2.2⟩
  | .un o a, n, h, hn => by
    have h : a.ok = true := h
    simp only [Ex.size] at hn
    have g1 := a.mk_g tk n; have m1 := a.mk_hits tk n; have k0 := hits_le 121 tk (a.mk tk n).n; have k00 := hits_le 121 tk n
    have h1 := MK.pt_ok (tk := tk) (Ex.mk_ok (tk := tk) (n := n) h (by omega)) (by omega)
    exact ⟨h1.1, h1.2⟩
end Go.Proofs.YtdnmhgiaebbppaaGreat

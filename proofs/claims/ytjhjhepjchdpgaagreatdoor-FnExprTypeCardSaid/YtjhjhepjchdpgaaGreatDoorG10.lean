/- The type of an expression by its text, by the reference: the walk. No conditions. -/
import Derived.Test.YtjhjhepjchdpgaaGreatDoorG9
namespace Go.Proofs.YtjhjhepjchdpgaaGreatDoor
set_option maxRecDepth 100000
set_option linter.unusedVariables false
set_option linter.unusedSimpArgs false

structure EnvG (I : Heap) (l : List Txt) (m : List Ty) (oa : Option Addr) (c : Nat) (ob : Option Addr) (c' : Nat) : Prop where
 names : Strs I oa l c
 types : Strs I ob (tx m) c'
 len : l.length = m.length
 small : smallL m
theorem EnvG.mono {I I' : Heap} (hle : HLe I I') {l : List Txt} {m : List Ty} {oa : Option Addr} {c : Nat} {ob : Option Addr} {c' : Nat} (h : EnvG I l m oa c ob c') : EnvG I' l m oa c ob c' :=
 ⟨h.names.mono hle, h.types.mono hle, h.len, h.small⟩
/-- What the loop over the parts has gathered. -/
structure GS where
 J : Heap
 i : Nat
 b : Nat
 sp : List Value
 c : Nat
def gv (e : Ex) (l : List Txt) (m : List Ty) (i : Nat) : List Value := (((e.sub.take i).map fun a => a.ty l m).map tyT).map sv
theorem gv_succ {e : Ex} {l : List Txt} {m : List Ty} {i : Nat} (h : i < e.sub.length) : gv e l m (i + 1) = gv e l m i ++ [sv (tyT (e.sub[i].ty l m))] := by
 unfold gv; rw [List.take_succ_eq_append_getElem h]; simp only [List.map_append, List.map_cons, List.map_nil]
set_option maxHeartbeats 1000000 in
theorem g_l3Type : ∀ (n : Nat) {I : Heap} {l : List Txt} {m : List Ty} {oa ob : Option Addr} {c c' : Nat} {e : Ex} {cs : List Value} (_ : SizeOf.sizeOf e < n) (_ : EnvG I l m oa c ob c') (_ : Rep I e.tree cs) (_ : e.ok = true) (_ : l.length + 2 * e.size ≤ maxN) (L : Own),
  Fun Tryz.prog 22 [.agg cs.toArray, .slice oa l.length c, .slice ob (tx m).length c'] I L (ST (tyT (e.ty l m)) L) := by
 intro n
 induction n with
 | zero => intro I l m oa ob c c' e cs h; omega
 | succ n ihn =>
  intro I l m oa ob c c' e cs hlt he h hok hroom L
  obtain ⟨oc, cc, oaf, cf, rfl, hf⟩ := h.at'
  have ha := hf.alen
  have hsp := e.size_pos
  have hlm := he.len
  unfold maxN at hroom
  have hp := hf.len
  unfold maxN at hp
  have hfn := hf.nil
  refine fun_intro (by simp) ?_
  refine Se rfl ?_
  refine o_box rfl rfl .free rfl ?_
  intro b3
  refine Oa rfl ?_
  refine o_done ?_
  refine s_seq ?_
  refine Se rfl ?_
  refine o_fieldAddr rfl .free rfl ?_
  refine o_lO1 rfl .free rfl ?_
  refine o_cmps rfl rfl rfl .free rfl ?_
  refine o_done ?_
  refine s_cond rfl ?_ ?_
  ·intro c0
   try simp only [nb] at c0
   have hb : e.bare = true := by
    cases hb : e.bare with
    | true => rfl
    | false => exact absurd ((Ex.atom_iff hok).2 hb) c0
   refine s_seq ?_
   refine Se rfl ?_
   refine o_fieldAddr rfl .free rfl ?_
   refine o_lO1 rfl .free rfl ?_
   refine o_call rfl .free rfl (g_l2Name e.tree.atom ha _ _) ?_
   rintro _ _ _ _ ⟨rfl, rfl, rfl⟩
   refine o_done ?_
   refine s_cond rfl ?_ ?_
   ·intro c1
    try simp only [nb] at c1
    refine Se rfl ?_
    refine Om rfl ?_
    refine Om rfl ?_
    refine o_fieldAddr rfl .free rfl ?_
    refine o_lO1 rfl .free rfl ?_
    refine o_call rfl .free rfl (g_l3Look he.names he.types (by simp [hlm]) e.tree.atom _) ?_
    rintro _ _ _ _ ⟨rfl, rfl, rfl⟩
    refine Oa rfl ?_
    refine o_done ?_
    refine s_ret (.tmp rfl .nil) ?_
    refine ⟨I, L, .refl _, drops, ?_, rfl⟩
    cases e with
    | num s => have h1 := name_not_num (show isName s = true from c1); rw [show isNum s = true from hok] at h1; cases h1
    | name s => rw [Ex.ty_name, ← lookTxt_ty hlm]; rfl
    | _ => cases hb
   intro c1
   try simp only [nb] at c1
   refine s_skip ?_
   refine Se rfl ?_
   refine Oa rfl ?_
   refine o_done ?_
   refine s_ret (.tmp rfl .nil) ?_
   refine ⟨I, L, .refl _, drops, ?_, rfl⟩
   cases e with
   | num s => rfl
   | name s => have h1 := c1.symm.trans (show isName s = true from hok); cases h1
   | _ => cases hb
  intro c0
  try simp only [nb] at c0
  have hb : e.bare = false := (Ex.atom_iff hok).1 (by simpa using c0)
  have hpos : 0 < e.tree.parts.length := by
   rw [Ex.bare_parts] at hb
   have : e.tree.parts ≠ [] := by intro hh; rw [hh] at hb; cases hb
   exact List.length_pos_iff.2 this
  have hhd := head_at hpos
  refine s_skip ?_
  refine s_seq ?_
  refine Se rfl ?_
  refine o_fieldAddr rfl .free rfl ?_
  refine o_lO1 rfl .free rfl ?_
  first | refine o_ixD rfl rfl 0 rfl .free rfl ?_ | refine o_ixP rfl rfl 0 rfl .free rfl ?_
  refine o_fieldAddr' rfl .free rfl ?_
  refine o_lIF rfl .free rfl ?_
  refine o_done ?_
  refine s_block ?_
  refine Se rfl ?_
  refine o_cmps rfl rfl rfl .free rfl ?_
  refine Oa rfl ?_
  refine o_done ?_
  refine s_cond rfl ?_ ?_
  ·intro c2
   try simp only [nb] at c2
   obtain ⟨x, a, b, rfl⟩ := Ex.of_let (hhd.trans c2)
   simp only [Ex.ok, Bool.and_eq_true] at hok
   simp only [Ex.lt.sizeOf_spec] at hlt
   simp only [Ex.size] at hroom
   have hlen : (Ex.lt x a b).tree.parts.length = 4 := rfl
   have hxl := Ex.name_len hok.1.1
   refine Se rfl ?_
   refine o_fieldAddr rfl .free rfl ?_
   refine o_lO1 rfl .free rfl ?_
   first | refine o_ixD rfl rfl 2 rfl .free rfl ?_ | refine o_ixP rfl rfl 2 rfl .free rfl ?_
   refine o_lIS rfl .free rfl ?_
   refine Om rfl ?_
   refine Om rfl ?_
   refine o_call rfl .free rfl (ihn (e := a) (by omega) he (hf.as 2 a.tree (by omega) rfl) hok.1.2 (by unfold maxN; omega) _) ?_
   rintro _ J1 _ e1 ⟨rfl, rfl⟩
   have hf := hf.mono e1
   have he := he.mono e1
   have hty := Ex.ty_lt x a b l m
   have hsm := Ex.ty_small (l := l) hok.1.2 he.small
   generalize a.ty l m = ot at hty hsm ⊢
   refine Oa rfl ?_
   refine o_done ?_
   refine s_seq ?_
   refine Se rfl ?_
   refine Om rfl ?_
   refine o_cmps rfl rfl rfl .free rfl ?_
   refine o_done ?_
   refine s_cond rfl ?_ ?_
   ·intro c3
    try simp only [nb] at c3
    refine Se rfl ?_
    refine Oa rfl ?_
    refine o_done ?_
    refine s_ret (.tmp rfl .nil) ?_
    refine ⟨J1, L, e1, drops, ?_, rfl⟩
    rw [hty, tyT_nil.1 c3]; rfl
   intro c3
   try simp only [nb] at c3
   obtain ⟨s, rfl⟩ : ∃ s, ot = some s := by
    cases ot with
    | none => exact absurd rfl c3
    | some s => exact ⟨s, rfl⟩
   have hs16 := hsm s rfl
   have htl : s.tree.text.length ≤ maxN := by have := Ty.text_len hs16; unfold maxN; omega
   have hlr : HLe J1 J1 := .refl _
   simp only at hty
   refine s_skip ?_
   refine s_seq ?_
   refine d_all 18 rfl rfl ?_
   refine Da 0 rfl (y_fieldAddr rfl) ?_
   refine Dt 1 [18] rfl (y_lO1 rfl) ?_
   first | refine Da 2 rfl (y_ixD rfl rfl 3 rfl) ?_ | refine Da 2 rfl (y_ixP rfl rfl 3 rfl) ?_
   refine Dt 3 [18] rfl (y_lIS rfl) ?_
   refine Da 4 rfl (y_move rfl) ?_
   refine Da 5 rfl (y_fieldAddr rfl) ?_
   refine Dt 6 [18] rfl (y_lO1 rfl) ?_
   first | refine Da 7 rfl (y_ixD rfl rfl 1 rfl) ?_ | refine Da 7 rfl (y_ixP rfl rfl 1 rfl) ?_
   refine Da 8 rfl (y_fieldAddr' rfl) ?_
   refine Dt 9 [18] rfl (y_lIF rfl) ?_
   refine Da 12 rfl (y_move rfl) ?_
   refine Da 13 rfl (y_move rfl) ?_
   refine d_two 10 14 (by kernel_rfl) ?_ ?_
   ·skip
    refine i_lits 10 rfl rfl rfl rfl (by rfl) (by rfl) (by rfl) (by decide) (by decide) (by rfl) .free rfl (.inr heldx) ?_
    intro b51
    refine d_freeze ?_
    intro hz
    have hlr := hlr.trans hz
    have hf := hf.mono hz
    have he := he.mono hz
    have hk1 := strs_lit1 hz hxl
    try have hk2 := hk2.mono hz
    refine d_two 11 14 (by kernel_rfl) ?_ ?_
    ·skip
     refine i_call 11 rfl rfl rfl .free rfl (g_l3With he.names hk1 (by simp; unfold maxN; omega) _) ?_
     rintro _ J2 _ e2 ⟨o3, c3', rfl, hn3, rfl⟩
     have hlr := hlr.trans e2
     have hf := hf.mono e2
     have he := he.mono e2
     try have hk2 := hk2.mono e2
     refine ⟨(.inr heldx), ?_⟩
     refine d_lits 14 rfl (by kernel_rfl) rfl rfl rfl (by rfl) (by rfl) (by rfl) (by decide) (by decide) (by rfl) .free rfl (.inr heldx) ?_
     intro b55
     refine d_freeze ?_
     intro hz
     have hlr := hlr.trans hz
     have hf := hf.mono hz
     have he := he.mono hz
     have hk2 := strs_lit1 (x := s.tree.text) hz htl
     try have hk1 := hk1.mono hz
     try have hn3 := hn3.mono hz
     refine d_call 15 rfl (by kernel_rfl) rfl rfl .free rfl (g_l3With he.types hk2 (by simp; unfold maxN; omega) _) ?_
     rintro _ J3 _ e3 ⟨o4, c4', rfl, hn4, rfl⟩
     have hlr := hlr.trans e3
     have hf := hf.mono e3
     have he := he.mono e3
     have hn3 := hn3.mono e3
     rw [show tx m ++ [s.tree.text] = tx (m ++ [s]) by simp [tx]] at hn4 ⊢
     refine ⟨(.inr heldx), ?_⟩
     refine d_call 16 rfl (by kernel_rfl) rfl rfl .free rfl (ihn (e := b) (by omega) ⟨hn3, hn4, by simp [hlm], he.small.add hs16⟩ (hf.as 3 b.tree (by omega) rfl) hok.2 (by simp; unfold maxN; omega) _) ?_
     rintro _ J4 _ e4 ⟨rfl, rfl⟩
     have hlr := hlr.trans e4
     refine ⟨(.inr heldx), ?_⟩
     refine Da 17 rfl (y_assign rfl) ?_
     refine d_done (by kernel_rfl) ?_
     refine s_ret (.tmp rfl .nil) ?_
     exact ⟨J4, L, e1.trans hlr, drops, by rw [hty]; rfl, rfl⟩
    ·skip
     refine i_lits 14 rfl rfl rfl rfl (by rfl) (by rfl) (by rfl) (by decide) (by decide) (by rfl) .free rfl (.inr heldx) ?_
     intro b55
     refine d_freeze ?_
     intro hz
     have hlr := hlr.trans hz
     have hf := hf.mono hz
     have he := he.mono hz
     have hk2 := strs_lit1 (x := s.tree.text) hz htl
     try have hk1 := hk1.mono hz
     try have hn3 := hn3.mono hz
     refine d_call 11 rfl (by kernel_rfl) rfl rfl .free rfl (g_l3With he.names hk1 (by simp; unfold maxN; omega) _) ?_
     rintro _ J2 _ e2 ⟨o3, c3', rfl, hn3, rfl⟩
     have hlr := hlr.trans e2
     have hf := hf.mono e2
     have he := he.mono e2
     try have hk2 := hk2.mono e2
     refine ⟨(.inr heldx), ?_⟩
     refine d_call 15 rfl (by kernel_rfl) rfl rfl .free rfl (g_l3With he.types hk2 (by simp; unfold maxN; omega) _) ?_
     rintro _ J3 _ e3 ⟨o4, c4', rfl, hn4, rfl⟩
     have hlr := hlr.trans e3
     have hf := hf.mono e3
     have he := he.mono e3
     have hn3 := hn3.mono e3
     rw [show tx m ++ [s.tree.text] = tx (m ++ [s]) by simp [tx]] at hn4 ⊢
     refine ⟨(.inr heldx), ?_⟩
     refine d_call 16 rfl (by kernel_rfl) rfl rfl .free rfl (ihn (e := b) (by omega) ⟨hn3, hn4, by simp [hlm], he.small.add hs16⟩ (hf.as 3 b.tree (by omega) rfl) hok.2 (by simp; unfold maxN; omega) _) ?_
     rintro _ J4 _ e4 ⟨rfl, rfl⟩
     have hlr := hlr.trans e4
     refine ⟨(.inr heldx), ?_⟩
     refine Da 17 rfl (y_assign rfl) ?_
     refine d_done (by kernel_rfl) ?_
     refine s_ret (.tmp rfl .nil) ?_
     exact ⟨J4, L, e1.trans hlr, drops, by rw [hty]; rfl, rfl⟩
   ·skip
    refine i_lits 14 rfl rfl rfl rfl (by rfl) (by rfl) (by rfl) (by decide) (by decide) (by rfl) .free rfl (.inr heldx) ?_
    intro b55
    refine d_freeze ?_
    intro hz
    have hlr := hlr.trans hz
    have hf := hf.mono hz
    have he := he.mono hz
    have hk2 := strs_lit1 (x := s.tree.text) hz htl
    try have hk1 := hk1.mono hz
    try have hn3 := hn3.mono hz
    refine d_lits 10 rfl (by kernel_rfl) rfl rfl rfl (by rfl) (by rfl) (by rfl) (by decide) (by decide) (by rfl) .free rfl (.inr heldx) ?_
    intro b51
    refine d_freeze ?_
    intro hz
    have hlr := hlr.trans hz
    have hf := hf.mono hz
    have he := he.mono hz
    have hk1 := strs_lit1 hz hxl
    try have hk2 := hk2.mono hz
    refine d_call 11 rfl (by kernel_rfl) rfl rfl .free rfl (g_l3With he.names hk1 (by simp; unfold maxN; omega) _) ?_
    rintro _ J2 _ e2 ⟨o3, c3', rfl, hn3, rfl⟩
    have hlr := hlr.trans e2
    have hf := hf.mono e2
    have he := he.mono e2
    try have hk2 := hk2.mono e2
    refine ⟨(.inr heldx), ?_⟩
    refine d_call 15 rfl (by kernel_rfl) rfl rfl .free rfl (g_l3With he.types hk2 (by simp; unfold maxN; omega) _) ?_
    rintro _ J3 _ e3 ⟨o4, c4', rfl, hn4, rfl⟩
    have hlr := hlr.trans e3
    have hf := hf.mono e3
    have he := he.mono e3
    have hn3 := hn3.mono e3
    rw [show tx m ++ [s.tree.text] = tx (m ++ [s]) by simp [tx]] at hn4 ⊢
    refine ⟨(.inr heldx), ?_⟩
    refine d_call 16 rfl (by kernel_rfl) rfl rfl .free rfl (ihn (e := b) (by omega) ⟨hn3, hn4, by simp [hlm], he.small.add hs16⟩ (hf.as 3 b.tree (by omega) rfl) hok.2 (by simp; unfold maxN; omega) _) ?_
    rintro _ J4 _ e4 ⟨rfl, rfl⟩
    have hlr := hlr.trans e4
    refine ⟨(.inr heldx), ?_⟩
    refine Da 17 rfl (y_assign rfl) ?_
    refine d_done (by kernel_rfl) ?_
    refine s_ret (.tmp rfl .nil) ?_
    exact ⟨J4, L, e1.trans hlr, drops, by rw [hty]; rfl, rfl⟩
  intro c2
  try simp only [nb] at c2
  refine Se rfl ?_
  refine o_cmps rfl rfl rfl .free rfl ?_
  refine Oa rfl ?_
  refine o_done ?_
  refine s_cond rfl ?_ ?_
  ·intro c4
   try simp only [nb] at c4
   obtain ⟨f, x, s, t, b, rfl⟩ := Ex.of_fun (hhd.trans c4)
   simp only [Ex.ok, Bool.and_eq_true, decide_eq_true_eq] at hok
   simp only [Ex.fn.sizeOf_spec] at hlt
   simp only [Ex.size] at hroom
   have hlen : (Ex.fn f x s t b).tree.parts.length = 6 := rfl
   have hfl := Ex.name_len hok.1.1.1.1.1
   have hxl := Ex.name_len hok.1.1.1.1.2
   have hs16 := hok.1.1.2
   have ht16 := hok.1.2
   have hsl := Ty.text_len hs16
   have htl := Ty.text_len ht16
   have hst := s.tree_small
   have htt := t.tree_small
   have hty := Ex.ty_fn f x s t b l m
   refine Se rfl ?_
   refine o_fieldAddr rfl .free rfl ?_
   refine o_lO1 rfl .free rfl ?_
   first | refine o_ixD rfl rfl 3 rfl .free rfl ?_ | refine o_ixP rfl rfl 3 rfl .free rfl ?_
   refine o_lIS rfl .free rfl ?_
   refine o_call rfl .free rfl (g_l1Text _ (Nat.lt_succ_self _) (hf.as 3 s.tree (by omega) rfl) s.tree_good.1 (by omega) _) ?_
   rintro _ _ _ _ ⟨rfl, rfl, rfl⟩
   refine Oa rfl ?_
   refine o_done ?_
   refine Se rfl ?_
   refine o_fieldAddr rfl .free rfl ?_
   refine o_lO1 rfl .free rfl ?_
   first | refine o_ixD rfl rfl 4 rfl .free rfl ?_ | refine o_ixP rfl rfl 4 rfl .free rfl ?_
   refine o_lIS rfl .free rfl ?_
   refine o_call rfl .free rfl (g_l1Text _ (Nat.lt_succ_self _) (hf.as 4 t.tree (by omega) rfl) t.tree_good.1 (by omega) _) ?_
   rintro _ _ _ _ ⟨rfl, rfl, rfl⟩
   refine Oa rfl ?_
   refine o_done ?_
   refine Se rfl ?_
   refine Om rfl ?_
   refine Om rfl ?_
   refine o_call rfl .free rfl (g_TypeMake true s.tree.text t.tree.text (by omega) (by omega) _ _) ?_
   rintro _ J1 _ e1 ⟨rfl, rfl⟩
   have hf := hf.mono e1
   have he := he.mono e1
   rw [mk_fn hs16 ht16]
   refine Om rfl ?_
   refine o_extract rfl rfl .free rfl ?_
   refine o_extract rfl rfl .free rfl ?_
   refine Oa rfl ?_
   refine Oa rfl ?_
   refine o_done ?_
   refine s_seq ?_
   refine s_seq ?_
   by_cases hz16 : (Ty.fn s t).size ≤ 16
   ·skip
    rw [if_pos hz16]
    have hlr : HLe J1 J1 := .refl _
    have hfl80 := Ty.text_len hz16
    refine d_all 29 rfl rfl ?_
    refine Da 0 rfl (y_move rfl) ?_
    refine Da 1 rfl (y_not rfl) ?_
    refine Da 2 rfl (y_move rfl) ?_
    refine d_put (t := 78) rfl (v' := .bool false) (by first | simp [*] | (simp; omega)) ?_
    refine d_takeA 3 rfl (by kernel_rfl) rfl (.inr heldx) (y_fieldAddr rfl) (.met rfl rfl) rfl ?_
    refine d_take 4 [29] rfl (by kernel_rfl) rfl heldx (y_lO1 rfl) (.met rfl rfl) rfl ?_
    first | refine d_takeA 5 rfl (by kernel_rfl) rfl (.inr heldx) (y_ixD rfl rfl 5 rfl) (.met rfl rfl) rfl ?_ | refine d_takeA 5 rfl (by kernel_rfl) rfl (.inr heldx) (y_ixP rfl rfl 5 rfl) (.met rfl rfl) rfl ?_
    refine d_take 6 [29] rfl (by kernel_rfl) rfl heldx (y_lIS rfl) (.met rfl rfl) rfl ?_
    refine d_takeA 7 rfl (by kernel_rfl) rfl (.inr heldx) (y_move rfl) (.met rfl rfl) rfl ?_
    refine d_takeA 8 rfl (by kernel_rfl) rfl (.inr heldx) (y_fieldAddr rfl) (.met rfl rfl) rfl ?_
    refine d_take 9 [29] rfl (by kernel_rfl) rfl heldx (y_lO1 rfl) (.met rfl rfl) rfl ?_
    first | refine d_takeA 10 rfl (by kernel_rfl) rfl (.inr heldx) (y_ixD rfl rfl 1 rfl) (.met rfl rfl) rfl ?_ | refine d_takeA 10 rfl (by kernel_rfl) rfl (.inr heldx) (y_ixP rfl rfl 1 rfl) (.met rfl rfl) rfl ?_
    refine d_takeA 11 rfl (by kernel_rfl) rfl (.inr heldx) (y_fieldAddr' rfl) (.met rfl rfl) rfl ?_
    refine d_take 12 [29] rfl (by kernel_rfl) rfl heldx (y_lIF rfl) (.met rfl rfl) rfl ?_
    refine d_takeA 13 rfl (by kernel_rfl) rfl (.inr heldx) (y_fieldAddr rfl) (.met rfl rfl) rfl ?_
    refine d_take 14 [29] rfl (by kernel_rfl) rfl heldx (y_lO1 rfl) (.met rfl rfl) rfl ?_
    first | refine d_takeA 15 rfl (by kernel_rfl) rfl (.inr heldx) (y_ixD rfl rfl 2 rfl) (.met rfl rfl) rfl ?_ | refine d_takeA 15 rfl (by kernel_rfl) rfl (.inr heldx) (y_ixP rfl rfl 2 rfl) (.met rfl rfl) rfl ?_
    refine d_takeA 16 rfl (by kernel_rfl) rfl (.inr heldx) (y_fieldAddr' rfl) (.met rfl rfl) rfl ?_
    refine d_take 17 [29] rfl (by kernel_rfl) rfl heldx (y_lIF rfl) (.met rfl rfl) rfl ?_
    refine d_takeA 20 rfl (by kernel_rfl) rfl (.inr heldx) (y_move rfl) (.met rfl rfl) rfl ?_
    refine d_takeA 21 rfl (by kernel_rfl) rfl (.inr heldx) (y_move rfl) (.met rfl rfl) rfl ?_
    refine d_takeA 22 rfl (by kernel_rfl) rfl (.inr heldx) (y_move rfl) (.met rfl rfl) rfl ?_
    refine d_takeA 26 rfl (by kernel_rfl) rfl (.inr heldx) (y_move rfl) (.met rfl rfl) rfl ?_
    refine d_two 18 23 (by kernel_rfl) ?_ ?_
    ·skip
     refine i_lits 18 rfl rfl rfl rfl (by rfl) (by rfl) (by rfl) (by decide) (by decide) (by rfl) (.met rfl rfl) rfl (.inr heldx) ?_
     intro b94
     refine d_freeze ?_
     intro hz
     have hlr := hlr.trans hz
     have hf := hf.mono hz
     have he := he.mono hz
     have hk1 := strs_lit2 hz hfl hxl
     try have hk2 := hk2.mono hz
     refine d_two 19 23 (by kernel_rfl) ?_ ?_
     ·skip
      refine i_call 19 rfl rfl rfl (.met rfl rfl) rfl (g_l3With he.names hk1 (by simp; unfold maxN; omega) _) ?_
      rintro _ J2 _ e2 ⟨o3, c3', rfl, hn3, rfl⟩
      have hlr := hlr.trans e2
      have hf := hf.mono e2
      have he := he.mono e2
      try have hk2 := hk2.mono e2
      refine ⟨(.inr heldx), ?_⟩
      refine d_lits 23 rfl (by kernel_rfl) rfl rfl rfl (by rfl) (by rfl) (by rfl) (by decide) (by decide) (by rfl) (.met rfl rfl) rfl (.inr heldx) ?_
      intro b99
      refine d_freeze ?_
      intro hz
      have hlr := hlr.trans hz
      have hf := hf.mono hz
      have he := he.mono hz
      have hk2 := strs_lit2 (x := (Ty.fn s t).tree.text) (y := s.tree.text) hz (by unfold maxN; omega) (by unfold maxN; omega)
      try have hk1 := hk1.mono hz
      try have hn3 := hn3.mono hz
      refine d_call 24 rfl (by kernel_rfl) rfl rfl (.met rfl rfl) rfl (g_l3With he.types hk2 (by simp; unfold maxN; omega) _) ?_
      rintro _ J3 _ e3 ⟨o4, c4', rfl, hn4, rfl⟩
      have hlr := hlr.trans e3
      have hf := hf.mono e3
      have he := he.mono e3
      have hn3 := hn3.mono e3
      rw [show tx m ++ [(Ty.fn s t).tree.text, s.tree.text] = tx (m ++ [.fn s t, s]) by simp [tx]] at hn4 ⊢
      refine ⟨(.inr heldx), ?_⟩
      refine d_call 25 rfl (by kernel_rfl) rfl rfl (.met rfl rfl) rfl (ihn (e := b) (by omega) ⟨hn3, hn4, by simp [hlm], he.small.add2 hz16 hs16⟩ (hf.as 5 b.tree (by omega) rfl) hok.2 (by simp; unfold maxN; omega) _) ?_
      rintro _ J4 _ e4 ⟨rfl, rfl⟩
      have hlr := hlr.trans e4
      refine ⟨(.inr heldx), ?_⟩
      refine d_takeA 27 rfl (by kernel_rfl) rfl (.inr heldx) (y_cmps rfl rfl rfl) (.met rfl rfl) rfl ?_
      refine Da 28 rfl (y_pick_false rfl rfl) ?_
      refine d_done (by kernel_rfl) ?_
      refine s_cond rfl ?_ ?_
      ·intro c5
       try simp only [nb] at c5
       refine Se rfl ?_
       refine Oa rfl ?_
       refine o_done ?_
       refine s_ret (.tmp rfl .nil) ?_
       refine ⟨J4, L, e1.trans hlr, drops, ?_, rfl⟩
       rw [hty, if_neg (by rintro ⟨h1, h2⟩; exact c5 (congrArg tyT h2))]; rfl
      intro c5
      try simp only [nb] at c5
      refine s_skip ?_
      refine Se rfl ?_
      refine Om rfl ?_
      refine Oa rfl ?_
      refine o_done ?_
      refine s_ret (.tmp rfl .nil) ?_
      refine ⟨J4, L, e1.trans hlr, drops, ?_, rfl⟩
      rw [hty, if_pos ⟨hz16, tyT_inj (b := some t) c5⟩]; rfl
     ·skip
      refine i_lits 23 rfl rfl rfl rfl (by rfl) (by rfl) (by rfl) (by decide) (by decide) (by rfl) (.met rfl rfl) rfl (.inr heldx) ?_
      intro b99
      refine d_freeze ?_
      intro hz
      have hlr := hlr.trans hz
      have hf := hf.mono hz
      have he := he.mono hz
      have hk2 := strs_lit2 (x := (Ty.fn s t).tree.text) (y := s.tree.text) hz (by unfold maxN; omega) (by unfold maxN; omega)
      try have hk1 := hk1.mono hz
      try have hn3 := hn3.mono hz
      refine d_call 19 rfl (by kernel_rfl) rfl rfl (.met rfl rfl) rfl (g_l3With he.names hk1 (by simp; unfold maxN; omega) _) ?_
      rintro _ J2 _ e2 ⟨o3, c3', rfl, hn3, rfl⟩
      have hlr := hlr.trans e2
      have hf := hf.mono e2
      have he := he.mono e2
      try have hk2 := hk2.mono e2
      refine ⟨(.inr heldx), ?_⟩
      refine d_call 24 rfl (by kernel_rfl) rfl rfl (.met rfl rfl) rfl (g_l3With he.types hk2 (by simp; unfold maxN; omega) _) ?_
      rintro _ J3 _ e3 ⟨o4, c4', rfl, hn4, rfl⟩
      have hlr := hlr.trans e3
      have hf := hf.mono e3
      have he := he.mono e3
      have hn3 := hn3.mono e3
      rw [show tx m ++ [(Ty.fn s t).tree.text, s.tree.text] = tx (m ++ [.fn s t, s]) by simp [tx]] at hn4 ⊢
      refine ⟨(.inr heldx), ?_⟩
      refine d_call 25 rfl (by kernel_rfl) rfl rfl (.met rfl rfl) rfl (ihn (e := b) (by omega) ⟨hn3, hn4, by simp [hlm], he.small.add2 hz16 hs16⟩ (hf.as 5 b.tree (by omega) rfl) hok.2 (by simp; unfold maxN; omega) _) ?_
      rintro _ J4 _ e4 ⟨rfl, rfl⟩
      have hlr := hlr.trans e4
      refine ⟨(.inr heldx), ?_⟩
      refine d_takeA 27 rfl (by kernel_rfl) rfl (.inr heldx) (y_cmps rfl rfl rfl) (.met rfl rfl) rfl ?_
      refine Da 28 rfl (y_pick_false rfl rfl) ?_
      refine d_done (by kernel_rfl) ?_
      refine s_cond rfl ?_ ?_
      ·intro c5
       try simp only [nb] at c5
       refine Se rfl ?_
       refine Oa rfl ?_
       refine o_done ?_
       refine s_ret (.tmp rfl .nil) ?_
       refine ⟨J4, L, e1.trans hlr, drops, ?_, rfl⟩
       rw [hty, if_neg (by rintro ⟨h1, h2⟩; exact c5 (congrArg tyT h2))]; rfl
      intro c5
      try simp only [nb] at c5
      refine s_skip ?_
      refine Se rfl ?_
      refine Om rfl ?_
      refine Oa rfl ?_
      refine o_done ?_
      refine s_ret (.tmp rfl .nil) ?_
      refine ⟨J4, L, e1.trans hlr, drops, ?_, rfl⟩
      rw [hty, if_pos ⟨hz16, tyT_inj (b := some t) c5⟩]; rfl
    ·skip
     refine i_lits 23 rfl rfl rfl rfl (by rfl) (by rfl) (by rfl) (by decide) (by decide) (by rfl) (.met rfl rfl) rfl (.inr heldx) ?_
     intro b99
     refine d_freeze ?_
     intro hz
     have hlr := hlr.trans hz
     have hf := hf.mono hz
     have he := he.mono hz
     have hk2 := strs_lit2 (x := (Ty.fn s t).tree.text) (y := s.tree.text) hz (by unfold maxN; omega) (by unfold maxN; omega)
     try have hk1 := hk1.mono hz
     try have hn3 := hn3.mono hz
     refine d_lits 18 rfl (by kernel_rfl) rfl rfl rfl (by rfl) (by rfl) (by rfl) (by decide) (by decide) (by rfl) (.met rfl rfl) rfl (.inr heldx) ?_
     intro b94
     refine d_freeze ?_
     intro hz
     have hlr := hlr.trans hz
     have hf := hf.mono hz
     have he := he.mono hz
     have hk1 := strs_lit2 hz hfl hxl
     try have hk2 := hk2.mono hz
     refine d_call 19 rfl (by kernel_rfl) rfl rfl (.met rfl rfl) rfl (g_l3With he.names hk1 (by simp; unfold maxN; omega) _) ?_
     rintro _ J2 _ e2 ⟨o3, c3', rfl, hn3, rfl⟩
     have hlr := hlr.trans e2
     have hf := hf.mono e2
     have he := he.mono e2
     try have hk2 := hk2.mono e2
     refine ⟨(.inr heldx), ?_⟩
     refine d_call 24 rfl (by kernel_rfl) rfl rfl (.met rfl rfl) rfl (g_l3With he.types hk2 (by simp; unfold maxN; omega) _) ?_
     rintro _ J3 _ e3 ⟨o4, c4', rfl, hn4, rfl⟩
     have hlr := hlr.trans e3
     have hf := hf.mono e3
     have he := he.mono e3
     have hn3 := hn3.mono e3
     rw [show tx m ++ [(Ty.fn s t).tree.text, s.tree.text] = tx (m ++ [.fn s t, s]) by simp [tx]] at hn4 ⊢
     refine ⟨(.inr heldx), ?_⟩
     refine d_call 25 rfl (by kernel_rfl) rfl rfl (.met rfl rfl) rfl (ihn (e := b) (by omega) ⟨hn3, hn4, by simp [hlm], he.small.add2 hz16 hs16⟩ (hf.as 5 b.tree (by omega) rfl) hok.2 (by simp; unfold maxN; omega) _) ?_
     rintro _ J4 _ e4 ⟨rfl, rfl⟩
     have hlr := hlr.trans e4
     refine ⟨(.inr heldx), ?_⟩
     refine d_takeA 27 rfl (by kernel_rfl) rfl (.inr heldx) (y_cmps rfl rfl rfl) (.met rfl rfl) rfl ?_
     refine Da 28 rfl (y_pick_false rfl rfl) ?_
     refine d_done (by kernel_rfl) ?_
     refine s_cond rfl ?_ ?_
     ·intro c5
      try simp only [nb] at c5
      refine Se rfl ?_
      refine Oa rfl ?_
      refine o_done ?_
      refine s_ret (.tmp rfl .nil) ?_
      refine ⟨J4, L, e1.trans hlr, drops, ?_, rfl⟩
      rw [hty, if_neg (by rintro ⟨h1, h2⟩; exact c5 (congrArg tyT h2))]; rfl
     intro c5
     try simp only [nb] at c5
     refine s_skip ?_
     refine Se rfl ?_
     refine Om rfl ?_
     refine Oa rfl ?_
     refine o_done ?_
     refine s_ret (.tmp rfl .nil) ?_
     refine ⟨J4, L, e1.trans hlr, drops, ?_, rfl⟩
     rw [hty, if_pos ⟨hz16, tyT_inj (b := some t) c5⟩]; rfl
   ·skip
    rw [if_neg hz16]
    refine d_all 29 rfl rfl ?_
    refine Da 0 rfl (y_move rfl) ?_
    refine Da 1 rfl (y_not rfl) ?_
    refine Da 2 rfl (y_move rfl) ?_
    refine d_put (t := 78) rfl (v' := .bool true) (by first | simp [*] | (simp; omega)) ?_
    refine Ds 3 rfl rfl rfl ?_
    refine Ds 4 rfl rfl rfl ?_
    refine Ds 5 rfl rfl rfl ?_
    refine Ds 6 rfl rfl rfl ?_
    refine Ds 7 rfl rfl rfl ?_
    refine Ds 8 rfl rfl rfl ?_
    refine Ds 9 rfl rfl rfl ?_
    refine Ds 10 rfl rfl rfl ?_
    refine Ds 11 rfl rfl rfl ?_
    refine Ds 12 rfl rfl rfl ?_
    refine Ds 13 rfl rfl rfl ?_
    refine Ds 14 rfl rfl rfl ?_
    refine Ds 15 rfl rfl rfl ?_
    refine Ds 16 rfl rfl rfl ?_
    refine Ds 17 rfl rfl rfl ?_
    refine Ds 18 rfl rfl rfl ?_
    refine Ds 19 rfl rfl rfl ?_
    refine Ds 20 rfl rfl rfl ?_
    refine Ds 21 rfl rfl rfl ?_
    refine Ds 22 rfl rfl rfl ?_
    refine Ds 23 rfl rfl rfl ?_
    refine Ds 24 rfl rfl rfl ?_
    refine Ds 25 rfl rfl rfl ?_
    refine Ds 26 rfl rfl rfl ?_
    refine Ds 27 rfl rfl rfl ?_
    refine Da 28 rfl (y_pick_true rfl rfl) ?_
    refine d_done (by kernel_rfl) ?_
    refine s_true rfl ?_
    refine Se rfl ?_
    refine Oa rfl ?_
    refine o_done ?_
    refine s_ret (.tmp rfl .nil) ?_
    refine ⟨J1, L, e1, drops, ?_, rfl⟩
    rw [hty, if_neg (fun h => hz16 h.1)]; rfl
  intro c4
  try simp only [nb] at c4
  obtain ⟨hp1, hp2, hty, har⟩ := flat_facts hb (fun h => c2 (hhd.symm.trans h)) (fun h => c4 (hhd.symm.trans h)) l m
  refine s_skip ?_
  refine s_inBlock ?_
  refine Se rfl ?_
  refine o_lits0 .free rfl ?_
  intro b106
  refine Oa rfl ?_
  refine o_done ?_
  refine s_seq ?_
  refine Se rfl ?_
  refine Oa rfl ?_
  refine o_done ?_
  refine s_block ?_
  refine s_while (X := GS) (fun x => e.sub.length - x.i) (fun x => [(1, .slice oa l.length c), (2, .slice ob (tx m).length c'), (3, .pointer (some ⟨b3, 0, none⟩)), (6, .string (str [])), (12, .slice (some ⟨x.b, 0, none⟩) x.i x.c), (13, .int .i64 ((x.i + 1 : Nat)))]) (fun x => x.J) (fun x => (x.b, .cells (gv e l m x.i ++ x.sp).toArray 9 (0, 0)) :: (b3, .cells [.string (str e.tree.atom), .slice oc e.tree.parts.length cc].toArray 54 (0, 0)) :: L) (fun x => HLe I x.J ∧ x.i ≤ e.sub.length ∧ BufOk 1 x.i x.c (gv e l m x.i) (some (x.b, x.sp))) ⟨I, 0, b106, [], 0⟩ ⟨.refl _, Nat.zero_le _, ⟨rfl, Nat.le_refl _, rfl⟩⟩ ⟨rfl, rfl, rfl, rfl, rfl, rfl, trivial⟩ (by intro _ h; exact h) ?_
  rintro ⟨J, i, bb, sp, cb⟩ ⟨ez, hi, hB⟩ ih
  simp only at ez hi hB ih ⊢
  have hf := hf.mono ez
  have he := he.mono ez
  have hn3 : e.sub.length ≤ 3 := by cases e <;> simp [Ex.sub]
  refine s_seq ?_
  refine Se rfl ?_
  refine Om rfl ?_
  refine o_fieldAddr rfl .free rfl ?_
  refine o_lO1 rfl .free rfl ?_
  refine o_len_slice rfl .free rfl ?_
  refine o_cmp rfl rfl rfl .free rfl ?_
  refine o_done ?_
  refine s_cond rfl ?_ ?_
  ·intro c6
   try simp only [nb] at c6
   have hi1 : i < e.sub.length := by omega
   obtain ⟨hs1, hs2, hs3⟩ := sub_facts (List.getElem_mem hi1)
   have hs3 := hs3 hok
   have hspt := hp2 i hi1
   refine s_skip ?_
   refine s_seq ?_
   refine s_block ?_
   refine o_enter rfl ?_
   refine Om rfl ?_
   refine o_fieldAddr rfl .free rfl ?_
   refine o_lO1 rfl .free rfl ?_
   refine Om rfl ?_
   first | refine o_ixD rfl rfl _ rfl .free rfl ?_ | refine o_ixP rfl rfl _ rfl .free rfl ?_
   refine o_lIS rfl .free rfl ?_
   refine Om rfl ?_
   refine Om rfl ?_
   refine o_call rfl .free rfl (ihn (e := e.sub[i]) (by omega) he (rep_of (hf.rp (i + 1) (by omega)) hspt) hs3 (by unfold maxN; omega) _) ?_
   rintro _ J1 _ e1 ⟨rfl, rfl⟩
   refine o_lits rfl rfl (by rfl) (by rfl) (by rfl) (by decide) (by decide) (by rfl) .free rfl ?_
   intro b123
   refine o_append (B := some (bb, sp)) (xs := gv e l m i) (ys := [sv (tyT (e.sub[i].ty l m))]) (m := i) (c := cb) (by intro kk; simp) (by rfl) rfl rfl hB (fun _ h => h.f1) (by rfl) (fun a ha => by cases ha; exact reads_ownL (by first | exact m0 | exact m1 | exact m2 | exact m3 | exact m4 | exact m5 | exact m6 | exact List.mem_append_right _ m0 | exact List.mem_append_right _ m1 | exact List.mem_append_right _ m2 | exact List.mem_append_right _ m3 | exact .tail _ (List.mem_append_right _ m0) | exact .tail _ (List.mem_append_right _ m1) | exact .tail _ (List.mem_append_right _ m2) | exact .tail _ (List.mem_append_right _ m3)) (by rfl)) (by simp) (by rfl) (by decide) (by decide) (by omega) (by decide) .free rfl ?_
   intro b2 sp2 c2 hB2
   rw [← gv_succ hi1] at hB2 ⊢
   refine Oa rfl ?_
   refine o_done ?_
   refine s_inBlock ?_
   refine o_enter rfl ?_
   refine Om rfl ?_
   refine o_arith rfl rfl rfl (by omega) .free rfl ?_
   refine Oa rfl ?_
   refine o_done ?_
   exact s_env (E' := [(1, .slice oa l.length c), (2, .slice ob (tx m).length c'), (3, .pointer (some ⟨b3, 0, none⟩)), (6, .string (str [])), (12, .slice (some ⟨b2, 0, none⟩) (i + 1) c2), (13, .int .i64 ((i + 1 + 1 : Nat)))]) ⟨rfl, rfl, rfl, rfl, rfl, rfl, trivial⟩ (s_mem (fun w h => Mem.sub (L' := (b2, _) :: (b3, _) :: L) (by repeat (first | exact List.Sublist.refl _ | apply List.Sublist.cons_cons | apply List.Sublist.cons)) h) (ih ⟨J1, i + 1, b2, sp2, c2⟩ ⟨ez.trans e1, by simp only; omega, hB2⟩ (by simp only; omega)))
  intro c6
  try simp only [nb] at c6
  obtain rfl : i = e.sub.length := by omega
  have hgv : gv e l m e.sub.length = ((e.sub.map fun a => a.ty l m).map tyT).map sv := by unfold gv; rw [List.take_length]
  rw [hgv] at hB ⊢
  obtain ⟨o5, c5', hbv, hrd⟩ := buf_rd (I := J) (L := (b3, .cells [.string (str e.tree.atom), .slice oc e.tree.parts.length cc].toArray 54 (0, 0)) :: L) (e := 9) hB (by simp) (by simp; unfold maxN; omega)
  refine s_put (t := 12) rfl hbv ?_
  refine s_exit rfl ?_
  refine Se rfl ?_
  refine o_fieldAddr rfl .free rfl ?_
  refine o_lO1 rfl .free rfl ?_
  first | refine o_ixD rfl rfl 0 rfl .free rfl ?_ | refine o_ixP rfl rfl 0 rfl .free rfl ?_
  refine o_fieldAddr' rfl .free rfl ?_
  refine o_lIF rfl .free rfl ?_
  refine Om rfl ?_
  refine o_call rfl .free rfl (g_l3Join (e.tree.pt 0).atom (e.sub.map fun a => a.ty l m) hrd (fun o ho => by obtain ⟨a, h1, rfl⟩ := List.mem_map.1 ho; exact Ex.ty_small ((sub_facts h1).2.2 hok) he.small) (by rw [List.length_map, ← hhd]; exact har) _) ?_
  rintro _ J1 _ e1 ⟨rfl, rfl⟩
  refine Oa rfl ?_
  refine o_done ?_
  refine s_ret (.tmp rfl .nil) ?_
  exact ⟨J1, L, ez.trans e1, drops, by rw [hty, hhd]; rfl, rfl⟩
end Go.Proofs.YtjhjhepjchdpgaaGreatDoor


/- What has a type leans on no other names. No conditions. -/
namespace Go.Proofs.YtjhjhepjchdpgaaGreatDoor
set_option maxRecDepth 100000
set_option linter.unusedVariables false
set_option linter.unusedSimpArgs false

theorem lastAt_mem {l : List Txt} {s : Txt} {i : Nat} (h : lastIdx l s = some i) : s ∈ l := by
 obtain ⟨h1, h2⟩ := lastAt_lt (show lastAt l s l.length = some i from h)
 rw [← h2]; simp [h1]
theorem tyLook_mem {l : List Txt} {m : List Ty} {s : Txt} {t : Ty} (h : tyLook l m s = some t) : s ∈ l := by
 unfold tyLook at h
 cases hi : lastIdx l s with
 | none => rw [hi] at h; cases h
 | some i => exact lastAt_mem hi
theorem Ex.chk_occ : ∀ {e : Ex} {l : List Txt} {m : List Ty} {t : Ty}, e.chk l m = .ok t → ∀ x ∈ e.occ [], x ∈ l
 | .num _, l, m, t, h, x, hx => by cases hx
 | .name s, l, m, t, h, x, hx => by
  simp only [Ex.occ, List.not_mem_nil, if_false, List.mem_singleton] at hx
  subst hx
  simp only [Ex.chk] at h
  split at h
  ·rename_i h1; exact tyLook_mem h1
  ·cases h
 | .bin o a b, l, m, t, h, x, hx => by
  simp only [Ex.occ, List.mem_append] at hx
  simp only [Ex.chk] at h
  split at h
  ·cases h
  ·rename_i h1
   split at h
   ·cases h
   ·rename_i h2
    rcases hx with hx | hx
    ·exact Ex.chk_occ h1 x hx
    ·exact Ex.chk_occ h2 x hx
 | .ite a b c, l, m, t, h, x, hx => by
  simp only [Ex.occ, List.mem_append] at hx
  simp only [Ex.chk] at h
  split at h
  ·cases h
  ·rename_i h1
   split at h
   ·cases h
   ·rename_i h2
    split at h
    ·cases h
    ·rename_i h3
     rcases hx with (hx | hx) | hx
     ·exact Ex.chk_occ h1 x hx
     ·exact Ex.chk_occ h2 x hx
     ·exact Ex.chk_occ h3 x hx
 | .lt y a b, l, m, t, h, x, hx => by
  simp only [Ex.occ, List.mem_append, List.nil_append] at hx
  simp only [Ex.chk] at h
  split at h
  ·cases h
  ·rename_i h1
   rcases hx with hx | hx
   ·exact Ex.chk_occ h1 x hx
   ·rw [Ex.occ_mem] at hx
    have := Ex.chk_occ h x hx.1
    rcases List.mem_append.1 this with h2 | h2
    ·exact h2
    ·exact absurd h2 hx.2
 | .fn f y s t b, l, m, u, h, x, hx => by
  simp only [Ex.occ, List.nil_append] at hx
  rw [Ex.occ_mem] at hx
  simp only [Ex.chk] at h
  split at h
  ·split at h
   ·cases h
   ·rename_i h2
    have := Ex.chk_occ h2 x hx.1
    rcases List.mem_append.1 this with h3 | h3
    ·exact h3
    ·exact absurd h3 hx.2
  ·cases h
 | .un o a, l, m, t, h, x, hx => by
  simp only [Ex.occ] at hx
  simp only [Ex.chk] at h
  split at h
  ·cases h
  ·rename_i h1; exact Ex.chk_occ h1 x hx
theorem Ex.ty_occ {e : Ex} {l : List Txt} {m : List Ty} {t : Ty} (h : e.ty l m = some t) : ∀ x ∈ e.occ [], x ∈ l := by
 unfold Ex.ty at h
 split at h
 ·exact Ex.chk_occ (by assumption)
 ·cases h
theorem Ex.ty_closed {e : Ex} {t : Ty} (h : e.ty [] [] = some t) : e.closed = true := by
 unfold Ex.closed
 rw [List.isEmpty_iff]
 exact List.eq_nil_iff_forall_not_mem.2 fun x hx => by have := Ex.ty_occ h x hx; cases this
theorem isEnv_ex {l m : List Txt} (h : isEnv l m = true) : ∃ ms, m = tx ms ∧ tysOf m = ms ∧ smallL ms ∧ l.length = ms.length ∧ l.length ≤ 8 ∧ ∀ s ∈ l, isName s = true := by
 obtain ⟨h1, h2, h3, h4, h5, h6⟩ := isEnv_tys h
 exact ⟨tysOf m, h1, rfl, h2, h4, h5, h6⟩
/-- The type without any names. -/
def tyC (s : Txt) : Option Ty := (exOf s).bind fun e => e.ty [] []
end Go.Proofs.YtjhjhepjchdpgaaGreatDoor


/- What is read is an expression of bounded size. No conditions. -/
namespace Go.Proofs.YtjhjhepjchdpgaaGreatDoor
set_option maxRecDepth 100000
set_option linter.unusedVariables false
set_option linter.unusedSimpArgs false

theorem exOf_facts {s : Txt} {e : Ex} (h1 : exOf s = some e) : e.ok = true ∧ e.size ≤ 120 ∧ e.tree.len ≤ 12000 ∧ s = e.tree.text := by
 have h3 := (exOf_some h1).2.1
 simp only [Ex.fine, Bool.and_eq_true, Tree.fits, decide_eq_true_eq] at h3
 exact ⟨h3.1.1, h3.1.2, h3.2.2, (exOf_some h1).2.2⟩
theorem fine_eq {e : Ex} (h : e.ok = true) : (decide (e.tree.size ≤ 120) && e.tree.fits && e.tree.ex.isSome) = e.fine := by
 simp [Ex.tree_size, Ex.tree_ex h, Ex.fine, h]
theorem f_fine {I : Heap} {e : Ex} {cs : List Value} (h : Rep I e.tree cs) (hok : e.ok = true) (hz : e.tree.len ≤ 12000000) (L : Own) : Fun Tryz.prog 34 [.agg cs.toArray] I L (Only (.bool e.fine) I L) := by
 rw [← fine_eq hok]; exact f_form_isExpression h (Ex.tree_good hok).1 hz L
theorem RX_get {p : Option Ex} {t : Tree} {ok : Bool} (hpf : match p with | some e => ok = true ∧ t = e.tree | none => ok = false) : (ok = false → p = none) ∧ (ok = true → ∃ e, p = some e ∧ t = e.tree) := by
 cases p with
 | none => exact ⟨fun _ => rfl, fun h => (by rw [hpf] at h; cases h)⟩
 | some e => exact ⟨fun h => (by rw [hpf.1] at h; cases h), fun _ => ⟨e, rfl, hpf.2⟩⟩
end Go.Proofs.YtjhjhepjchdpgaaGreatDoor


/- 'ExprType' and 'ExprTyped', by the program and by the reference. No conditions. -/
namespace Go.Proofs.YtjhjhepjchdpgaaGreatDoor
set_option maxRecDepth 100000
set_option linter.unusedVariables false
set_option linter.unusedSimpArgs false

theorem rep_forms {I : Heap} {ts : List Tree} {oa : Option Addr} {c : Nat} (h : Rep I (.node [] ts) [.string (str []), .slice oa ts.length c]) : Forms I oa ts c := by
 obtain ⟨oa', c', vs, he, hl, hs, hn, hc, ha, hp⟩ := h.open
 simp only [List.cons.injEq, Value.slice.injEq, and_true, true_and] at he
 obtain ⟨-, rfl, -, rfl⟩ := he
 exact ⟨⟨vs, hl, hs⟩, hn, hc, hp⟩
theorem f_ExprType {I : Heap} {oa ob : Option Addr} {l m : List Txt} {c c' : Nat} (h : Strs I oa l c) (h' : Strs I ob m c') (s : Txt) (hs : s.length ≤ maxN) (L : Own) :
  Fun Tryz.prog 5 [.slice oa l.length c, .slice ob m.length c', .string (str s)] I L (EL (exTy l m s) L) := by
 refine fun_intro (by simp) ?_
 refine Se rfl ?_
 refine Oa rfl ?_
 refine Oa rfl ?_
 refine o_done ?_
 refine Se rfl ?_
 refine Om rfl ?_
 refine Om rfl ?_
 refine o_call rfl .free rfl (f_readEnv h h' _) ?_
 rintro _ J1 _ e1 ⟨oa', n, c2, ob', ts, c3, rfl, rfl, hrt, henv⟩
 refine Om rfl ?_
 refine o_extract rfl rfl .free rfl ?_
 refine o_extract rfl rfl .free rfl ?_
 refine o_alloc .free rfl ?_
 intro b8
 refine o_st rfl rfl rfl rfl .free ?_
 refine Oa rfl ?_
 refine o_done ?_
 refine Se rfl ?_
 refine Om rfl ?_
 refine o_call rfl .free rfl (f_readExpr s hs _ _) ?_
 rintro _ J2 _ e2 ⟨t, cs, ok, rfl, hrep, rfl, hpf⟩
 obtain ⟨o1, k1, _, rfl, -⟩ := hrep.open
 have g1 := RX_get hpf
 have hle := e1.trans e2
 refine Om rfl ?_
 refine o_extract rfl rfl .free rfl ?_
 refine o_extract rfl rfl .free rfl ?_
 refine o_alloc .free rfl ?_
 intro b10
 refine o_st rfl rfl rfl rfl .free ?_
 refine Oa rfl ?_
 refine o_done ?_
 refine s_seq ?_
 refine Se rfl ?_
 refine Om rfl ?_
 refine o_not rfl .free rfl ?_
 refine Om rfl ?_
 apply o_or 28 31 rfl
 ·intro g3_3 hk
  try simp only [nb] at g3_3
  refine o_move rfl (.met rfl rfl) rfl ?_
  refine o_not rfl (.met rfl rfl) rfl ?_
  refine o_pick_false rfl rfl .free rfl ?_
  exact o_fin 2 rfl rfl hk
 ·intro _ hk
  refine o_skips 2 rfl ?_
  refine o_pick_true rfl rfl .free rfl ?_
  exact o_fin 2 rfl rfl hk
 refine o_done ?_
 refine s_cond rfl ?_ ?_
 ·intro c0
  try simp only [nb] at c0
  refine Se rfl ?_
  refine Oa rfl ?_
  refine Oa rfl ?_
  refine o_done ?_
  refine s_ret (.tmp rfl (.tmp rfl .nil)) ?_
  refine ⟨J2, L, hle, drops, ?_, rfl⟩
  rw [exTy_no (by rcases c0 with h | h; exact .inl h; exact .inr (g1.1 h))]; rfl
 intro c0
 try simp only [nb] at c0
 obtain ⟨he, hok⟩ := c0
 obtain ⟨rfl, rfl, rfl, hts⟩ := henv he
 obtain ⟨e, hx, rfl⟩ := g1.2 hok
 obtain ⟨hek, hez, hel, -⟩ := exOf_facts hx
 obtain ⟨h1, h2, h3, h4, h5, h6⟩ := isEnv_tys he
 have hts2 : ts = (tysOf m).map Ty.tree := by
  have := h3.symm.trans hts
  exact (List.map_inj_right (fun a b h => Option.some.inj h)).1 this.symm
 subst hts2
 have hty := exTy_of he hx
 refine s_skip ?_
 refine Se rfl ?_
 refine o_lOS rfl .free rfl ?_
 refine o_lOS rfl .free rfl ?_
 refine o_call rfl .free rfl (f_env_typeOf _ (Nat.lt_succ_self _) ⟨h.mono hle, (rep_forms hrt).mono e2, h4, h2⟩ hrep hek (by unfold maxN; omega) _) ?_
 rintro _ J3 _ e3 ⟨u, cs, w', ds, ok', rfl, hru, hrw, rfl, hm⟩
 obtain ⟨o4, k4, _, rfl, -⟩ := hru.open
 obtain ⟨o5, k5, _, rfl, -⟩ := hrw.open
 have hle := hle.trans e3
 refine Om rfl ?_
 iterate 3 refine o_extract rfl rfl .free rfl ?_
 refine o_alloc .free rfl ?_
 intro b12
 refine o_alloc .free rfl ?_
 intro b13
 refine o_st rfl rfl rfl rfl .free ?_
 refine o_st rfl rfl rfl rfl .free ?_
 refine Oa rfl ?_
 refine o_done ?_
 refine s_seq ?_
 refine Se rfl ?_
 refine Om rfl ?_
 refine o_not rfl .free rfl ?_
 refine o_done ?_
 refine s_cond rfl ?_ ?_
 ·intro c1
  try simp only [nb] at c1
  refine Se rfl ?_
  refine Oa rfl ?_
  refine Oa rfl ?_
  refine o_done ?_
  refine s_ret (.tmp rfl (.tmp rfl .nil)) ?_
  refine ⟨J3, L, hle, drops, ?_, rfl⟩
  obtain ⟨y, hy, -⟩ := to_no hm (by simpa using c1)
  rw [hty, show e.ty l (tysOf m) = none by unfold Ex.ty; rw [hy]]; rfl
 intro c1
 try simp only [nb] at c1
 obtain ⟨ty, hy, rfl⟩ := to_ok hm (by simpa using c1)
 have hsm := Ex.chk_small hek h2 hy
 have htl := Ty.text_len hsm
 refine s_skip ?_
 refine Se rfl ?_
 refine o_lOS rfl .free rfl ?_
 refine o_call rfl .free rfl (f_form_text hru (by unfold maxN; omega) _) ?_
 rintro _ _ _ _ ⟨rfl, rfl, rfl⟩
 refine Oa rfl ?_
 refine Oa rfl ?_
 refine o_done ?_
 refine s_ret (.tmp rfl (.tmp rfl .nil)) ?_
 refine ⟨J3, L, hle, drops, ?_, rfl⟩
 rw [hty, show e.ty l (tysOf m) = some ty by unfold Ex.ty; rw [hy]]; rfl
theorem g_ExprType {I : Heap} {oa ob : Option Addr} {l m : List Txt} {c c' : Nat} (h : Strs I oa l c) (h' : Strs I ob m c') (s : Txt) (hs : s.length ≤ maxL) (L : Own) :
  Fun Tryz.prog 6 [.slice oa l.length c, .slice ob m.length c', .string (str s)] I L (EL (exTy l m s) L) := by
 refine fun_intro (by simp) ?_
 refine Se rfl ?_
 refine Oa rfl ?_
 refine Oa rfl ?_
 refine o_done ?_
 refine Se rfl ?_
 refine Om rfl ?_
 refine o_call rfl .free rfl (g_l2Parse' s hs _ _) ?_
 rintro _ J1 _ e1 ⟨t, cs, ok, rfl, hrep, rfl, hpf⟩
 obtain ⟨o1, k1, _, rfl, -⟩ := hrep.open
 have g1 := RX_get hpf
 refine Om rfl ?_
 refine o_extract rfl rfl .free rfl ?_
 refine o_extract rfl rfl .free rfl ?_
 refine o_alloc .free rfl ?_
 intro b8
 refine o_st rfl rfl rfl rfl .free ?_
 refine Oa rfl ?_
 refine o_done ?_
 refine s_seq ?_
 refine Se rfl ?_
 refine Om rfl ?_
 refine o_not rfl .free rfl ?_
 refine Om rfl ?_
 apply o_or 18 23 rfl
 ·intro g2_3 hk
  try simp only [nb] at g2_3
  refine o_move rfl (.met rfl rfl) rfl ?_
  refine o_move rfl (.met rfl rfl) rfl ?_
  refine o_call rfl (.met rfl rfl) rfl (g_EnvValid (h.mono e1) (h'.mono e1) _) ?_
  rintro _ J2 _ e2 ⟨rfl, rfl⟩
  refine o_mem (fun w h => Mem.le e2 h) ?_
  refine o_not rfl (.met rfl rfl) rfl ?_
  refine o_pick_false rfl rfl .free rfl ?_
  exact o_fin 4 rfl rfl hk
 ·intro _ hk
  refine o_skips 4 rfl ?_
  refine o_pick_true rfl rfl .free rfl ?_
  exact o_fin 4 rfl rfl hk
 refine o_done ?_
 refine s_cond rfl ?_ ?_
 ·intro c0
  try simp only [nb] at c0
  refine Se rfl ?_
  refine Oa rfl ?_
  refine Oa rfl ?_
  refine o_done ?_
  refine s_ret (.tmp rfl (.tmp rfl .nil)) ?_
  refine ⟨J1, L, e1, drops, ?_, rfl⟩
  rw [exTy_no (by rcases c0 with h | h; exact .inr (g1.1 h); exact .inl h)]; rfl
 intro c0
 try simp only [nb] at c0
 obtain ⟨hok, he⟩ := c0
 obtain ⟨e, hx, rfl⟩ := g1.2 hok
 obtain ⟨hek, hez, hel, -⟩ := exOf_facts hx
 obtain ⟨ms, rfl, hms, h2, h4, h5, h6⟩ := isEnv_ex he
 have hty := exTy_of he hx
 rw [hms] at hty
 refine s_skip ?_
 refine Se rfl ?_
 refine o_lOS rfl .free rfl ?_
 refine Om rfl ?_
 refine Om rfl ?_
 refine o_call rfl .free rfl (g_l3Type _ (Nat.lt_succ_self _) ⟨h.mono e1, h'.mono e1, h4, h2⟩ hrep hek (by unfold maxN; omega) _) ?_
 rintro _ J3 _ e3 ⟨rfl, rfl⟩
 have hle := e1.trans e3
 refine Oa rfl ?_
 refine o_done ?_
 refine Se rfl ?_
 refine Om rfl ?_
 refine Om rfl ?_
 refine o_cmps rfl rfl rfl .free rfl ?_
 refine Oa rfl ?_
 refine Oa rfl ?_
 refine o_done ?_
 refine s_ret (.tmp rfl (.tmp rfl .nil)) ?_
 refine ⟨J3, L, hle, drops, ?_, rfl⟩
 rw [hty]
 cases e.ty l ms with
 | none => rfl
 | some ty => simp [retOne, tyT, ty.text_ne]
end Go.Proofs.YtjhjhepjchdpgaaGreatDoor


/- The first expression without a type. No conditions. -/
namespace Go.Proofs.YtjhjhepjchdpgaaGreatDoor
set_option maxRecDepth 100000
set_option linter.unusedVariables false
set_option linter.unusedSimpArgs false

theorem Ex.text_ne {e : Ex} (h : e.ok = true) : e.tree.text ≠ [] := by
 cases e with
 | num s => exact isNum_ne h
 | name s => exact isName_ne h
 | _ => simp [Ex.tree, Tree.text]
/-- The text of the first expression without a type, the empty one if there is none. -/
def Ex.flt (e : Ex) (l : List Txt) (m : List Ty) : Txt := match e.chk l m with
 | .ok _ => []
 | .error x => x.tree.text
end Go.Proofs.YtjhjhepjchdpgaaGreatDoor


/- The first expression without a type, by the reference. No conditions. -/
namespace Go.Proofs.YtjhjhepjchdpgaaGreatDoor
set_option maxRecDepth 100000
set_option linter.unusedVariables false
set_option linter.unusedSimpArgs false

/-- Where the loop over the parts stands. -/
structure FS where
 J : Heap
 ts : List Ty
def FS.is (e : Ex) (l : List Txt) (m : List Ty) (J0 : Heap) (x : FS) : Prop := HLe J0 x.J ∧ x.ts.length ≤ e.sub.length ∧ smallL x.ts ∧
 e.runs l m = e.run l m (e.sub.drop x.ts.length) ((kids e.tree).drop x.ts.length) x.ts ∧ (∀ y a b, e = .lt y a b → x.ts.length = 1 → a.chk l m = .ok (x.ts.getD 0 .i))
end Go.Proofs.YtjhjhepjchdpgaaGreatDoor


/- 'ExprFault', by the program and by the reference. No conditions. -/
namespace Go.Proofs.YtjhjhepjchdpgaaGreatDoor
set_option maxRecDepth 100000
set_option linter.unusedVariables false
set_option linter.unusedSimpArgs false

/-- What 'ExprFault' returns. -/
def faultOf (s : Txt) : Option Txt := match closedOf s with
 | some e => match e.chk [] [] with
  | .error x => some x.tree.text
  | .ok _ => none
 | none => none
end Go.Proofs.YtjhjhepjchdpgaaGreatDoor

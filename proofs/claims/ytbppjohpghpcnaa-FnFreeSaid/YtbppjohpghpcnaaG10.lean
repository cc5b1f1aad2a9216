/- The type of an expression by its text, by the reference: the walk. No conditions. -/
import Derived.Test.YtbppjohpghpcnaaG9
namespace Go.Proofs.Ytbppjohpghpcnaa
set_option maxRecDepth 100000
set_option linter.unusedVariables false
set_option linter.unusedSimpArgs false

structure EnvG (I : Heap) (l : List Txt) (m : List Ty) (oa : Option Addr) (c : Nat) (ob : Option Addr) (c' : Nat) : Prop where
  names : Strs I oa l c
  types : Strs I ob (tx m) c'
  len : l.length = m.length
  small : smallL m
theorem EnvG.mono {I I' : Heap} (hle : HLe I I') {l : List Txt} {m : List Ty} {oa : Option Addr} {c : Nat} {ob : Option Addr} {c' : Nat} (h : EnvG I l m oa c ob c') : EnvG I' l m oa c ob c' :=
  ⟨h.names.mono hle, h.types.mono hle, h.len, h.small⟩
/-- What the loop over the parts has gathered. -/
structure GS where
  J : Heap
  i : Nat
  b : Nat
  sp : List Value
  c : Nat
def gv (e : Ex) (l : List Txt) (m : List Ty) (i : Nat) : List Value := (((e.sub.take i).map fun a => a.ty l m).map tyT).map sv
theorem gv_succ {e : Ex} {l : List Txt} {m : List Ty} {i : Nat} (h : i < e.sub.length) : gv e l m (i + 1) = gv e l m i ++ [sv (tyT (e.sub[i].ty l m))] := by
  unfold gv; rw [List.take_succ_eq_append_getElem h]; simp only [List.map_append, List.map_cons, List.map_nil]
end Go.Proofs.Ytbppjohpghpcnaa


/- What has a type leans on no other names. No conditions. -/
namespace Go.Proofs.Ytbppjohpghpcnaa
set_option maxRecDepth 100000
set_option linter.unusedVariables false
set_option linter.unusedSimpArgs false

theorem lastAt_mem {l : List Txt} {s : Txt} {i : Nat} (h : lastIdx l s = some i) : s ∈ l := by
  obtain ⟨h1, h2⟩ := lastAt_lt (show lastAt l s l.length = some i from h)
  rw [← h2]; simp [h1]
theorem tyLook_mem {l : List Txt} {m : List Ty} {s : Txt} {t : Ty} (h : tyLook l m s = some t) : s ∈ l := by
  unfold tyLook at h
  cases hi : lastIdx l s with
  | none => rw [hi] at h; cases h
  | some i => exact lastAt_mem hi
theorem Ex.chk_occ : ∀ {e : Ex} {l : List Txt} {m : List Ty} {t : Ty}, e.chk l m = .ok t → ∀ x ∈ e.occ [], x ∈ l
  | .num _, l, m, t, h, x, hx => by cases hx
  | .name s, l, m, t, h, x, hx => by
    simp only [Ex.occ, List.not_mem_nil, if_false, List.mem_singleton] at hx
    subst hx
    simp only [Ex.chk] at h
    split at h
    · rename_i h1; exact tyLook_mem h1
    · cases h
  | .bin o a b, l, m, t, h, x, hx => by
    simp only [Ex.occ, List.mem_append] at hx
    simp only [Ex.chk] at h
    split at h
    · cases h
    · rename_i h1
      split at h
      · cases h
      · rename_i h2
        rcases hx with hx | hx
        · exact Ex.chk_occ h1 x hx
        · exact Ex.chk_occ h2 x hx
  | .ite a b c, l, m, t, h, x, hx => by
    simp only [Ex.occ, List.mem_append] at hx
    simp only [Ex.chk] at h
    split at h
    · cases h
    · rename_i h1
      split at h
      · cases h
      · rename_i h2
        split at h
        · cases h
        · rename_i h3
          rcases hx with (hx | hx) | hx
          · exact Ex.chk_occ h1 x hx
          · exact Ex.chk_occ h2 x hx
          · exact Ex.chk_occ h3 x hx
  | .lt y a b, l, m, t, h, x, hx => by
    simp only [Ex.occ, List.mem_append, List.nil_append] at hx
    simp only [Ex.chk] at h
    split at h
    · cases h
    · rename_i h1
      rcases hx with hx | hx
      · exact Ex.chk_occ h1 x hx
      · rw [Ex.occ_mem] at hx
        have := Ex.chk_occ h x hx.1
        rcases List.mem_append.1 this with h2 | h2
        · exact h2
        · exact absurd h2 hx.2
  | .fn f y s t b, l, m, u, h, x, hx => by
    simp only [Ex.occ, List.nil_append] at hx
    rw [Ex.occ_mem] at hx
    simp only [Ex.chk] at h
    split at h
    · split at h
      · cases h
      · rename_i h2
        have := Ex.chk_occ h2 x hx.1
        rcases List.mem_append.1 this with h3 | h3
        · exact h3
        · exact absurd h3 hx.2
    · cases h
  | .un o a, l, m, t, h, x, hx => by
    simp only [Ex.occ] at hx
    simp only [Ex.chk] at h
    split at h
    · cases h
    · rename_i h1; exact Ex.chk_occ h1 x hx
theorem Ex.ty_occ {e : Ex} {l : List Txt} {m : List Ty} {t : Ty} (h : e.ty l m = some t) : ∀ x ∈ e.occ [], x ∈ l := by
  unfold Ex.ty at h
  split at h
  · exact Ex.chk_occ (by assumption)
  · cases h
theorem Ex.ty_closed {e : Ex} {t : Ty} (h : e.ty [] [] = some t) : e.closed = true := by
  unfold Ex.closed
  rw [List.isEmpty_iff]
  exact List.eq_nil_iff_forall_not_mem.2 fun x hx => by have := Ex.ty_occ h x hx; cases this
theorem isEnv_ex {l m : List Txt} (h : isEnv l m = true) : ∃ ms, m = tx ms ∧ tysOf m = ms ∧ smallL ms ∧ l.length = ms.length ∧ l.length ≤ 8 ∧ ∀ s ∈ l, isName s = true := by
  obtain ⟨h1, h2, h3, h4, h5, h6⟩ := isEnv_tys h
  exact ⟨tysOf m, h1, rfl, h2, h4, h5, h6⟩
/-- The type without any names. -/
def tyC (s : Txt) : Option Ty := (exOf s).bind fun e => e.ty [] []
theorem exTy_nil (s : Txt) : exTy [] [] s = (tyC s).map fun t => t.tree.text := by
  unfold exTy tyC
  rw [if_pos isEnv_nil]
  cases exOf s <;> rfl
end Go.Proofs.Ytbppjohpghpcnaa


/- What is read is an expression of bounded size. No conditions. -/
namespace Go.Proofs.Ytbppjohpghpcnaa
set_option maxRecDepth 100000
set_option linter.unusedVariables false
set_option linter.unusedSimpArgs false

theorem closedOf_facts {s : Txt} {e : Ex} (h : closedOf s = some e) : exOf s = some e ∧ e.ok = true ∧ e.size ≤ 120 ∧ e.tree.len ≤ 12000 ∧ e.closed = true := by
  obtain ⟨h1, h2⟩ := closedOf_some h
  have h3 := (exOf_some h1).2.1
  simp only [Ex.fine, Bool.and_eq_true, Tree.fits, decide_eq_true_eq] at h3
  exact ⟨h1, h3.1.1, h3.1.2, h3.2.2, h2⟩
theorem exOf_facts {s : Txt} {e : Ex} (h1 : exOf s = some e) : e.ok = true ∧ e.size ≤ 120 ∧ e.tree.len ≤ 12000 ∧ s = e.tree.text := by
  have h3 := (exOf_some h1).2.1
  simp only [Ex.fine, Bool.and_eq_true, Tree.fits, decide_eq_true_eq] at h3
  exact ⟨h3.1.1, h3.1.2, h3.2.2, (exOf_some h1).2.2⟩
theorem fine_eq {e : Ex} (h : e.ok = true) : (decide (e.tree.size ≤ 120) && e.tree.fits && e.tree.ex.isSome) = e.fine := by
  simp [Ex.tree_size, Ex.tree_ex h, Ex.fine, h]
theorem f_fine {I : Heap} {e : Ex} {cs : List Value} (h : Rep I e.tree cs) (hok : e.ok = true) (hz : e.tree.len ≤ 12000000) (L : Own) : Fun Try.prog 25 [.agg cs.toArray] I L (Only (.bool e.fine) I L) := by
  rw [← fine_eq hok]; exact f_form_isExpression h (Ex.tree_good hok).1 hz L
theorem RX_get {p : Option Ex} {t : Tree} {ok : Bool} (hpf : match p with | some e => ok = true ∧ t = e.tree | none => ok = false) : (ok = false → p = none) ∧ (ok = true → ∃ e, p = some e ∧ t = e.tree) := by
  cases p with
  | none => exact ⟨fun _ => rfl, fun h => (by rw [hpf] at h; cases h)⟩
  | some e => exact ⟨fun h => (by rw [hpf.1] at h; cases h), fun _ => ⟨e, rfl, hpf.2⟩⟩
end Go.Proofs.Ytbppjohpghpcnaa


/- 'ExprType' and 'ExprTyped', by the program and by the reference. No conditions. -/
namespace Go.Proofs.Ytbppjohpghpcnaa
set_option maxRecDepth 100000
set_option linter.unusedVariables false
set_option linter.unusedSimpArgs false

theorem rep_forms {I : Heap} {ts : List Tree} {oa : Option Addr} {c : Nat} (h : Rep I (.node [] ts) [.string (str []), .slice oa ts.length c]) : Forms I oa ts c := by
  obtain ⟨oa', c', vs, he, hl, hs, hn, hc, ha, hp⟩ := h.open
  simp only [List.cons.injEq, Value.slice.injEq, and_true, true_and] at he
  obtain ⟨-, rfl, -, rfl⟩ := he
  exact ⟨⟨vs, hl, hs⟩, hn, hc, hp⟩
end Go.Proofs.Ytbppjohpghpcnaa


/- The first expression without a type. No conditions. -/
namespace Go.Proofs.Ytbppjohpghpcnaa
set_option maxRecDepth 100000
set_option linter.unusedVariables false
set_option linter.unusedSimpArgs false

theorem Ex.text_ne {e : Ex} (h : e.ok = true) : e.tree.text ≠ [] := by
  cases e with
  | num s => exact isNum_ne h
  | name s => exact isName_ne h
  | _ => simp [Ex.tree, Tree.text]
/-- What has no type stands in the expression. -/
theorem Ex.err_facts : ∀ {e : Ex} {l : List Txt} {m : List Ty} {x : Ex}, e.chk l m = .error x → x.tree.len ≤ e.tree.len ∧ x.size ≤ e.size ∧ (e.ok = true → x.ok = true)
  | .num _, l, m, x, h => by cases h
  | .name s, l, m, x, h => by
    simp only [Ex.chk] at h
    split at h
    · cases h
    · cases h; exact ⟨Nat.le_refl _, Nat.le_refl _, fun h => h⟩
  | .bin o a b, l, m, x, h => by
    have l1 := (Ex.bin o a b).tree.pt_len 1 (show 1 < 3 by decide)
    have l2 := (Ex.bin o a b).tree.pt_len 2 (show 2 < 3 by decide)
    change a.tree.len + 2 ≤ _ at l1
    change b.tree.len + 2 ≤ _ at l2
    simp only [Ex.ok, Bool.and_eq_true, Ex.size]
    simp only [Ex.chk] at h
    split at h
    · rename_i h1; cases h; obtain ⟨g1, g2, g3⟩ := Ex.err_facts h1; exact ⟨by omega, by omega, fun h => g3 h.1⟩
    · split at h
      · rename_i h1; cases h; obtain ⟨g1, g2, g3⟩ := Ex.err_facts h1; exact ⟨by omega, by omega, fun h => g3 h.2⟩
      · split at h
        · cases h
        · cases h; exact ⟨Nat.le_refl _, Nat.le_refl _, fun h => by simpa [Ex.ok] using h⟩
  | .ite a b c, l, m, x, h => by
    have l1 := (Ex.ite a b c).tree.pt_len 1 (show 1 < 4 by decide)
    have l2 := (Ex.ite a b c).tree.pt_len 2 (show 2 < 4 by decide)
    have l3 := (Ex.ite a b c).tree.pt_len 3 (show 3 < 4 by decide)
    change a.tree.len + 2 ≤ _ at l1
    change b.tree.len + 2 ≤ _ at l2
    change c.tree.len + 2 ≤ _ at l3
    simp only [Ex.ok, Bool.and_eq_true, Ex.size]
    simp only [Ex.chk] at h
    split at h
    · rename_i h1; cases h; obtain ⟨g1, g2, g3⟩ := Ex.err_facts h1; exact ⟨by omega, by omega, fun h => g3 h.1.1⟩
    · split at h
      · rename_i h1; cases h; obtain ⟨g1, g2, g3⟩ := Ex.err_facts h1; exact ⟨by omega, by omega, fun h => g3 h.1.2⟩
      · split at h
        · rename_i h1; cases h; obtain ⟨g1, g2, g3⟩ := Ex.err_facts h1; exact ⟨by omega, by omega, fun h => g3 h.2⟩
        · split at h
          · cases h
          · cases h; exact ⟨Nat.le_refl _, Nat.le_refl _, fun h => by simpa [Ex.ok] using h⟩
  | .lt y a b, l, m, x, h => by
    have l1 := (Ex.lt y a b).tree.pt_len 2 (show 2 < 4 by decide)
    have l2 := (Ex.lt y a b).tree.pt_len 3 (show 3 < 4 by decide)
    change a.tree.len + 2 ≤ _ at l1
    change b.tree.len + 2 ≤ _ at l2
    simp only [Ex.ok, Bool.and_eq_true, Ex.size]
    simp only [Ex.chk] at h
    split at h
    · rename_i h1; cases h; obtain ⟨g1, g2, g3⟩ := Ex.err_facts h1; exact ⟨by omega, by omega, fun h => g3 h.1.2⟩
    · obtain ⟨g1, g2, g3⟩ := Ex.err_facts h; exact ⟨by omega, by omega, fun h => g3 h.2⟩
  | .fn f y s t b, l, m, x, h => by
    have l1 := (Ex.fn f y s t b).tree.pt_len 5 (show 5 < 6 by decide)
    change b.tree.len + 2 ≤ _ at l1
    simp only [Ex.chk] at h
    split at h
    · split at h
      · rename_i h1; cases h; obtain ⟨g1, g2, g3⟩ := Ex.err_facts h1
        refine ⟨by omega, by simp only [Ex.size]; omega, fun h => g3 ?_⟩
        simp only [Ex.ok, Bool.and_eq_true] at h; exact h.2
      · split at h
        · cases h
        · cases h; exact ⟨Nat.le_refl _, Nat.le_refl _, fun h => h⟩
    · cases h; exact ⟨Nat.le_refl _, Nat.le_refl _, fun h => h⟩
  | .un o a, l, m, x, h => by
    have l1 := (Ex.un o a).tree.pt_len 1 (show 1 < 2 by decide)
    change a.tree.len + 2 ≤ _ at l1
    simp only [Ex.ok, Ex.size]
    simp only [Ex.chk] at h
    split at h
    · rename_i h1; cases h; obtain ⟨g1, g2, g3⟩ := Ex.err_facts h1; exact ⟨by omega, by omega, fun h => g3 h⟩
    · split at h
      · cases h
      · cases h; exact ⟨Nat.le_refl _, Nat.le_refl _, fun h => h⟩
/-- The text of the first expression without a type, the empty one if there is none. -/
def Ex.flt (e : Ex) (l : List Txt) (m : List Ty) : Txt := match e.chk l m with
  | .ok _ => []
  | .error x => x.tree.text
theorem flt_nil {e : Ex} {l : List Txt} {m : List Ty} (hok : e.ok = true) : e.flt l m = [] ↔ ∃ t, e.chk l m = .ok t := by
  unfold Ex.flt
  cases h : e.chk l m with
  | ok t => exact ⟨fun _ => ⟨t, rfl⟩, fun _ => rfl⟩
  | error x =>
    have := Ex.text_ne ((Ex.err_facts h).2.2 hok)
    exact ⟨fun h => absurd h this, by rintro ⟨t, ht⟩; cases ht⟩
theorem tyLook_some {l : List Txt} {m : List Ty} {s : Txt} (hl : l.length = m.length) (h : s ∈ l) : ∃ t, tyLook l m s = some t := by
  unfold tyLook
  obtain ⟨i, hi, he⟩ := List.mem_iff_getElem.1 h
  have key : ∀ n, i < n → ∃ j, lastAt l s n = some j := by
    intro n
    induction n with
    | zero => intro h; omega
    | succ n ih =>
      intro hn
      simp only [lastAt]
      by_cases h1 : l.getD n [] = s
      · exact ⟨n, if_pos h1⟩
      · rw [if_neg h1]
        rcases Nat.lt_or_ge i n with h2 | h2
        · exact ih h2
        · obtain rfl : i = n := by omega
          exact absurd (by simp [hi, he]) h1
  obtain ⟨j, hj⟩ := key l.length hi
  have h1 := (lastAt_lt hj).1
  rw [show lastIdx l s = some j from hj]
  exact ⟨m[j]'(by omega), by simp [show j < m.length by omega]⟩
/-- The names that stand free in a part are known there. -/
theorem occ_kid {e : Ex} {l : List Txt} (h : ∀ x ∈ e.occ [], x ∈ l) (j : Nat) (hj : j < e.sub.length) : ∀ x ∈ (e.sub[j]).occ [], x ∈ e.inL ((kids e.tree).getD j 0) l := by
  cases e with
  | num s => simp [Ex.sub] at hj
  | name s => simp [Ex.sub] at hj
  | bin o a b =>
    simp only [Ex.occ, List.mem_append] at h
    match j, hj with
    | 0, _ => exact fun x hx => h x (.inl hx)
    | 1, _ => exact fun x hx => h x (.inr hx)
  | un o a =>
    match j, hj with
    | 0, _ => exact fun x hx => h x hx
  | ite a b c =>
    simp only [Ex.occ, List.mem_append] at h
    match j, hj with
    | 0, _ => exact fun x hx => h x (.inl (.inl hx))
    | 1, _ => exact fun x hx => h x (.inl (.inr hx))
    | 2, _ => exact fun x hx => h x (.inr hx)
  | lt y a b =>
    simp only [Ex.occ, List.mem_append, List.nil_append] at h
    match j, hj with
    | 0, _ => exact fun x hx => h x (.inl hx)
    | 1, _ =>
      intro x hx
      change x ∈ l ++ [y]
      by_cases hy : x ∈ [y]
      · exact List.mem_append_right _ hy
      · exact List.mem_append_left _ (h x (.inr (Ex.occ_mem.2 ⟨hx, hy⟩)))
  | fn f y s t b =>
    simp only [Ex.occ, List.nil_append] at h
    match j, hj with
    | 0, _ =>
      intro x hx
      change x ∈ l ++ [f] ++ [y]
      by_cases hy : x ∈ [f, y]
      · rw [List.append_assoc]; exact List.mem_append_right _ hy
      · rw [List.append_assoc]; exact List.mem_append_left _ (h x (Ex.occ_mem.2 ⟨hx, hy⟩))
theorem kids_from (e : Ex) (hb : e.bare = false) : (kidRange e.tree.head).1 + e.sub.length = (kidRange e.tree.head).2 ∧ ∀ j, j < e.sub.length → (kids e.tree).getD j 0 = (kidRange e.tree.head).1 + j := by
  have key : ∀ (a n : Nat), kids e.tree = List.range' a n → (kidRange e.tree.head).1 = a → a + n = (kidRange e.tree.head).2 → e.sub.length = n → (kidRange e.tree.head).1 + e.sub.length = (kidRange e.tree.head).2 ∧ ∀ j, j < e.sub.length → (kids e.tree).getD j 0 = (kidRange e.tree.head).1 + j := by
    intro a n h1 h2 h3 h4
    refine ⟨by omega, fun j hj => ?_⟩
    rw [h1, h2]; simp [show j < n by omega]
  cases e with
  | num s => cases hb
  | name s => cases hb
  | bin o a b =>
    have hk : kidRange (Ex.bin o a b).tree.head = (1, 3) := by cases o <;> rfl
    exact key 1 2 (kids_bin o a b) (by rw [hk]) (by rw [hk]) rfl
  | un o a =>
    have hk : kidRange (Ex.un o a).tree.head = (1, 2) := by cases o <;> rfl
    exact key 1 1 (kids_un o a) (by rw [hk]) (by rw [hk]) rfl
  | ite a b c => exact key 1 3 rfl rfl rfl rfl
  | lt x a b => exact key 2 2 rfl rfl rfl rfl
  | fn f x s t b => exact key 5 1 rfl rfl rfl rfl
end Go.Proofs.Ytbppjohpghpcnaa

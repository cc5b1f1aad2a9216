/- 'ExprPlain', by the reference. No conditions. -/
import Derived.Test.YtdgpnibnogdllaaGreatDoorG11
import Derived.Shelf.Strconv.Itoa3
import Derived.Test.YtdgpnibnogdllaaGreatDoorProg
namespace Go.Proofs.YtdgpnibnogdllaaGreatDoor
set_option maxRecDepth 100000
set_option linter.unusedVariables false
set_option linter.unusedSimpArgs false

/-- A buffer of texts that is written no more, within a region. -/
theorem o_freezeStrs {P : Program} {f : FuncId} {n : Nat} {I₀ : Heap} {Q : Post} {k : List Item} {E : Env} {I : Heap} {L : Own} {ops : Array Oper} {ol : List Oper} {e : TypeId} {l : List Txt} {B : Buf} {m c : Nat}
  (hB : BufOk 1 m c (l.map sv) B) (hm : m = l.length) (hlen : l.length ≤ maxN) (hs : ∀ s ∈ l, s.length ≤ maxN)
  (h : ∀ I' oa c', HLe I I' → bufVal m c B = .slice oa l.length c' → Strs I' oa l c' → RunO P f n I₀ Q ops ol k E I' L) : RunO P f n I₀ Q ops ol k E I (bufOwn e (l.map sv) B ++ L) := by
 cases B with
 | none =>
  obtain ⟨h1, h2, h3⟩ := hB
  obtain rfl : l = [] := by simpa using h1
  exact h I .none 0 (.refl _) rfl ⟨by simp, by simp, by simp, hlen, hs⟩
 | some p =>
  obtain ⟨b, sp⟩ := p
  refine o_freeze fun hle => h _ (some ⟨b, 0, .none⟩) c hle (by rw [← hm]; rfl) ⟨fun y hy => ?_, by simp, by have := hB.2.1; omega, hlen, hs⟩
  cases hy; exact still_set
/-- The reference's plain one. -/
theorem g_l2Plainly {I : Heap} {e : Ex} {cs : List Value} (h : Rep I e.tree cs) (hfine : e.fine = true) (L : Own) : Fun Tryz.prog 16 [.agg cs.toArray] I L (fun v I' L' => ∃ ds, v = .tuple #[.agg (List.toArray ds), .bool true] ∧ Rep I' e.plain.tree ds ∧ L = L') := by
 obtain ⟨oa, c, oaf, cf, rfl, hf⟩ := h.at'
 have hf2 := hfine
 simp only [Ex.fine, Bool.and_eq_true, decide_eq_true_eq, Tree.fits] at hf2
 have hroom := plain_room hf2.1.2
 have hph := e.pl_hits e.free [] [] 0
 have hh0 : hits 120 e.free 0 = 0 := rfl
 have hh1 := hits_le 120 e.free (e.pl e.free [] [] 0).2
 refine fun_intro (by simp) ?_
 refine Se rfl ?_
 refine o_box rfl rfl .free rfl ?_
 intro b1
 refine o_alloc .free rfl ?_
 intro b2
 refine Oa rfl ?_
 refine o_done ?_
 refine Se rfl ?_
 refine o_lOS rfl .free rfl ?_
 refine o_lits0 .free rfl ?_
 intro b7
 refine o_lits0 .free rfl ?_
 intro b8
 refine o_mem (L' := bufOwn 9 (([] : List Txt).map sv) (some (b8, [])) ++ _) (fun w h => h) ?_
 refine o_call rfl .free rfl (g_l2Free _ (Nat.lt_succ_self _) hf.rep hf2.1.1 (strs_empty _ _) (by unfold maxN; simp; omega) [] (some (b8, [])) 0 (by simp; omega) ⟨rfl, Nat.le_refl _, rfl⟩ _) ?_
 rintro _ J1 _ e1 ⟨B, cB, rfl, hB, rfl⟩
 have hll := addAll_len [] (e.occ [])
 have hol := e.occ_len []
 simp only [List.length_nil, Nat.zero_add] at hll
 have hnm : ∀ z ∈ addAll [] (e.occ []), isName z = true := fun z hz => Ex.occ_name hf2.1.1 z (by simpa [addAll_mem] using hz)
 refine o_freezeStrs hB rfl (by unfold maxN; omega) (names_strs hnm) ?_
 intro J2 ov cv ez hbv hav
 refine o_put (t := 9) rfl hbv ?_
 have hav : Strs J2 ov e.free cv := hav
 have hf := (hf.mono e1).mono ez
 have hle := e1.trans ez
 refine o_struct rfl rfl rfl .free rfl ?_
 refine o_box rfl rfl .free rfl ?_
 intro b11
 refine Oa rfl ?_
 refine o_done ?_
 refine Se rfl ?_
 refine o_lOS rfl .free rfl ?_
 refine o_lits0 .free rfl ?_
 intro b13
 refine o_lits0 .free rfl ?_
 intro b14
 refine Om rfl ?_
 refine o_mem (L' := rn b11 ov e.free cv 0 :: _) (fun w h => h.f2) ?_
 refine o_call rfl .free rfl (g_l2Plain _ (Nat.lt_succ_self _) hf.rep hf2.1.1 (strs_empty _ _) (strs_empty _ _) rfl (by simp; omega) hav b11 0 (by omega) (by omega) _) ?_
 rintro _ J3 _ e3 ⟨ds, rfl, hr, rfl⟩
 have hr : Rep J3 e.plain.tree ds := hr
 obtain ⟨od, cd, _, rfl, -⟩ := hr.open
 have hle := hle.trans e3
 unfold rn
 refine o_alloc .free rfl ?_
 intro b5
 refine o_st rfl rfl rfl rfl .free ?_
 refine o_done ?_
 refine s_seq ?_
 refine d_all 8 rfl rfl ?_
 refine Dt 0 [6] rfl (y_lOS rfl) ?_
 refine Da 1 rfl (y_move rfl) ?_
 refine Da 2 rfl (y_nilCheck rfl) ?_
 first | refine Da 3 rfl (y_fieldAddr rfl) ?_ | refine Da 3 rfl (y_fieldAddr' rfl) ?_
 refine d_two 4 6 (by kernel_rfl) ?_ ?_
 ·skip
  refine i_yld 4 rfl rfl (y_lJ rfl) .free rfl (.inr heldx) ?_
  refine Da 5 rfl (y_cmp rfl rfl rfl) ?_
  refine d_st 6 rfl (by kernel_rfl) rfl rfl rfl rfl rfl .free (.inl (by kernel_rfl)) ?_
  refine d_takeA 7 rfl (by kernel_rfl) rfl (.inl (by kernel_rfl)) (y_assign rfl) .free rfl ?_
  refine d_done (by kernel_rfl) ?_
  refine s_ret (.c rfl (.tmp rfl .nil)) ?_
  refine ⟨J3, L, hle, drops, _, ?_, hr, rfl⟩
  simp [retOne]; omega
 ·skip
  refine i_st 6 rfl rfl rfl rfl rfl rfl .free (.inl (by kernel_rfl)) ?_
  refine d_yld 4 rfl (by kernel_rfl) rfl (y_lJ rfl) .free rfl (.inl (by kernel_rfl)) ?_
  refine d_takeA 5 rfl (by kernel_rfl) rfl (.inl (by kernel_rfl)) (y_cmp rfl rfl rfl) .free rfl ?_
  refine d_takeA 7 rfl (by kernel_rfl) rfl (.inl (by kernel_rfl)) (y_assign rfl) .free rfl ?_
  refine d_done (by kernel_rfl) ?_
  refine s_ret (.c rfl (.tmp rfl .nil)) ?_
  refine ⟨J3, L, hle, drops, _, ?_, hr, rfl⟩
  simp [retOne]; omega
end Go.Proofs.YtdgpnibnogdllaaGreatDoor


/- Atoms of forms, and forms put for them. No conditions. -/
namespace Go.Proofs.YtdgpnibnogdllaaGreatDoor
set_option maxRecDepth 100000
set_option linter.unusedVariables false
set_option linter.unusedSimpArgs false

mutual
def Tree.atomL : Tree → List Txt
 | .node a [] => [a]
 | .node _ (p :: ps) => p.atomL ++ atomsL ps
def atomsL : List Tree → List Txt
 | [] => []
 | t :: ts => t.atomL ++ atomsL ts
end
mutual
def Tree.repl : Tree → Txt → Tree → Tree
 | .node x [], a, b => if x = a then b else .node x []
 | .node x (p :: ps), a, b => .node x (p.repl a b :: replL ps a b)
def replL : List Tree → Txt → Tree → List Tree
 | [], _, _ => []
 | t :: ts, a, b => t.repl a b :: replL ts a b
end
theorem atomsL_eq (t : Tree) (h : t.parts ≠ []) : t.atomL = atomsL t.parts := by
 cases t with
 | node a ps => cases ps with
  | nil => exact absurd rfl h
  | cons p ps => rfl
theorem atomL_atom (t : Tree) (h : t.parts = []) : t.atomL = [t.atom] := by
 cases t with
 | node a ps => simp [Tree.parts] at h; subst h; rfl
theorem atomsL_append : ∀ (a b : List Tree), atomsL (a ++ b) = atomsL a ++ atomsL b
 | [], b => rfl
 | t :: a, b => by simp only [List.cons_append, atomsL, atomsL_append a b, List.append_assoc]
theorem atomsL_take (ps : List Tree) (i : Nat) (hi : i < ps.length) : atomsL (ps.take (i + 1)) = atomsL (ps.take i) ++ ps[i].atomL := by
 rw [List.take_succ_eq_append_getElem hi, atomsL_append]; simp [atomsL]
mutual
theorem Tree.atomL_len : ∀ t : Tree, t.atomL.length = t.size
 | .node a [] => rfl
 | .node a (p :: ps) => by
  have h1 := p.atomL_len; have h2 := atomsL_len ps
  simp only [Tree.atomL, List.length_append, h1, h2, Tree.size, sizeL, List.isEmpty_cons, cond_false]
theorem atomsL_len : ∀ ts : List Tree, (atomsL ts).length = sizeL ts
 | [] => rfl
 | t :: ts => by have h1 := t.atomL_len; have h2 := atomsL_len ts; simp only [atomsL, List.length_append, h1, h2, sizeL]
end
mutual
theorem Tree.repl_good : ∀ {t : Tree} {a : Txt} {b : Tree}, t.good = true → b.good = true → (t.repl a b).good = true
 | .node x [], a, b, h, hb => by simp only [Tree.repl]; split; exact hb; exact h
 | .node x (p :: ps), a, b, h, hb => by
  obtain ⟨h1, h2, h3⟩ := good_list h
  subst h1
  simp [Tree.repl, Tree.good, goodL, Tree.repl_good h2 hb, replL_good h3 hb]
theorem replL_good : ∀ {ps : List Tree} {a : Txt} {b : Tree}, goodL ps = true → b.good = true → goodL (replL ps a b) = true
 | [], a, b, h, hb => rfl
 | t :: ps, a, b, h, hb => by
  simp [goodL] at h
  simp [replL, goodL, Tree.repl_good h.1 hb, replL_good h.2 hb]
end
mutual
theorem Tree.repl_len : ∀ (t : Tree) (a : Txt) (b : Tree), (t.repl a b).len ≤ t.len + t.size * b.len
 | .node x [], a, b => by simp only [Tree.repl, Tree.size, List.isEmpty_nil, cond_true, Nat.one_mul]; split <;> omega
 | .node x (p :: ps), a, b => by
  have h1 := p.repl_len a b; have h2 := replL_len ps a b
  simp only [Tree.repl, Tree.len, Tree.size, lenL, sizeL, List.isEmpty_cons, cond_false, Nat.add_mul]; omega
theorem replL_len : ∀ (ps : List Tree) (a : Txt) (b : Tree), lenL (replL ps a b) ≤ lenL ps + sizeL ps * b.len
 | [], a, b => by simp [replL, lenL, sizeL]
 | t :: ps, a, b => by
  have h1 := t.repl_len a b; have h2 := replL_len ps a b
  simp only [replL, lenL, sizeL, Nat.add_mul]; omega
end
theorem Tree.size_one : ∀ t : Tree, 1 ≤ t.size
 | .node a [] => Nat.le_refl _
 | .node a (p :: ps) => by
  have := Tree.size_one p
  simp only [Tree.size, sizeL, List.isEmpty_cons, cond_false]; omega
mutual
theorem Tree.atom_len : ∀ (t : Tree) (x : Txt), x ∈ t.atomL → x.length ≤ t.len
 | .node a [], x, h => by
  simp only [Tree.atomL, List.mem_singleton] at h
  subst h; simp [Tree.len]
 | .node a (p :: ps), x, h => by
  simp only [Tree.atomL, List.mem_append] at h
  simp only [Tree.len, lenL, List.isEmpty_cons, cond_false]
  rcases h with h | h
  ·have := p.atom_len x h; omega
  ·have := atomsL_mem_len ps x h; omega
theorem atomsL_mem_len : ∀ (ts : List Tree) (x : Txt), x ∈ atomsL ts → x.length ≤ lenL ts
 | [], x, h => by cases h
 | t :: ts, x, h => by
  simp only [atomsL, List.mem_append] at h
  simp only [lenL]
  rcases h with h | h
  ·have := t.atom_len x h; omega
  ·have := atomsL_mem_len ts x h; omega
end
theorem atoms_len {t : Tree} (h : t.len ≤ 12000000) : ∀ s ∈ addAll [] t.atomL, s.length ≤ maxN := by
 intro s hs
 rcases addAll_mem.1 hs with h1 | h1
 ·cases h1
 ·have := t.atom_len s h1; unfold maxN; omega
def atomsOf (s : Txt) : Option (List Txt) := (parse s).map fun t => addAll [] t.atomL
def replOf (s a b : Txt) : Option Txt := match parse s, parse a, parse b with
 | some t, some x, some y => if x.atom ≠ [] ∧ (parse (t.repl a y).text).isSome = true then some (t.repl a y).text else none
 | _, _, _ => none
end Go.Proofs.YtdgpnibnogdllaaGreatDoor


/- Normal forms as plain data: what making an expression normal gives. No conditions. -/
namespace Go.Proofs.YtdgpnibnogdllaaGreatDoor
set_option maxRecDepth 100000
set_option linter.unusedVariables false
set_option linter.unusedSimpArgs false

/-- What makes an expression simple gives: the expression, the bindings ahead of it, the next number, how many names were given. -/
structure MK where
 e : Ex
 ns : List (Txt × Ex)
 n : Nat
 g : Nat
def MK.pt (tk : List Txt) (p : MK) : MK := if p.e.bare = true then p else ⟨.name (nm 121 (fr 121 tk p.n)), p.ns ++ [(nm 121 (fr 121 tk p.n), p.e)], fr 121 tk p.n + 1, p.g + 1⟩
def MK.all (p : MK) : Ex := lets p.ns p.e
def Ex.mk (tk : List Txt) : Ex → Nat → MK
 | .num s, n => ⟨.num s, [], n, 0⟩
 | .name s, n => ⟨.name s, [], n, 0⟩
 | .lt x a b, n => let p := a.mk tk n; let q := b.mk tk p.n; ⟨q.e, p.ns ++ (x, p.e) :: q.ns, q.n, p.g + q.g⟩
 | .fn f x s t b, n => let p := b.mk tk n; ⟨.fn f x s t p.all, [], p.n, p.g⟩
 | .ite a b c, n => let p := (a.mk tk n).pt tk; let q := b.mk tk p.n; let r := c.mk tk q.n; ⟨.ite p.e q.all r.all, p.ns, r.n, p.g + q.g + r.g⟩
 | .bin o a b, n => let p := (a.mk tk n).pt tk; let q := (b.mk tk p.n).pt tk; ⟨.bin o p.e q.e, p.ns ++ q.ns, q.n, p.g + q.g⟩
 | .un o a, n => let p := (a.mk tk n).pt tk; ⟨.un o p.e, p.ns, p.n, p.g⟩
def nsz : List (Txt × Ex) → Nat
 | [] => 0
 | p :: ps => 2 + p.2.size + nsz ps
theorem nsz_app : ∀ (a b : List (Txt × Ex)), nsz (a ++ b) = nsz a + nsz b
 | [], b => by simp [nsz]
 | p :: a, b => by simp only [List.cons_append, nsz, nsz_app a b]; omega
theorem letsN_size : ∀ (l : List (Txt × Ex)) (e : Ex), (lets l e).size = nsz l + e.size
 | [], e => by simp [lets, nsz]
 | p :: l, e => by simp only [lets, Ex.size, letsN_size l e, nsz]; omega
theorem MK.all_size (p : MK) : p.all.size = nsz p.ns + p.e.size := letsN_size _ _
theorem MK.pt_size (tk : List Txt) (p : MK) {s : Nat} (h : nsz p.ns + p.e.size = s + 3 * p.g) : nsz (p.pt tk).ns + (p.pt tk).e.size = s + 3 * (p.pt tk).g := by
 unfold MK.pt
 split
 ·exact h
 ·simp only [nsz_app, nsz, Ex.size]; omega
/-- Each name given costs three atoms. -/
theorem Ex.mk_size (tk : List Txt) : ∀ (e : Ex) (n : Nat), nsz (e.mk tk n).ns + (e.mk tk n).e.size = e.size + 3 * (e.mk tk n).g
 | .num s, n => by simp [Ex.mk, nsz, Ex.size]
 | .name s, n => by simp [Ex.mk, nsz, Ex.size]
 | .lt x a b, n => by
  have h1 := a.mk_size tk n; have h2 := b.mk_size tk (a.mk tk n).n
  simp only [Ex.mk, nsz_app, nsz, Ex.size]; omega
 | .fn f x s t b, n => by
  have h1 := b.mk_size tk n
  simp only [Ex.mk, nsz, Ex.size, MK.all_size]; omega
 | .ite a b c, n => by
  have h1 := MK.pt_size tk _ (a.mk_size tk n)
  have h2 := b.mk_size tk ((a.mk tk n).pt tk).n
  have h3 := c.mk_size tk (b.mk tk ((a.mk tk n).pt tk).n).n
  simp only [Ex.mk, Ex.size, MK.all_size]; omega
 | .bin o a b, n => by
  have h1 := MK.pt_size tk _ (a.mk_size tk n)
  have h2 := MK.pt_size tk _ (b.mk_size tk ((a.mk tk n).pt tk).n)
  simp only [Ex.mk, nsz_app, Ex.size]; omega
 | .un o a, n => by
  have h1 := MK.pt_size tk _ (a.mk_size tk n)
  simp only [Ex.mk, Ex.size]; omega
theorem MK.pt_hits (tk : List Txt) (p : MK) {n : Nat} (h : n ≤ p.n ∧ p.n + hits 121 tk n = n + p.g + hits 121 tk p.n) : n ≤ (p.pt tk).n ∧ (p.pt tk).n + hits 121 tk n = n + (p.pt tk).g + hits 121 tk (p.pt tk).n := by
 unfold MK.pt
 split
 ·exact h
 ·have h1 := fr_hits_succ 121 tk p.n
  have h2 := (fr_facts 121 tk p.n).2.1
  simp only; omega
theorem Ex.mk_hits (tk : List Txt) : ∀ (e : Ex) (n : Nat), n ≤ (e.mk tk n).n ∧ (e.mk tk n).n + hits 121 tk n = n + (e.mk tk n).g + hits 121 tk (e.mk tk n).n
 | .num s, n => ⟨Nat.le_refl _, by simp [Ex.mk]⟩
 | .name s, n => ⟨Nat.le_refl _, by simp [Ex.mk]⟩
 | .lt x a b, n => by
  have h1 := a.mk_hits tk n; have h2 := b.mk_hits tk (a.mk tk n).n
  simp only [Ex.mk]; omega
 | .fn f x s t b, n => by
  have h1 := b.mk_hits tk n
  simp only [Ex.mk]; omega
 | .ite a b c, n => by
  have h1 := MK.pt_hits tk _ (a.mk_hits tk n)
  have h2 := b.mk_hits tk ((a.mk tk n).pt tk).n
  have h3 := c.mk_hits tk (b.mk tk ((a.mk tk n).pt tk).n).n
  simp only [Ex.mk]; omega
 | .bin o a b, n => by
  have h1 := MK.pt_hits tk _ (a.mk_hits tk n)
  have h2 := MK.pt_hits tk _ (b.mk_hits tk ((a.mk tk n).pt tk).n)
  simp only [Ex.mk]; omega
 | .un o a, n => by
  have h1 := MK.pt_hits tk _ (a.mk_hits tk n)
  simp only [Ex.mk]; omega
theorem MK.pt_g (tk : List Txt) (p : MK) {s : Nat} (h : p.g + 1 ≤ s) (hb : p.e.bare = false → p.g + 2 ≤ s) : (p.pt tk).g + 1 ≤ s := by
 unfold MK.pt
 split
 ·exact h
 ·rename_i hx; simp only; have := hb (by simpa using hx); omega
/-- Fewer names are given than there are atoms. -/
theorem Ex.mk_g (tk : List Txt) : ∀ (e : Ex) (n : Nat), (e.mk tk n).g + 1 ≤ e.size ∧ ((e.mk tk n).e.bare = false → (e.mk tk n).g + 2 ≤ e.size)
 | .num s, n => ⟨Nat.le_refl _, fun h => by cases h⟩
 | .name s, n => ⟨Nat.le_refl _, fun h => by cases h⟩
 | .lt x a b, n => by
  have h1 := a.mk_g tk n; have h2 := b.mk_g tk (a.mk tk n).n
  simp only [Ex.mk, Ex.size]; omega
 | .fn f x s t b, n => by
  have h1 := b.mk_g tk n; have := s.size_pos
  simp only [Ex.mk, Ex.size]; omega
 | .ite a b c, n => by
  have h0 := a.mk_g tk n
  have h1 := MK.pt_g tk _ h0.1 h0.2
  have h2 := b.mk_g tk ((a.mk tk n).pt tk).n
  have h3 := c.mk_g tk (b.mk tk ((a.mk tk n).pt tk).n).n
  simp only [Ex.mk, Ex.size]; omega
 | .bin o a b, n => by
  have h0 := a.mk_g tk n
  have h1 := MK.pt_g tk _ h0.1 h0.2
  have h00 := b.mk_g tk ((a.mk tk n).pt tk).n
  have h2 := MK.pt_g tk _ h00.1 h00.2
  simp only [Ex.mk, Ex.size]; omega
 | .un o a, n => by
  have h0 := a.mk_g tk n
  have h1 := MK.pt_g tk _ h0.1 h0.2
  simp only [Ex.mk, Ex.size]; omega
theorem MK.pt_len (tk : List Txt) (p : MK) {s : Nat} (h : p.ns.length + 1 ≤ s) : (p.pt tk).ns.length ≤ s := by
 unfold MK.pt
 split
 ·omega
 ·simp only [List.length_append, List.length_cons, List.length_nil]; omega
/-- Fewer bindings than atoms. -/
theorem Ex.mk_len (tk : List Txt) : ∀ (e : Ex) (n : Nat), (e.mk tk n).ns.length + 1 ≤ e.size
 | .num s, n => Nat.le_refl _
 | .name s, n => Nat.le_refl _
 | .lt x a b, n => by
  have h1 := a.mk_len tk n; have h2 := b.mk_len tk (a.mk tk n).n
  simp only [Ex.mk, Ex.size, List.length_append, List.length_cons]; omega
 | .fn f x s t b, n => by simp only [Ex.mk, Ex.size, List.length_nil]; omega
 | .ite a b c, n => by
  have h1 := MK.pt_len tk _ (a.mk_len tk n)
  simp only [Ex.mk, Ex.size]; omega
 | .bin o a b, n => by
  have h1 := MK.pt_len tk _ (a.mk_len tk n)
  have h2 := MK.pt_len tk _ (b.mk_len tk ((a.mk tk n).pt tk).n)
  simp only [Ex.mk, Ex.size, List.length_append]; omega
 | .un o a, n => by
  have h1 := MK.pt_len tk _ (a.mk_len tk n)
  simp only [Ex.mk, Ex.size]; omega
/-- The bindings' names are names, their expressions are expressions. -/
def okNs (l : List (Txt × Ex)) : Prop := ∀ p ∈ l, isName p.1 = true ∧ p.2.ok = true
theorem okNs.add {l m : List (Txt × Ex)} (h : okNs l) (h' : okNs m) : okNs (l ++ m) := by
 intro p hp
 rcases List.mem_append.1 hp with hp | hp
 ·exact h p hp
 ·exact h' p hp
theorem letsN_ok : ∀ {l : List (Txt × Ex)} {e : Ex}, okNs l → e.ok = true → (lets l e).ok = true
 | [], e, _, h => h
 | p :: l, e, hl, h => by
  have h1 := hl p (.head _)
  simp only [lets, Ex.ok, Bool.and_eq_true]
  exact ⟨⟨h1.1, h1.2⟩, letsN_ok (fun q hq => hl q (.tail _ hq)) h⟩
theorem MK.pt_ok {tk : List Txt} {p : MK} (h : okNs p.ns ∧ p.e.ok = true) (hn : p.n + tk.length < 1000 + hits 121 tk p.n) : okNs (p.pt tk).ns ∧ (p.pt tk).e.ok = true := by
 unfold MK.pt
 split
 ·exact h
 ·have h1 := (fr_facts 121 tk p.n).2.2
  have h2 := hits_le 121 tk (fr 121 tk p.n)
  have hz : isName (nm 121 (fr 121 tk p.n)) = true := nm_name (by decide) (by omega)
  exact ⟨h.1.add fun q hq => by rw [List.mem_singleton.1 hq]; exact ⟨hz, h.2⟩, hz⟩
theorem MK.n_le {tk : List Txt} {p : MK} {n : Nat} (h : n ≤ p.n ∧ p.n + hits 121 tk n = n + p.g + hits 121 tk p.n) : p.n ≤ n + p.g + tk.length := by
 have := hits_le 121 tk p.n; omega
theorem Ex.mk_ok {tk : List Txt} : ∀ {e : Ex} {n : Nat}, e.ok = true → n + e.size + tk.length ≤ 900 + hits 121 tk n → okNs (e.mk tk n).ns ∧ (e.mk tk n).e.ok = true
 | .num s, n, h, _ => ⟨fun p hp => (by cases hp), h⟩
 | .name s, n, h, _ => ⟨fun p hp => (by cases hp), h⟩
 | .lt x a b, n, h, hn => by
  simp only [Ex.ok, Bool.and_eq_true] at h
  simp only [Ex.size] at hn
  have g1 := a.mk_g tk n; have m1 := a.mk_hits tk n
  have h1 := Ex.mk_ok (tk := tk) (n := n) h.1.2 (by omega)
  have h2 := Ex.mk_ok (tk := tk) (n := (a.mk tk n).n) h.2 (by omega)
  simp only [Ex.mk]
  refine ⟨h1.1.add fun p hp => ?_, h2.2⟩
  rcases List.mem_cons.1 hp with rfl | hp
  ·exact ⟨h.1.1, h1.2⟩
  ·exact h2.1 p hp
 | .fn f x s t b, n, h, hn => by
  simp only [Ex.ok, Bool.and_eq_true, decide_eq_true_eq] at h
  simp only [Ex.size] at hn
  have h1 := Ex.mk_ok (tk := tk) (n := n) h.2 (by omega)
  simp only [Ex.mk, Ex.ok, Bool.and_eq_true, decide_eq_true_eq]
  exact ⟨fun p hp => (by cases hp), h.1, letsN_ok h1.1 h1.2⟩
 | .ite a b c, n, h, hn => by
  simp only [Ex.ok, Bool.and_eq_true] at h
  simp only [Ex.size] at hn
  have g1 := a.mk_g tk n; have m1 := a.mk_hits tk n; have k0 := hits_le 121 tk (a.mk tk n).n; have k00 := hits_le 121 tk n
  have gp := MK.pt_g tk _ g1.1 g1.2; have mp := MK.pt_hits tk _ m1
  have h1 := MK.pt_ok (tk := tk) (Ex.mk_ok (tk := tk) (n := n) h.1.1 (by omega)) (by omega)
  have g2 := b.mk_g tk ((a.mk tk n).pt tk).n; have m2 := b.mk_hits tk ((a.mk tk n).pt tk).n
  have h2 := Ex.mk_ok (tk := tk) (n := ((a.mk tk n).pt tk).n) h.1.2 (by omega)
  have h3 := Ex.mk_ok (tk := tk) (n := (b.mk tk ((a.mk tk n).pt tk).n).n) h.2 (by omega)
  simp only [Ex.mk, Ex.ok, Bool.and_eq_true]
  exact ⟨h1.1, ⟨h1.2, letsN_ok h2.1 h2.2⟩, letsN_ok h3.1 h3.2⟩
 | .bin o a b, n, h, hn => by
  simp only [Ex.ok, Bool.and_eq_true] at h
  simp only [Ex.size] at hn
  have g1 := a.mk_g tk n; have m1 := a.mk_hits tk n; have k0 := hits_le 121 tk (a.mk tk n).n; have k00 := hits_le 121 tk n
  have gp := MK.pt_g tk _ g1.1 g1.2; have mp := MK.pt_hits tk _ m1
  have h1 := MK.pt_ok (tk := tk) (Ex.mk_ok (tk := tk) (n := n) h.1 (by omega)) (by omega)
  have g2 := b.mk_g tk ((a.mk tk n).pt tk).n; have m2 := b.mk_hits tk ((a.mk tk n).pt tk).n; have k2 := hits_le 121 tk (b.mk tk ((a.mk tk n).pt tk).n).n
  have h2 := MK.pt_ok (tk := tk) (Ex.mk_ok (tk := tk) (n := ((a.mk tk n).pt tk).n) h.2 (by omega)) (by omega)
  simp only [Ex.mk, Ex.ok, Bool.and_eq_true]
  exact ⟨h1.1.add h2.1, h1.2, h2.2⟩
 | .un o a, n, h, hn => by
  have h : a.ok = true := h
  simp only [Ex.size] at hn
  have g1 := a.mk_g tk n; have m1 := a.mk_hits tk n; have k0 := hits_le 121 tk (a.mk tk n).n; have k00 := hits_le 121 tk n
  have h1 := MK.pt_ok (tk := tk) (Ex.mk_ok (tk := tk) (n := n) h (by omega)) (by omega)
  exact ⟨h1.1, h1.2⟩
end Go.Proofs.YtdgpnibnogdllaaGreatDoor


/- The normal one of an expression: how far the numbers go. No conditions. -/
namespace Go.Proofs.YtdgpnibnogdllaaGreatDoor
set_option maxRecDepth 100000
set_option linter.unusedVariables false
set_option linter.unusedSimpArgs false

theorem hits_sub {c : UInt8} {av av' : List Txt} (h : ∀ j, nm c j ∈ av → nm c j ∈ av') : ∀ n, hits c av n ≤ hits c av' n
 | 0 => Nat.le_refl _
 | n + 1 => by
  rw [hits_succ, hits_succ]
  have := hits_sub h n
  by_cases h1 : nm c n ∈ av
  ·rw [if_pos h1, if_pos (h n h1)]; omega
  ·rw [if_neg h1]; omega
/-- The names that stand as expressions. -/
def Ex.lv : Ex → List Txt
 | .num _ => []
 | .name s => [s]
 | .bin _ a b => a.lv ++ b.lv
 | .ite a b c => a.lv ++ b.lv ++ c.lv
 | .lt _ a b => a.lv ++ b.lv
 | .fn _ _ _ _ b => b.lv
 | .un _ a => a.lv
theorem Ex.lv_size : ∀ e : Ex, 3 * e.lv.length ≤ 2 * e.size + 1
 | .num _ => by simp [Ex.lv]
 | .name _ => by simp [Ex.lv, Ex.size]
 | .bin _ a b => by have := a.lv_size; have := b.lv_size; simp only [Ex.lv, List.length_append, Ex.size]; omega
 | .ite a b c => by have := a.lv_size; have := b.lv_size; have := c.lv_size; simp only [Ex.lv, List.length_append, Ex.size]; omega
 | .lt _ a b => by have := a.lv_size; have := b.lv_size; simp only [Ex.lv, List.length_append, Ex.size]; omega
 | .fn _ _ _ _ b => by have := b.lv_size; simp only [Ex.lv, Ex.size]; omega
 | .un _ a => by have := a.lv_size; simp only [Ex.lv, Ex.size]; omega
/-- No bound name begins with a y. -/
def Ex.bx : Ex → Bool
 | .num _ => true
 | .name _ => true
 | .bin _ a b => a.bx && b.bx
 | .ite a b c => a.bx && b.bx && c.bx
 | .lt x a b => decide (x.head? ≠ some 121) && a.bx && b.bx
 | .fn f x _ _ b => decide (f.head? ≠ some 121) && decide (x.head? ≠ some 121) && b.bx
 | .un _ a => a.bx
theorem Ex.pl_bx (av : List Txt) : ∀ (e : Ex) (f t : List Txt) (n : Nat), (e.pl av f t n).1.bx = true
 | .num s, f, t, n => rfl
 | .name s, f, t, n => rfl
 | .bin o a b, f, t, n => by simp only [Ex.pl, Ex.bx, a.pl_bx, b.pl_bx, Bool.and_self]
 | .ite a b c, f, t, n => by simp only [Ex.pl, Ex.bx, a.pl_bx, b.pl_bx, c.pl_bx, Bool.and_self]
 | .lt x a b, f, t, n => by simp only [Ex.pl, Ex.bx, a.pl_bx, b.pl_bx, nm, List.head?_cons, Bool.and_true]; rfl
 | .fn g x s u b, f, t, n => by simp only [Ex.pl, Ex.bx, b.pl_bx, nm, List.head?_cons, Bool.and_true]; rfl
 | .un o a, f, t, n => by simp only [Ex.pl, Ex.bx, a.pl_bx]
theorem Ty.atom_y : ∀ {t : Ty} {s : Txt}, s ∈ t.tree.atomL → s.head? ≠ some 121
 | .i, s, h => by simp only [Ty.tree, Tree.atomL, List.mem_singleton] at h; subst h; decide
 | .fn a b, s, h => by
  simp only [Ty.tree, Tree.atomL, atomsL, List.mem_append, List.mem_singleton, List.append_nil] at h
  rcases h with h | h | h
  ·subst h; decide
  ·exact Ty.atom_y h
  ·exact Ty.atom_y h
 | .pr a b, s, h => by
  simp only [Ty.tree, Tree.atomL, atomsL, List.mem_append, List.mem_singleton, List.append_nil] at h
  rcases h with h | h | h
  ·subst h; decide
  ·exact Ty.atom_y h
  ·exact Ty.atom_y h
theorem B5.head_y (o : B5) : o.txt.head? ≠ some 121 := by cases o <;> decide
theorem U2.head_y (o : U2) : o.txt.head? ≠ some 121 := by cases o <;> decide
theorem num_head {s : Txt} (h : isNum s = true) : s.head? ≠ some 121 := by
 cases s with
 | nil => simp
 | cons c r =>
  intro e
  simp only [List.head?_cons, Option.some.injEq] at e
  subst e
  have e : unsign (121 :: r) = 121 :: r := by simp [unsign]
  simp only [isNum, e] at h
  simp [digit] at h
theorem Ex.atom_lv : ∀ {e : Ex} {s : Txt}, e.ok = true → e.bx = true → s ∈ e.tree.atomL → s.head? = some 121 → s ∈ e.lv
 | .num a, s, h, _, hs, hy => by
  simp only [Ex.tree, Tree.atomL, List.mem_singleton] at hs; subst hs
  exact absurd hy (num_head h)
 | .name a, s, h, _, hs, hy => by simpa only [Ex.tree, Tree.atomL, Ex.lv] using hs
 | .bin o a b, s, h, hb, hs, hy => by
  simp only [Ex.ok, Ex.bx, Bool.and_eq_true] at h hb
  simp only [Ex.tree, Tree.atomL, atomsL, List.mem_append, List.mem_singleton, List.append_nil] at hs
  simp only [Ex.lv, List.mem_append]
  rcases hs with hs | hs | hs
  ·subst hs; exact absurd hy o.head_y
  ·exact .inl (Ex.atom_lv h.1 hb.1 hs hy)
  ·exact .inr (Ex.atom_lv h.2 hb.2 hs hy)
 | .ite a b c, s, h, hb, hs, hy => by
  simp only [Ex.ok, Ex.bx, Bool.and_eq_true] at h hb
  simp only [Ex.tree, Tree.atomL, atomsL, List.mem_append, List.mem_singleton, List.append_nil] at hs
  simp only [Ex.lv, List.mem_append]
  rcases hs with hs | hs | hs | hs
  ·subst hs; exact absurd hy (by decide)
  ·exact .inl (.inl (Ex.atom_lv h.1.1 hb.1.1 hs hy))
  ·exact .inl (.inr (Ex.atom_lv h.1.2 hb.1.2 hs hy))
  ·exact .inr (Ex.atom_lv h.2 hb.2 hs hy)
 | .lt x a b, s, h, hb, hs, hy => by
  simp only [Ex.ok, Ex.bx, Bool.and_eq_true, decide_eq_true_eq] at h hb
  simp only [Ex.tree, Tree.atomL, atomsL, List.mem_append, List.mem_singleton, List.append_nil] at hs
  simp only [Ex.lv, List.mem_append]
  rcases hs with hs | hs | hs | hs
  ·subst hs; exact absurd hy (by decide)
  ·subst hs; exact absurd hy hb.1.1
  ·exact .inl (Ex.atom_lv h.1.2 hb.1.2 hs hy)
  ·exact .inr (Ex.atom_lv h.2 hb.2 hs hy)
 | .fn f x t u b, s, h, hb, hs, hy => by
  simp only [Ex.ok, Ex.bx, Bool.and_eq_true, decide_eq_true_eq] at h hb
  simp only [Ex.tree, Tree.atomL, atomsL, List.mem_append, List.mem_singleton, List.append_nil] at hs
  simp only [Ex.lv]
  rcases hs with hs | hs | hs | hs | hs | hs
  ·subst hs; exact absurd hy (by decide)
  ·subst hs; exact absurd hy hb.1.1
  ·subst hs; exact absurd hy hb.1.2
  ·exact absurd hy (Ty.atom_y hs)
  ·exact absurd hy (Ty.atom_y hs)
  ·exact Ex.atom_lv h.2 hb.2 hs hy
 | .un o a, s, h, hb, hs, hy => by
  simp only [Ex.tree, Tree.atomL, atomsL, List.mem_append, List.mem_singleton, List.append_nil] at hs
  rcases hs with hs | hs
  ·subst hs; exact absurd hy o.head_y
  ·exact Ex.atom_lv (e := a) h hb hs hy
/-- The atoms of the plain one. -/
def Ex.tk (e : Ex) : List Txt := addAll [] e.plain.tree.atomL
def Ex.made (e : Ex) : MK := e.plain.mk e.tk 0
def Ex.normal (e : Ex) : Ex := e.made.all
theorem plain_size (e : Ex) : e.plain.size = e.size := (e.pl_size e.free [] [] 0).1
theorem tk_len (e : Ex) : e.tk.length ≤ e.size := by
 have h := addAll_len' [] e.plain.tree.atomL
 rw [Tree.atomL_len, Ex.tree_size, plain_size] at h
 simpa [Ex.tk] using h
theorem made_room {e : Ex} (h : e.fine = true) : e.made.g ≤ 119 ∧ e.made.n ≤ 240 ∧ e.tk.length ≤ 120 := by
 have hf := plain_fine h
 simp only [Ex.fine, Bool.and_eq_true, decide_eq_true_eq, Tree.fits] at h
 have h1 := tk_len e
 have h2 := e.plain.mk_g e.tk 0
 have h3 := e.plain.mk_hits e.tk 0
 have h4 := MK.n_le h3
 rw [plain_size] at h2
 unfold Ex.made
 omega
theorem normal_ok {e : Ex} (h : e.fine = true) : e.normal.ok = true := by
 have hf := plain_fine h
 have h0 := made_room h
 simp only [Ex.fine, Bool.and_eq_true, decide_eq_true_eq, Tree.fits] at hf
 have h1 := Ex.mk_ok (tk := e.tk) (n := 0) hf.1.1 (by omega)
 exact letsN_ok h1.1 h1.2
theorem normal_size (e : Ex) : e.normal.size = e.size + 3 * e.made.g := by
 unfold Ex.normal
 rw [MK.all_size]
 unfold Ex.made
 rw [Ex.mk_size, plain_size]
theorem normal_next {e : Ex} (h : e.fine = true) (hn : e.normal.fine = true) : e.made.g ≤ 100 ∧ e.made.n ≤ 100 := by
 have hf := plain_fine h
 have hs := normal_size e
 simp only [Ex.fine, Bool.and_eq_true, decide_eq_true_eq, Tree.fits] at hf hn
 have h3 := e.plain.mk_hits e.tk 0
 have h4 : hits 121 e.tk (e.plain.mk e.tk 0).n ≤ hits 121 e.plain.lv (e.plain.mk e.tk 0).n := hits_sub (fun j hj => by
  have hj : nm 121 j ∈ addAll [] e.plain.tree.atomL := hj
  rw [addAll_mem] at hj
  rcases hj with hj | hj
  ·cases hj
  ·exact Ex.atom_lv hf.1.1 (Ex.pl_bx _ _ _ _ _) hj rfl) _
 have h5 := hits_le 121 e.plain.lv (e.plain.mk e.tk 0).n
 have h6 := e.plain.lv_size
 rw [plain_size] at h6
 have h7 : hits 121 e.tk 0 = 0 := rfl
 unfold Ex.made at *
 omega
theorem tk_strs {e : Ex} (h : e.fine = true) : ∀ s ∈ e.tk, s.length ≤ maxN := atoms_len (by have := plain_fine h; simp only [Ex.fine, Bool.and_eq_true, decide_eq_true_eq, Tree.fits] at this; have := this.2.2; omega)
theorem normal_len {e : Ex} (h : e.fine = true) : e.normal.tree.len ≤ 12000 := by
 have h1 := Ex.len_size (normal_ok h)
 have h2 := normal_size e
 have h3 := made_room h
 simp only [Ex.fine, Bool.and_eq_true, decide_eq_true_eq] at h
 omega
def nfOf (s : Txt) : Option Txt := (exOf s).bind fun e => if e.normal.fine = true then some e.normal.tree.text else none
theorem nfOf_none {s : Txt} (h : exOf s = none) : nfOf s = none := by unfold nfOf; rw [h]; rfl
theorem nfOf_some {s : Txt} {e : Ex} (h : exOf s = some e) : nfOf s = if e.normal.fine = true then some e.normal.tree.text else none := by unfold nfOf; rw [h]; rfl
end Go.Proofs.YtdgpnibnogdllaaGreatDoor


/- What makes expressions normal, by the reference: its maker, fresh names, bare parts. No conditions. -/
namespace Go.Proofs.YtdgpnibnogdllaaGreatDoor
set_option maxRecDepth 100000
set_option linter.unusedVariables false
set_option linter.unusedSimpArgs false

theorem Mem.mv {I : Heap} {X A B L : Own} {m : Nat × Obj} {w : World} (h : Mem I (X ++ (m :: (A ++ (B ++ L)))) w) : Mem I (m :: (A ++ (B ++ (X ++ L)))) w :=
 h.perm (List.perm_middle.trans (List.Perm.cons _ (((List.perm_append_comm_assoc X A (B ++ L)).trans (List.Perm.append_left A (List.perm_append_comm_assoc X B L))))))
theorem Mem.vm {I : Heap} {X A B L : Own} {m : Nat × Obj} {w : World} (h : Mem I (m :: (A ++ (B ++ (X ++ L)))) w) : Mem I (X ++ (m :: (A ++ (B ++ L)))) w :=
 h.perm (List.perm_middle.trans (List.Perm.cons _ (((List.perm_append_comm_assoc X A (B ++ L)).trans (List.Perm.append_left A (List.perm_append_comm_assoc X B L)))))).symm
theorem Mem.u6 {I : Heap} {a b c d e g : Nat × Obj} {X L : Own} {w : World} (h : Mem I (a :: b :: c :: d :: e :: g :: (X ++ L)) w) : Mem I (X ++ a :: b :: c :: d :: e :: g :: L) w := h.perm (List.perm_append_comm_assoc [a, b, c, d, e, g] X L)
theorem Mem.u7 {I : Heap} {a b c d e g k : Nat × Obj} {X L : Own} {w : World} (h : Mem I (a :: b :: c :: d :: e :: g :: k :: (X ++ L)) w) : Mem I (X ++ a :: b :: c :: d :: e :: g :: k :: L) w := h.perm (List.perm_append_comm_assoc [a, b, c, d, e, g, k] X L)
theorem Mem.u8 {I : Heap} {a b c d e g k l : Nat × Obj} {X L : Own} {w : World} (h : Mem I (a :: b :: c :: d :: e :: g :: k :: l :: (X ++ L)) w) : Mem I (X ++ a :: b :: c :: d :: e :: g :: k :: l :: L) w := h.perm (List.perm_append_comm_assoc [a, b, c, d, e, g, k, l] X L)
theorem addr_own (b n : Nat) : (⟨b, 0, none⟩ : Addr).add n = ⟨b, n, none⟩ := by
 unfold Addr.add
 split
 ·subst_vars; rfl
 ·simp
theorem bufVal_len {z m c : Nat} {xs : List Value} {B : Buf} (h : BufOk z m c xs B) : ∃ a j, bufVal m c B = .slice a m j := by
 cases B with
 | none => obtain ⟨_, rfl, rfl⟩ := h; exact ⟨_, _, rfl⟩
 | some p => exact ⟨_, _, rfl⟩
theorem putN_mid : ∀ {xs ys zs sp : List Value}, ys.length = zs.length → putN xs.length ys (xs ++ (zs ++ sp)) = some (xs ++ (ys ++ sp))
 | x :: xs, ys, zs, sp, h => by simp only [List.cons_append, List.length_cons, putN, putN_mid (xs := xs) h]
 | [], ys, zs, sp, h => by
  show overN ys (zs ++ sp) = _
  induction ys generalizing zs with
  | nil => obtain rfl : zs = [] := List.eq_nil_of_length_eq_zero h.symm; cases sp <;> rfl
  | cons y ys ih =>
   cases zs with
   | nil => cases h
   | cons z zs => simp only [List.cons_append, overN, ih (zs := zs) (by simpa using h), List.nil_append]
theorem putN_mid' {o : Nat} {xs ys zs sp : List Value} (ho : o = xs.length) (h : ys.length = zs.length) : putN o ys (xs ++ (zs ++ sp)) = some (xs ++ (ys ++ sp)) := by subst ho; exact putN_mid h
theorem Mem.u9 {I : Heap} {a b c d e g k l m : Nat × Obj} {X L : Own} {w : World} (h : Mem I (a :: b :: c :: d :: e :: g :: k :: l :: m :: (X ++ L)) w) : Mem I (X ++ a :: b :: c :: d :: e :: g :: k :: l :: m :: L) w := h.perm (List.perm_append_comm_assoc [a, b, c, d, e, g, k, l, m] X L)
theorem u7 {b : Nat} {o o' : Obj} {p p1 p2 p3 p4 p5 p6 : Nat × Obj} {L : Own} : Upd b o' o (p :: p1 :: p2 :: p3 :: p4 :: p5 :: p6 :: (b, o) :: L) (p :: p1 :: p2 :: p3 :: p4 :: p5 :: p6 :: (b, o') :: L) := .there u6
theorem u8 {b : Nat} {o o' : Obj} {p p1 p2 p3 p4 p5 p6 p7 : Nat × Obj} {L : Own} : Upd b o' o (p :: p1 :: p2 :: p3 :: p4 :: p5 :: p6 :: p7 :: (b, o) :: L) (p :: p1 :: p2 :: p3 :: p4 :: p5 :: p6 :: p7 :: (b, o') :: L) := .there u7
theorem u9 {b : Nat} {o o' : Obj} {p p1 p2 p3 p4 p5 p6 p7 p8 : Nat × Obj} {L : Own} : Upd b o' o (p :: p1 :: p2 :: p3 :: p4 :: p5 :: p6 :: p7 :: p8 :: (b, o) :: L) (p :: p1 :: p2 :: p3 :: p4 :: p5 :: p6 :: p7 :: p8 :: (b, o') :: L) := .there u8
/-- The reference's maker. -/
def mkr (b : Nat) (ot : Option Addr) (tk : List Txt) (ct n : Nat) (u v : Value) : Nat × Obj := (b, .cells [.slice ot tk.length ct, .int .i64 (n : Nat), u, v].toArray 45 (0, 0))
/-- The names and expressions that it has noted. -/
structure MS where
 ns : List Txt
 es : List Ex
 B1 : Buf
 c1 : Nat
 xs : List Value
 B2 : Buf
 c2 : Nat
structure MS.ok (I : Heap) (x : MS) : Prop where
 b1 : BufOk 1 x.ns.length x.c1 (x.ns.map sv) x.B1
 b2 : BufOk 2 x.es.length x.c2 x.xs x.B2
 rep : RepL I (x.es.map Ex.tree) x.xs
 each : ∀ s ∈ x.ns, s.length ≤ maxN
theorem MS.ok.mono {I I' : Heap} {x : MS} (hle : HLe I I') (h : x.ok I) : x.ok I' := ⟨h.b1, h.b2, h.rep.mono hle, h.each⟩
def MS.own (b : Nat) (ot : Option Addr) (tk : List Txt) (ct n : Nat) (x : MS) (L : Own) : Own :=
 mkr b ot tk ct n (bufVal x.ns.length x.c1 x.B1) (bufVal x.es.length x.c2 x.B2) :: (bufOwn 9 (x.ns.map sv) x.B1 ++ (bufOwn 27 x.xs x.B2 ++ L))
def MP (b : Nat) (ot : Option Addr) (tk : List Txt) (ct : Nat) (x : MS) (p : MK) (L : Own) : Post := fun v I' L' => ∃ cs y, v = .agg (List.toArray cs) ∧ Rep I' p.e.tree cs ∧ MS.ok I' y ∧ y.ns = x.ns ++ p.ns.map (·.1) ∧ y.es = x.es ++ p.ns.map (·.2) ∧ L' = y.own b ot tk ct p.n L
theorem g_l5Fresh {I : Heap} {ot : Option Addr} {tk : List Txt} {ct : Nat} (hav : Strs I ot tk ct) (b n : Nat) (hn : n + tk.length ≤ 1000 + hits 121 tk n) (h3 : n ≤ 1000) {a1 a2 : Option Addr} {m1 k1 m2 k2 : Nat} (L : Own) :
  Fun Tryz.prog 78 [.pointer (some ⟨b, 0, none⟩)] I (mkr b ot tk ct n (.slice a1 m1 k1) (.slice a2 m2 k2) :: L) (fun v I' L' => v = .string (str (nm 121 (fr 121 tk n))) ∧ I = I' ∧ L' = mkr b ot tk ct (fr 121 tk n + 1) (.slice a1 m1 k1) (.slice a2 m2 k2) :: L) := by
 obtain ⟨f1, f2, f3⟩ := fr_facts 121 tk n
 have f4 := hits_le 121 tk (fr 121 tk n)
 refine fun_intro (by simp) ?_
 refine Se rfl ?_
 refine Oa rfl ?_
 refine o_done ?_
 refine s_block ?_
 refine s_while (X := Nat) (fun m => fr 121 tk n + 1 - m) (fun m => [(0, .pointer (some ⟨b, 0, none⟩))]) (fun _ => I) (fun m => mkr b ot tk ct m (.slice a1 m1 k1) (.slice a2 m2 k2) :: L) (fun m => n ≤ m ∧ m ≤ fr 121 tk n ∧ ∀ j, n ≤ j → j < m → nm 121 j ∈ tk) n ⟨Nat.le_refl _, f2, fun j h1 h2 => absurd h2 (by omega)⟩ ⟨rfl, trivial⟩ (fun _ h => h) ?_
 rintro m ⟨hm1, hm2, hm3⟩ ih
 unfold mkr
 have hdl := decT_le (n := m) (by omega)
 refine s_block ?_
 refine Se rfl ?_
 refine Om rfl ?_
 refine o_nilCheck rfl .free rfl ?_
 first | refine o_fieldAddr rfl .free rfl ?_ | refine o_fieldAddr' rfl .free rfl ?_
 refine o_lS rfl .free rfl ?_
 refine o_call rfl .free rfl (g_l6Dec _ m (Nat.lt_succ_self _) (by omega) _ _) ?_
 rintro _ _ _ _ ⟨rfl, rfl, rfl⟩
 refine o_concat rfl rfl (by first | omega | (simp only [List.length_append, List.length_cons, List.length_nil]; omega) | (simp; omega)) .free rfl ?_
 refine Oa rfl ?_
 refine o_done ?_
 refine Se rfl ?_
 refine Om rfl ?_
 refine Om rfl ?_
 refine o_nilCheck rfl .free rfl ?_
 first | refine o_fieldAddr rfl .free rfl ?_ | refine o_fieldAddr' rfl .free rfl ?_
 refine o_lS rfl .free rfl ?_
 refine o_arith rfl rfl rfl (by omega) .free rfl ?_
 refine o_nilCheck rfl .free rfl ?_
 first | refine o_fieldAddr rfl .free rfl ?_ | refine o_fieldAddr' rfl .free rfl ?_
 refine o_st rfl rfl rfl rfl .free ?_
 refine o_done ?_
 refine Se rfl ?_
 refine Om rfl ?_
 refine o_nilCheck rfl .free rfl ?_
 first | refine o_fieldAddr rfl .free rfl ?_ | refine o_fieldAddr' rfl .free rfl ?_
 refine o_lS rfl .free rfl ?_
 refine Om rfl ?_
 refine o_call rfl .free rfl (g_l1Has (hav.rd _) ct (nm 121 m)) ?_
 rintro _ _ _ _ ⟨rfl, rfl, rfl⟩
 refine o_not rfl .free rfl ?_
 refine o_done ?_
 first | refine s_if rfl ?_ ?_ | refine s_ifn rfl ?_ ?_ | refine s_cond rfl ?_ ?_
 ·intro c0
  refine Se rfl ?_
  refine Om rfl ?_
  refine Oa rfl ?_
  refine o_done ?_
  refine s_ret (.tmp rfl .nil) ?_
  have hfm : fr 121 tk n = m := fr_stop hm3 hm1 c0
  exact ⟨I, _, .refl _, fun _ h => h, by rw [hfm]; rfl, rfl, by rw [hfm]; rfl⟩
 intro c0
 refine s_skip ?_
 refine s_inBlock ?_
 have hne : m ≠ fr 121 tk n := fun e => f1 (e ▸ c0)
 refine s_env (E' := [(0, .pointer (some ⟨b, 0, none⟩))]) ⟨rfl, trivial⟩ (ih (m + 1) ⟨by omega, by omega, fun j h1 h2 => ?_⟩ (by omega))
 by_cases hj : j = m
 ·subst hj; exact c0
 ·exact hm3 j h1 (by omega)
end Go.Proofs.YtdgpnibnogdllaaGreatDoor


/- Bare parts and whole expressions made normal, by the reference. No conditions. -/
namespace Go.Proofs.YtdgpnibnogdllaaGreatDoor
set_option maxRecDepth 100000
set_option linter.unusedVariables false
set_option linter.unusedSimpArgs false

def MakeH (N : Nat) : Prop := ∀ {I : Heap} {e : Ex} {cs : List Value} (_ : SizeOf.sizeOf e < N) (_ : Rep I e.tree cs) (_ : e.ok = true) {ot : Option Addr} {tk : List Txt} {ct : Nat} (_ : Strs I ot tk ct) (b n : Nat) (_ : n + e.size + tk.length ≤ 900 + hits 121 tk n) (x : MS) (_ : x.ok I) (_ : x.ns.length + e.size ≤ 100000) (_ : x.es.length = x.ns.length) (L : Own),
 Fun Tryz.prog 35 [.pointer (some ⟨b, 0, none⟩), .agg cs.toArray] I (x.own b ot tk ct n L) (MP b ot tk ct x (e.mk tk n) L)
theorem Mem.sw {I : Heap} {m a b : Nat × Obj} {L : Own} {w : World} (h : Mem I (m :: a :: b :: L) w) : Mem I (m :: b :: a :: L) w := h.perm (List.Perm.cons _ (List.Perm.swap ..))
theorem Mem.rev3 {I : Heap} {a b c : Nat × Obj} {L : Own} {w : World} (h : Mem I (a :: b :: c :: L) w) : Mem I (c :: b :: a :: L) w := h.perm ((List.Perm.cons a (List.Perm.swap c b L)).trans ((List.Perm.swap c a (b :: L)).trans (List.Perm.cons c (List.Perm.swap b a L))))
theorem d_s33 {P : Program} {f : FuncId} {n : Nat} {I₀ : Heap} {Q : Post} {k : List Item} {E : Env} {I : Heap} {id : Nat} {ops : Array Oper} {a b c p q r : Nat × Obj} {B L : Own} (N : Nat) (hN : ops.size = N) (hm : P.follows .mixedOrders = true)
  (h : RunW P f n I₀ Q ops (Mem I (p :: q :: r :: L)) N (Array.replicate N false) k E I (a :: b :: c :: p :: q :: r :: (B ++ L))) : RunS P f n I₀ Q (.code (.region id ops true) :: k) E I (a :: b :: c :: p :: q :: r :: (B ++ L)) := d_with I (p :: q :: r :: L) N hN hm h
theorem l5Plain_of {N : Nat} (ih : MakeH N) {I : Heap} {e : Ex} {cs : List Value} (hlt : SizeOf.sizeOf e < N) (h : Rep I e.tree cs) (hok : e.ok = true) {ot : Option Addr} {tk : List Txt} {ct : Nat} (htk : Strs I ot tk ct) (b n : Nat) (hn : n + e.size + tk.length ≤ 900 + hits 121 tk n) (x : MS) (hx : x.ok I) (hxl : x.ns.length + e.size ≤ 100000) (hxe : x.es.length = x.ns.length) (L : Own) :
  Fun Tryz.prog 55 [.pointer (some ⟨b, 0, none⟩), .agg cs.toArray] I (x.own b ot tk ct n L) (MP b ot tk ct x ((e.mk tk n).pt tk) L) := by
 obtain ⟨oa, c, oaf, cf, rfl, hf⟩ := h.at'
 have hmo := Ex.mk_ok (tk := tk) (n := n) hok hn
 have hmh := e.mk_hits tk n
 have hmg := e.mk_g tk n
 have hml := e.mk_len tk n
 have hh0 := hits_le 121 tk n
 have hh1 := hits_le 121 tk (e.mk tk n).n
 generalize hp : e.mk tk n = p at *
 refine fun_intro (by simp) ?_
 refine Se rfl ?_
 refine o_box rfl rfl .free rfl ?_
 intro b3
 refine o_alloc .free rfl ?_
 intro b4
 refine o_done ?_
 refine Se rfl ?_
 refine Om rfl ?_
 refine o_lOS rfl .free rfl ?_
 refine o_mem (fun w h => Mem.mv (X := [_, _]) h) ?_
 refine o_call rfl .free rfl (ih hlt hf.rep hok htk b n hn x hx hxl hxe _) ?_
 rw [hp]; rintro _ J1 _ e1 ⟨cs1, y, rfl, hr, hy, hyn, hye, rfl⟩
 obtain ⟨o1, k1, _, rfl, -⟩ := hr.open
 have hyl : y.ns.length = x.ns.length + p.ns.length := by rw [hyn]; simp
 have hyl2 : y.es.length = y.ns.length := by rw [hye, hyn]; simp [hxe]
 obtain ⟨a1, k2, hu1⟩ := bufVal_len hy.b1
 obtain ⟨a2, k3, hu2⟩ := bufVal_len hy.b2
 refine o_mem (fun w h => Mem.vm (X := [_, _]) h) ?_
 rw [hu1, hu2]
 simp only [List.cons_append, List.nil_append]
 refine o_alloc .free rfl ?_
 intro b5
 refine o_st rfl rfl rfl rfl .free ?_
 refine o_done ?_
 refine s_seq ?_
 refine Se rfl ?_
 refine o_fieldAddr rfl .free rfl ?_
 refine o_lO1 rfl .free rfl ?_
 refine o_cmps rfl rfl rfl .free rfl ?_
 refine o_done ?_
 refine s_cond rfl ?_ ?_
 ·intro c0
  try simp only [nb] at c0
  have hb : p.e.bare = true := by
   cases hb : p.e.bare with
   | true => rfl
   | false => exact absurd ((Ex.atom_iff hmo.2).2 hb) c0
  refine Se rfl ?_
  refine o_lOS rfl .free rfl ?_
  refine o_st rfl rfl rfl rfl .free ?_
  refine o_done ?_
  refine s_ret (.c rfl .nil) ?_
  refine ⟨J1, _, e1, fun w h => Mem.sub (L' := y.own b ot tk ct p.n L) (by unfold MS.own; rw [hu1, hu2]; repeat (first | exact List.Sublist.refl _ | apply List.Sublist.cons_cons | apply List.Sublist.cons)) h, _, y, rfl, by unfold MK.pt; rw [if_pos hb]; exact hr, hy, by unfold MK.pt; rw [if_pos hb]; exact hyn, by unfold MK.pt; rw [if_pos hb]; exact hye, by unfold MK.pt; rw [if_pos hb]⟩
 intro c0
 try simp only [nb] at c0
 have hb : p.e.bare = false := (Ex.atom_iff hmo.2).1 (by simpa using c0)
 have htk := htk.mono e1
 refine s_skip ?_
 refine Se rfl ?_
 refine Om rfl ?_
 refine o_mem (fun w h => h.f3) ?_
 refine o_call rfl .free rfl (g_l5Fresh htk b p.n (by omega) (by omega) _) ?_
 rintro _ _ _ _ ⟨rfl, rfl, rfl⟩
 have hfr := fr_facts 121 tk p.n
 have hfr2 := hits_le 121 tk (fr 121 tk p.n)
 have hnl : (nm 121 (fr 121 tk p.n)).length ≤ maxN := Ex.name_len (nm_name (by decide) (by omega))
 generalize hn1e : nm 121 (fr 121 tk p.n) = n1 at hnl ⊢
 have hpt : p.pt tk = ⟨.name n1, p.ns ++ [(n1, p.e)], fr 121 tk p.n + 1, p.g + 1⟩ := by unfold MK.pt; rw [if_neg (by rw [hb]; simp), hn1e]
 rw [hpt]
 unfold mkr
 refine Oa rfl ?_
 refine o_done ?_
 refine Se rfl ?_
 refine Om rfl ?_
 refine Om rfl ?_
 refine o_nilCheck rfl .free rfl ?_
 first | refine o_fieldAddr rfl .free rfl ?_ | refine o_fieldAddr' rfl .free rfl ?_
 refine o_lJ rfl .free rfl ?_
 refine Om rfl ?_
 refine o_lits rfl rfl (by rfl) (by rfl) (by rfl) (by decide) (by decide) (by rfl) .free rfl ?_
 intro b22
 refine o_append (B := y.B1) (xs := y.ns.map sv) (ys := [sv n1]) (m := y.ns.length) (c := y.c1) (by intro kk; simp) (by rfl) (by rw [hu1]; rfl) rfl hy.b1 (fun _ h => h.u5) (by rfl) (fun a ha => by cases ha; exact reads_ownL (.head _) (by rfl)) (by simp) (by rfl) (by decide) (by decide) (by omega) (by decide) .free rfl ?_
 intro bb sp c2 hB'
 refine o_nilCheck rfl .free rfl ?_
 first | refine o_fieldAddr rfl .free rfl ?_ | refine o_fieldAddr' rfl .free rfl ?_
 refine o_st rfl rfl rfl rfl .free ?_
 refine o_done ?_
 refine s_seq ?_
 refine d_s33 13 rfl rfl ?_
 refine Da 0 rfl (y_move rfl) ?_
 refine Da 1 rfl (y_nilCheck rfl) ?_
 first | refine Da 2 rfl (y_fieldAddr rfl) ?_ | refine Da 2 rfl (y_fieldAddr' rfl) ?_
 refine Dt 4 [9] rfl (y_lOS rfl) ?_
 refine d_two 3 6 (by kernel_rfl) ?_ ?_
 ·skip
  refine i_yld 3 rfl rfl (y_lJ rfl) .free rfl (.inr heldx) ?_
  refine Da 5 rfl (y_len_slice rfl) ?_
  refine d_lits 6 rfl (by kernel_rfl) rfl rfl rfl (by rfl) (by rfl) (by rfl) (by decide) (by decide) (by rfl) .free rfl (.inr heldx) ?_
  intro b32
  refine d_appendB 7 (B := y.B2) (xs := y.xs) (ys := [.string (str []), .slice none 0 0]) (m := y.es.length) (c := y.c2) rfl (by kernel_rfl) rfl (by intro kk; simp) (by rfl) (by rw [hu2]; rfl) rfl hy.b2 (fun _ h => h.u7) (by rfl) (fun a ha => by cases ha; exact reads_ownL (.head _) (by rfl)) (by simp) (by rfl) (by decide) (by omega) (by decide) .free rfl (fun _ => .inr heldx) ?_
  intro B2 c3 hB2
  obtain ⟨bq, sq, rfl⟩ : ∃ bq sq, B2 = some (bq, sq) := by
   cases B2 with
   | none => exact absurd hB2.1 (by simp)
   | some z => exact ⟨z.1, z.2, rfl⟩
  have hxl2 := hy.rep.length
  rw [List.length_map] at hxl2
  simp only [bufOwn, List.cons_append, List.nil_append, List.append_assoc]
  refine Da 8 rfl (y_indexAddr' rfl rfl _ rfl (by omega) rfl) ?_
  refine d_put (t := 34) rfl (congrArg (fun a => Value.pointer (some a)) (addr_own bq (y.es.length * 2))) ?_
  refine Da 10 rfl (y_nilCheck rfl) ?_
  first | refine Da 11 rfl (y_fieldAddr rfl) ?_ | refine Da 11 rfl (y_fieldAddr' rfl) ?_
  refine d_two 9 12 (by kernel_rfl) ?_ ?_
  ·skip
   refine i_st 9 rfl rfl rfl rfl rfl rfl .free (.inl (by kernel_rfl)) ?_ (hu := u0) (hus := putN_mid' (xs := y.xs) (zs := [_, _]) (sp := sq) (by omega) rfl)
   refine d_st 12 rfl (by kernel_rfl) rfl rfl rfl rfl rfl .free (.inl (by kernel_rfl)) ?_
   refine d_done (by kernel_rfl) ?_
   refine Se rfl ?_
   refine Om rfl ?_
   refine o_call rfl .free rfl (g_l1Atom ..) ?_
   rintro _ _ _ _ ⟨rfl, rfl, rfl⟩
   refine o_st rfl rfl rfl rfl .free ?_
   refine o_done ?_
   refine s_ret (.c rfl .nil) ?_
   refine ⟨J1, _, e1, fun w h => Mem.rev3 (Mem.sub (L' := (bq, _) :: (bb, _) :: (b, _) :: L) (by repeat (first | exact List.Sublist.refl _ | apply List.Sublist.cons_cons | apply List.Sublist.cons)) h), _, ⟨y.ns ++ [n1], y.es ++ [p.e], some (bb, sp), c2, y.xs ++ [.string (str p.e.tree.atom), .slice o1 p.e.tree.parts.length k1], some (bq, sq), c3⟩, rfl, .ofAtom hnl, ⟨by simpa using hB', ⟨by have := hB2.1; simp at this ⊢; omega, by simpa using hB2.2.1, by simpa using hB2.2.2⟩, by simpa using hy.rep.append (.one hr), ?_⟩, ?_, ?_, ?_⟩
   ·intro s hs
    rcases List.mem_append.1 hs with hs | hs
    ·exact hy.each s hs
    ·rw [List.mem_singleton.1 hs]; exact hnl
   ·simp only [hyn, List.map_append, List.map_cons, List.map_nil, List.append_assoc]
   ·simp only [hye, List.map_append, List.map_cons, List.map_nil, List.append_assoc]
   ·simp only [MS.own, mkr, bufOwn, bufVal, List.map_append, List.map_cons, List.map_nil, List.append_assoc, List.length_append, List.length_cons, List.length_nil, List.cons_append, List.nil_append]
  ·skip
   refine i_st 12 rfl rfl rfl rfl rfl rfl .free (.inr heldx) ?_
   refine d_st 9 rfl (by kernel_rfl) rfl rfl rfl rfl rfl .free (.inl (by kernel_rfl)) ?_ (hu := u0) (hus := putN_mid' (xs := y.xs) (zs := [_, _]) (sp := sq) (by omega) rfl)
   refine d_done (by kernel_rfl) ?_
   refine Se rfl ?_
   refine Om rfl ?_
   refine o_call rfl .free rfl (g_l1Atom ..) ?_
   rintro _ _ _ _ ⟨rfl, rfl, rfl⟩
   refine o_st rfl rfl rfl rfl .free ?_
   refine o_done ?_
   refine s_ret (.c rfl .nil) ?_
   refine ⟨J1, _, e1, fun w h => Mem.rev3 (Mem.sub (L' := (bq, _) :: (bb, _) :: (b, _) :: L) (by repeat (first | exact List.Sublist.refl _ | apply List.Sublist.cons_cons | apply List.Sublist.cons)) h), _, ⟨y.ns ++ [n1], y.es ++ [p.e], some (bb, sp), c2, y.xs ++ [.string (str p.e.tree.atom), .slice o1 p.e.tree.parts.length k1], some (bq, sq), c3⟩, rfl, .ofAtom hnl, ⟨by simpa using hB', ⟨by have := hB2.1; simp at this ⊢; omega, by simpa using hB2.2.1, by simpa using hB2.2.2⟩, by simpa using hy.rep.append (.one hr), ?_⟩, ?_, ?_, ?_⟩
   ·intro s hs
    rcases List.mem_append.1 hs with hs | hs
    ·exact hy.each s hs
    ·rw [List.mem_singleton.1 hs]; exact hnl
   ·simp only [hyn, List.map_append, List.map_cons, List.map_nil, List.append_assoc]
   ·simp only [hye, List.map_append, List.map_cons, List.map_nil, List.append_assoc]
   ·simp only [MS.own, mkr, bufOwn, bufVal, List.map_append, List.map_cons, List.map_nil, List.append_assoc, List.length_append, List.length_cons, List.length_nil, List.cons_append, List.nil_append]
 ·skip
  refine i_lits 6 rfl rfl rfl rfl (by rfl) (by rfl) (by rfl) (by decide) (by decide) (by rfl) .free rfl (.inr heldx) ?_
  intro b32
  refine d_yld 3 rfl (by kernel_rfl) rfl (y_lJ rfl) .free rfl (.inr heldx) ?_
  refine Da 5 rfl (y_len_slice rfl) ?_
  refine d_appendB 7 (B := y.B2) (xs := y.xs) (ys := [.string (str []), .slice none 0 0]) (m := y.es.length) (c := y.c2) rfl (by kernel_rfl) rfl (by intro kk; simp) (by rfl) (by rw [hu2]; rfl) rfl hy.b2 (fun _ h => h.u7) (by rfl) (fun a ha => by cases ha; exact reads_ownL (.head _) (by rfl)) (by simp) (by rfl) (by decide) (by omega) (by decide) .free rfl (fun _ => .inr heldx) ?_
  intro B2 c3 hB2
  obtain ⟨bq, sq, rfl⟩ : ∃ bq sq, B2 = some (bq, sq) := by
   cases B2 with
   | none => exact absurd hB2.1 (by simp)
   | some z => exact ⟨z.1, z.2, rfl⟩
  have hxl2 := hy.rep.length
  rw [List.length_map] at hxl2
  simp only [bufOwn, List.cons_append, List.nil_append, List.append_assoc]
  refine Da 8 rfl (y_indexAddr' rfl rfl _ rfl (by omega) rfl) ?_
  refine d_put (t := 34) rfl (congrArg (fun a => Value.pointer (some a)) (addr_own bq (y.es.length * 2))) ?_
  refine Da 10 rfl (y_nilCheck rfl) ?_
  first | refine Da 11 rfl (y_fieldAddr rfl) ?_ | refine Da 11 rfl (y_fieldAddr' rfl) ?_
  refine d_two 9 12 (by kernel_rfl) ?_ ?_
  ·skip
   refine i_st 9 rfl rfl rfl rfl rfl rfl .free (.inl (by kernel_rfl)) ?_ (hu := u0) (hus := putN_mid' (xs := y.xs) (zs := [_, _]) (sp := sq) (by omega) rfl)
   refine d_st 12 rfl (by kernel_rfl) rfl rfl rfl rfl rfl .free (.inl (by kernel_rfl)) ?_
   refine d_done (by kernel_rfl) ?_
   refine Se rfl ?_
   refine Om rfl ?_
   refine o_call rfl .free rfl (g_l1Atom ..) ?_
   rintro _ _ _ _ ⟨rfl, rfl, rfl⟩
   refine o_st rfl rfl rfl rfl .free ?_
   refine o_done ?_
   refine s_ret (.c rfl .nil) ?_
   refine ⟨J1, _, e1, fun w h => Mem.rev3 (Mem.sub (L' := (bq, _) :: (bb, _) :: (b, _) :: L) (by repeat (first | exact List.Sublist.refl _ | apply List.Sublist.cons_cons | apply List.Sublist.cons)) h), _, ⟨y.ns ++ [n1], y.es ++ [p.e], some (bb, sp), c2, y.xs ++ [.string (str p.e.tree.atom), .slice o1 p.e.tree.parts.length k1], some (bq, sq), c3⟩, rfl, .ofAtom hnl, ⟨by simpa using hB', ⟨by have := hB2.1; simp at this ⊢; omega, by simpa using hB2.2.1, by simpa using hB2.2.2⟩, by simpa using hy.rep.append (.one hr), ?_⟩, ?_, ?_, ?_⟩
   ·intro s hs
    rcases List.mem_append.1 hs with hs | hs
    ·exact hy.each s hs
    ·rw [List.mem_singleton.1 hs]; exact hnl
   ·simp only [hyn, List.map_append, List.map_cons, List.map_nil, List.append_assoc]
   ·simp only [hye, List.map_append, List.map_cons, List.map_nil, List.append_assoc]
   ·simp only [MS.own, mkr, bufOwn, bufVal, List.map_append, List.map_cons, List.map_nil, List.append_assoc, List.length_append, List.length_cons, List.length_nil, List.cons_append, List.nil_append]
  ·skip
   refine i_st 12 rfl rfl rfl rfl rfl rfl .free (.inr heldx) ?_
   refine d_st 9 rfl (by kernel_rfl) rfl rfl rfl rfl rfl .free (.inl (by kernel_rfl)) ?_ (hu := u0) (hus := putN_mid' (xs := y.xs) (zs := [_, _]) (sp := sq) (by omega) rfl)
   refine d_done (by kernel_rfl) ?_
   refine Se rfl ?_
   refine Om rfl ?_
   refine o_call rfl .free rfl (g_l1Atom ..) ?_
   rintro _ _ _ _ ⟨rfl, rfl, rfl⟩
   refine o_st rfl rfl rfl rfl .free ?_
   refine o_done ?_
   refine s_ret (.c rfl .nil) ?_
   refine ⟨J1, _, e1, fun w h => Mem.rev3 (Mem.sub (L' := (bq, _) :: (bb, _) :: (b, _) :: L) (by repeat (first | exact List.Sublist.refl _ | apply List.Sublist.cons_cons | apply List.Sublist.cons)) h), _, ⟨y.ns ++ [n1], y.es ++ [p.e], some (bb, sp), c2, y.xs ++ [.string (str p.e.tree.atom), .slice o1 p.e.tree.parts.length k1], some (bq, sq), c3⟩, rfl, .ofAtom hnl, ⟨by simpa using hB', ⟨by have := hB2.1; simp at this ⊢; omega, by simpa using hB2.2.1, by simpa using hB2.2.2⟩, by simpa using hy.rep.append (.one hr), ?_⟩, ?_, ?_, ?_⟩
   ·intro s hs
    rcases List.mem_append.1 hs with hs | hs
    ·exact hy.each s hs
    ·rw [List.mem_singleton.1 hs]; exact hnl
   ·simp only [hyn, List.map_append, List.map_cons, List.map_nil, List.append_assoc]
   ·simp only [hye, List.map_append, List.map_cons, List.map_nil, List.append_assoc]
   ·simp only [MS.own, mkr, bufOwn, bufVal, List.map_append, List.map_cons, List.map_nil, List.append_assoc, List.length_append, List.length_cons, List.length_nil, List.cons_append, List.nil_append]
end Go.Proofs.YtdgpnibnogdllaaGreatDoor


/- Whole expressions made normal, by the reference. No conditions. -/
namespace Go.Proofs.YtdgpnibnogdllaaGreatDoor
set_option maxRecDepth 100000
set_option linter.unusedVariables false
set_option linter.unusedSimpArgs false

theorem Forms.at' {I : Heap} {oa : Option Addr} {ts : List Tree} {c : Nat} (h : Forms I oa ts c) : ∃ oaf cf, FormAt I (.node [] ts) oa c oaf cf := by
 obtain ⟨oa', c', oaf, cf, he, hf⟩ := (h.form [] (by decide)).at'
 simp only [List.cons.injEq, Value.slice.injEq, and_true, true_and] at he
 obtain ⟨_, rfl, _, rfl⟩ := he
 exact ⟨oaf, cf, hf⟩
theorem o_freezeForms {P : Program} {f : FuncId} {n : Nat} {I₀ : Heap} {Q : Post} {k : List Item} {E : Env} {I : Heap} {L : Own} {ops : Array Oper} {ol : List Oper} {e : TypeId} {ts : List Tree} {vs : List Value} {B : Buf} {m c : Nat} (hl : RepL I ts vs) (hB : BufOk 2 m c vs B) (hm : m = ts.length) (hn : ts.length ≤ maxN)
  (h : ∀ I' oa c', HLe I I' → bufVal m c B = .slice oa ts.length c' → Forms I' oa ts c' → RunO P f n I₀ Q ops ol k E I' L) : RunO P f n I₀ Q ops ol k E I (bufOwn e vs B ++ L) := by
 rcases forms_buf (e := e) hl hB hm hn with ⟨rfl, rfl⟩ | ⟨b, sp, rfl, _, hc⟩
 ·exact h I none 0 (.refl _) rfl (forms_none _)
 ·exact o_freeze fun hle => h _ (some ⟨b, 0, none⟩) c hle (by rw [← hm]; rfl) (forms_lit hl hle hc hn)
theorem RepL.four {I : Heap} {t u v x : Tree} {cs ds es gs : List Value} (h : Rep I t cs) (h' : Rep I u ds) (h'' : Rep I v es) (h3 : Rep I x gs) : RepL I [t, u, v, x] (cs ++ (ds ++ (es ++ gs))) := (RepL.one h).append ((RepL.one h').append ((RepL.one h'').append (.one h3)))
theorem g_l1List {I : Heap} {oa : Option Addr} {ts : List Tree} {c : Nat} (h : Forms I oa ts c) (L : Own) : Fun Tryz.prog 36 [.slice oa ts.length c] I L (RP (.node [] ts) L) := by
 refine fun_intro (by simp) ?_
 refine Se rfl ?_
 refine o_alloc .free rfl ?_
 intro b2
 refine o_done ?_
 refine Se rfl ?_
 refine Om rfl ?_
 refine o_struct rfl rfl rfl .free rfl ?_
 refine o_st rfl rfl rfl rfl .free ?_
 refine o_done ?_
 refine s_ret (.c rfl .nil) ?_
 exact ⟨I, L, .refl _, drops, _, rfl, h.form [] (by decide), rfl⟩
theorem zip_drop {ns : List Txt} {es : List Ex} {k : Nat} (h : k < ns.length) (h2 : es.length = ns.length) (f : Ex) : lets ((ns.zip es).drop k) f = .lt (ns.getD k []) (es.getD k (.num [])) (lets ((ns.zip es).drop (k + 1)) f) := by
 have h3 : k < (ns.zip es).length := by simp [List.length_zip, h2]; exact h
 rw [lets_drop h3]
 simp [List.getElem_zip, h, show k < es.length by omega]
theorem zip_self : ∀ (l : Bds), (l.map (·.1)).zip (l.map (·.2)) = l
 | [] => rfl
 | p :: l => by simp only [List.map_cons, List.zip_cons_cons, zip_self l]
theorem l5Whole_of {N : Nat} (ih : MakeH N) {I : Heap} {e : Ex} {cs : List Value} (hlt : SizeOf.sizeOf e < N) (h : Rep I e.tree cs) (hok : e.ok = true) {ot : Option Addr} {tk : List Txt} {ct : Nat} (htk : Strs I ot tk ct) (b n : Nat) (hn : n + e.size + tk.length ≤ 900 + hits 121 tk n) (hz : e.size ≤ 100000) {a1 a2 : Option Addr} {q1 j1 q2 j2 : Nat} (L : Own) :
  Fun Tryz.prog 18 [.pointer (some ⟨b, 0, none⟩), .agg cs.toArray] I (mkr b ot tk ct n (.slice a1 q1 j1) (.slice a2 q2 j2) :: L) (fun v I' L' => ∃ cs, v = .agg (List.toArray cs) ∧ Rep I' (e.mk tk n).all.tree cs ∧ L' = mkr b ot tk ct (e.mk tk n).n (.slice a1 q1 j1) (.slice a2 q2 j2) :: L) := by
 obtain ⟨oa, c, oaf, cf, rfl, hf⟩ := h.at'
 have hmo := Ex.mk_ok (tk := tk) (n := n) hok hn
 have hml := e.mk_len tk n
 generalize hp : e.mk tk n = p at *
 unfold mkr
 refine fun_intro (by simp) ?_
 refine Se rfl ?_
 refine o_box rfl rfl .free rfl ?_
 intro b3
 refine o_alloc .free rfl ?_
 intro b4
 refine o_done ?_
 refine Se rfl ?_
 refine Om rfl ?_
 refine o_nilCheck rfl .free rfl ?_
 first | refine o_fieldAddr rfl .free rfl ?_ | refine o_fieldAddr' rfl .free rfl ?_
 refine o_lJ rfl .free rfl ?_
 refine Oa rfl ?_
 refine o_done ?_
 refine Se rfl ?_
 refine Om rfl ?_
 refine o_nilCheck rfl .free rfl ?_
 first | refine o_fieldAddr rfl .free rfl ?_ | refine o_fieldAddr' rfl .free rfl ?_
 refine o_lJ rfl .free rfl ?_
 refine Oa rfl ?_
 refine o_done ?_
 refine Se rfl ?_
 refine Om rfl ?_
 refine o_lits0 .free rfl ?_
 intro b18
 refine o_nilCheck rfl .free rfl ?_
 first | refine o_fieldAddr rfl .free rfl ?_ | refine o_fieldAddr' rfl .free rfl ?_
 refine o_st rfl rfl rfl rfl .free ?_
 refine o_done ?_
 refine Se rfl ?_
 refine Om rfl ?_
 refine o_lits0 .free rfl ?_
 intro b22
 refine o_nilCheck rfl .free rfl ?_
 first | refine o_fieldAddr rfl .free rfl ?_ | refine o_fieldAddr' rfl .free rfl ?_
 refine o_st rfl rfl rfl rfl .free ?_
 refine o_done ?_
 refine Se rfl ?_
 refine Om rfl ?_
 refine o_lOS rfl .free rfl ?_
 refine o_mem (L' := MS.own b ot tk ct n ⟨[], [], some (b18, []), 0, [], some (b22, []), 0⟩ (_ :: _ :: L)) (fun w h => h.f4.sw) ?_
 refine o_call rfl .free rfl (ih hlt hf.rep hok htk b n hn ⟨[], [], some (b18, []), 0, [], some (b22, []), 0⟩ ⟨⟨rfl, Nat.le_refl _, rfl⟩, ⟨rfl, Nat.le_refl _, rfl⟩, .nil, by simp⟩ (by simp; omega) rfl _) ?_
 rw [hp]; rintro _ J1 _ e1 ⟨cs1, y, rfl, hr, hy, hyn, hye, rfl⟩
 obtain ⟨o1, k1, _, rfl, -⟩ := hr.open
 simp only [List.nil_append] at hyn hye
 have hyl : y.ns.length = p.ns.length := by rw [hyn]; simp
 have hyl2 : y.es.length = y.ns.length := by rw [hye, hyn]; simp
 unfold MS.own
 refine o_mem (fun w h => Mem.seg2 (A := [_]) h) ?_
 refine o_freezeStrs hy.b1 rfl (by unfold maxN; omega) hy.each ?_
 intro J2 oz cz ez hu1 hst
 refine o_mem (fun w h => Mem.seg2 (A := [_]) (B := bufOwn _ _ _) h) ?_
 have hy := hy.mono ez
 refine o_freezeForms hy.rep hy.b2 (by simp) (by simp; unfold maxN; omega) ?_
 intro J3 oy cy ey hu2 hfm
 rw [hu1, hu2]
 refine o_mem (L' := (_ :: _ :: _ :: L)) (fun w h => h) ?_
 have hst := hst.mono ey
 have hr := (hr.mono ez).mono ey
 have hle := (e1.trans ez).trans ey
 obtain ⟨oaf2, cf2, hff⟩ := hfm.at'
 unfold mkr
 refine o_alloc .free rfl ?_
 intro b7
 refine o_st rfl rfl rfl rfl .free ?_
 refine o_done ?_
 refine s_seq ?_
 refine Se rfl ?_
 refine Om rfl ?_
 refine o_nilCheck rfl .free rfl ?_
 first | refine o_fieldAddr rfl .free rfl ?_ | refine o_fieldAddr' rfl .free rfl ?_
 refine o_lJ rfl .free rfl ?_
 refine o_len_slice rfl .free rfl ?_
 refine o_arith rfl rfl rfl (by omega) .free rfl ?_
 refine Oa rfl ?_
 refine o_done ?_
 refine s_block ?_
 refine s_while (X := YS) (fun z => z.k) (fun z => [(0, .pointer (some ⟨b, 0, none⟩)), (4, .pointer (some ⟨b4, 0, none⟩)), (5, .slice a1 q1 j1), (6, .slice a2 q2 j2), (7, .pointer (some ⟨b7, 0, none⟩)), (8, .int .i64 ((z.k : Int) - 1))]) (fun z => z.I) (fun z => (b7, .cells [.string (str (lets ((y.ns.zip y.es).drop z.k) p.e).tree.atom), .slice z.oa (lets ((y.ns.zip y.es).drop z.k) p.e).tree.parts.length z.c].toArray 27 (0, 0)) :: (b, .cells [.slice ot tk.length ct, .int .i64 (p.n : Nat), .slice oz y.ns.length cz, .slice oy (y.es.map Ex.tree).length cy].toArray 45 (0, 0)) :: (b4, .cells [.string (str []), .slice none 0 0].toArray 27 (0, 0)) :: (b3, .cells [.string (str e.tree.atom), .slice oa e.tree.parts.length c].toArray 27 (0, 0)) :: L) (fun z => HLe J3 z.I ∧ z.k ≤ y.ns.length ∧ Rep z.I (lets ((y.ns.zip y.es).drop z.k) p.e).tree [.string (str (lets ((y.ns.zip y.es).drop z.k) p.e).tree.atom), .slice z.oa (lets ((y.ns.zip y.es).drop z.k) p.e).tree.parts.length z.c]) ⟨J3, y.ns.length, o1, k1⟩ ⟨.refl _, Nat.le_refl _, by rw [List.drop_of_length_le (by simp [List.length_zip, hyl2])]; exact hr⟩ ⟨rfl, rfl, rfl, rfl, rfl, rfl, trivial⟩ (fun w hw => by rw [List.drop_of_length_le (by simp [List.length_zip, hyl2])]; exact hw) ?_
 rintro ⟨J, k, ob, d⟩ ⟨hlz, hk, hrz⟩ ih2
 simp only at hlz hk hrz ih2
 dsimp only
 refine s_seq ?_
 refine Se rfl ?_
 refine Om rfl ?_
 refine o_cmp rfl rfl rfl .free rfl ?_
 refine o_done ?_
 refine s_cond rfl ?_ ?_
 ·intro c0
  try simp only [nb] at c0
  obtain ⟨k, rfl⟩ : ∃ m, k = m + 1 := ⟨k - 1, by omega⟩
  refine s_put (t := 8) (v' := .int .i64 (k : Nat)) rfl (by congr 1; omega) ?_
  have hst := hst.mono hlz
  have hff := hff.mono hlz
  have hkn : k < y.ns.length := by omega
  have hke : k < (Tree.node [] (y.es.map Ex.tree)).parts.length := by show k < (y.es.map Ex.tree).length; rw [List.length_map]; omega
  have hpt : (Tree.node [] (y.es.map Ex.tree)).pt k = (y.es.getD k (.num [])).tree := by
   rw [Tree.pt_at hke]; exact (List.getElem_map ..).trans (by simp [show k < y.es.length by omega])
  have hrk := hff.rp k hke
  have hnk := hst.each _ (List.getElem_mem hkn)
  rw [show y.ns[k] = y.ns.getD k [] by simp [hkn]] at hnk
  refine s_skip ?_
  refine s_seq ?_
  refine s_block ?_
  refine d_all 20 rfl rfl ?_
  refine Da 1 rfl (y_move rfl) ?_
  refine Da 2 rfl (y_nilCheck rfl) ?_
  first | refine Da 3 rfl (y_fieldAddr rfl) ?_ | refine Da 3 rfl (y_fieldAddr' rfl) ?_
  refine Dt 4 [19] rfl (y_lJ rfl) ?_
  refine Da 5 rfl (y_move rfl) ?_
  first | refine Da 6 rfl (y_ixD rfl rfl _ rfl) ?_ | refine Da 6 rfl (y_ixP rfl rfl _ rfl) ?_
  refine Dt 7 [19] rfl (y_lI1 rfl) ?_
  refine Da 9 rfl (y_move rfl) ?_
  refine Da 10 rfl (y_nilCheck rfl) ?_
  first | refine Da 11 rfl (y_fieldAddr rfl) ?_ | refine Da 11 rfl (y_fieldAddr' rfl) ?_
  refine Dt 12 [19] rfl (y_lJ rfl) ?_
  refine Da 13 rfl (y_move rfl) ?_
  first | refine Da 14 rfl (y_ixD rfl rfl _ rfl) ?_ | refine Da 14 rfl (y_ixP rfl rfl _ rfl) ?_
  refine Dt 15 [19] rfl (y_lIS rfl) ?_
  refine Dt 16 [19] rfl (y_lOS rfl) ?_
  refine d_call 0 rfl (by kernel_rfl) rfl rfl .free rfl (g_l1Atom tLet _ _) ?_
  rintro _ _ _ _ ⟨rfl, rfl, rfl⟩
  refine ⟨(.inr heldx), ?_⟩
  refine d_call 8 rfl (by kernel_rfl) rfl rfl .free rfl (g_l1Atom (y.ns.getD k []) _ _) ?_
  rintro _ _ _ _ ⟨rfl, rfl, rfl⟩
  refine ⟨(.inr heldx), ?_⟩
  refine d_lits 17 rfl (by kernel_rfl) rfl rfl rfl (by rfl) (by rfl) (by rfl) (by decide) (by decide) (by rfl) .free rfl (.inr heldx) ?_
  intro b55
  refine d_freeze ?_
  intro hz
  have hfs := forms_lit0 (c := 4) (b := b55) (RepL.four (.ofAtom (a := tLet) (by decide)) (.ofAtom hnk) hrk hrz) hz (by simp) (by simp [maxN])
  refine d_call 18 rfl (by kernel_rfl) rfl rfl .free rfl (g_l1List hfs _) ?_
  rintro _ J5 _ e5 ⟨cs5, rfl, hr5, rfl⟩
  rw [hpt] at hr5
  have e6 := hz.trans e5
  obtain ⟨oq, cq, _, rfl, -⟩ := hr5.open
  refine ⟨(.inr heldx), ?_⟩
  refine d_st 19 rfl (by kernel_rfl) rfl rfl rfl rfl rfl .free (.inl (by kernel_rfl)) ?_
  refine d_done (by kernel_rfl) ?_
  refine s_inBlock ?_
  refine o_enter rfl ?_
  refine Om rfl ?_
  refine o_arith rfl rfl rfl (by omega) .free rfl ?_
  refine Oa rfl ?_
  refine o_done ?_
  refine s_env (E' := [(0, .pointer (some ⟨b, 0, none⟩)), (4, .pointer (some ⟨b4, 0, none⟩)), (5, .slice a1 q1 j1), (6, .slice a2 q2 j2), (7, .pointer (some ⟨b7, 0, none⟩)), (8, .int .i64 ((k : Int) - 1))]) ⟨rfl, rfl, rfl, rfl, rfl, rfl, trivial⟩ ?_
  have hd := zip_drop hkn hyl2 p.e
  refine s_mem (fun w hw => ?_) (ih2 ⟨J5, k, oq, cq⟩ ⟨hlz.trans e6, by simp only; omega, by simp only; rw [hd]; exact hr5⟩ (by simp only; omega))
  simp only; rw [hd]; exact hw
 intro c0
 try simp only [nb] at c0
 obtain rfl : k = 0 := by omega
 rw [List.drop_zero] at hrz
 simp only [List.drop_zero]
 have hzz : y.ns.zip y.es = p.ns := by rw [hyn, hye, zip_self]
 rw [hzz] at hrz ⊢
 refine s_exit rfl ?_
 refine Se rfl ?_
 refine Om rfl ?_
 refine Om rfl ?_
 refine o_nilCheck rfl .free rfl ?_
 first | refine o_fieldAddr rfl .free rfl ?_ | refine o_fieldAddr' rfl .free rfl ?_
 refine o_st rfl rfl rfl rfl .free ?_
 refine o_done ?_
 refine Se rfl ?_
 refine Om rfl ?_
 refine Om rfl ?_
 refine o_nilCheck rfl .free rfl ?_
 first | refine o_fieldAddr rfl .free rfl ?_ | refine o_fieldAddr' rfl .free rfl ?_
 refine o_st rfl rfl rfl rfl .free ?_
 refine o_done ?_
 refine Se rfl ?_
 refine o_lOS rfl .free rfl ?_
 refine o_st rfl rfl rfl rfl .free ?_
 refine o_done ?_
 refine s_ret (.c rfl .nil) ?_
 exact ⟨J, _, hle.trans hlz, fun w h => Mem.sub (L' := (b, _) :: L) (by repeat (first | exact List.Sublist.refl _ | apply List.Sublist.cons_cons | apply List.Sublist.cons)) h, _, rfl, hrz, rfl⟩
end Go.Proofs.YtdgpnibnogdllaaGreatDoor


/- Expressions made simple, by the reference. No conditions. -/
namespace Go.Proofs.YtdgpnibnogdllaaGreatDoor
set_option maxRecDepth 100000
set_option linter.unusedVariables false
set_option linter.unusedSimpArgs false

section
variable {P : Program} {f : FuncId} {n : Nat} {I₀ : Heap} {Q : Post} {k : List Item} {E : Env} {I : Heap} {id : Nat} {ops : Array Oper} {a b c d e m p q r s t : Nat × Obj} {A B L : Own} {w : World}
theorem Mem.vm1 (h : Mem I (m :: (A ++ (B ++ (p :: L)))) w) : Mem I (p :: m :: (A ++ (B ++ L))) w := Mem.vm (X := [p]) h
theorem Mem.mv4 (h : Mem I (p :: q :: r :: s :: m :: (A ++ (B ++ L))) w) : Mem I (m :: (A ++ (B ++ (p :: q :: r :: s :: L)))) w := Mem.mv (X := [p, q, r, s]) h
theorem Mem.vm4 (h : Mem I (m :: (A ++ (B ++ (p :: q :: r :: s :: L)))) w) : Mem I (p :: q :: r :: s :: m :: (A ++ (B ++ L))) w := Mem.vm (X := [p, q, r, s]) h
theorem d_x4 (N : Nat) (hN : ops.size = N) (hm : P.follows .mixedOrders = true) (h : RunW P f n I₀ Q ops (Mem I (p :: q :: r :: s :: L)) N (Array.replicate N false) k E I (p :: q :: r :: s :: m :: (A ++ (B ++ L)))) :
  RunS P f n I₀ Q (.code (.region id ops true) :: k) E I (p :: q :: r :: s :: m :: (A ++ (B ++ L))) := d_with I (p :: q :: r :: s :: L) N hN hm h
theorem d_x6 (N : Nat) (hN : ops.size = N) (hm : P.follows .mixedOrders = true) (h : RunW P f n I₀ Q ops (Mem I (a :: p :: q :: r :: s :: m :: L)) N (Array.replicate N false) k E I (a :: p :: q :: r :: s :: m :: (A ++ L))) :
  RunS P f n I₀ Q (.code (.region id ops true) :: k) E I (a :: p :: q :: r :: s :: m :: (A ++ L)) := d_with I (a :: p :: q :: r :: s :: m :: L) N hN hm h
theorem d_x2 (N : Nat) (hN : ops.size = N) (hm : P.follows .mixedOrders = true) (h : RunW P f n I₀ Q ops (Mem I (p :: q :: r :: s :: t :: L)) N (Array.replicate N false) k E I (a :: b :: p :: q :: r :: s :: t :: m :: (A ++ L))) :
  RunS P f n I₀ Q (.code (.region id ops true) :: k) E I (a :: b :: p :: q :: r :: s :: t :: m :: (A ++ L)) := d_with I (p :: q :: r :: s :: t :: L) N hN hm h
end
set_option maxHeartbeats 1000000 in
theorem make_bin {N : Nat} (ihn : MakeH N) {o : B5} {a b : Ex} {I : Heap} {cs : List Value} (hlt : SizeOf.sizeOf (Ex.bin o a b) < N + 1) (h : Rep I (Ex.bin o a b).tree cs) (hok : (Ex.bin o a b).ok = true) {ot : Option Addr} {tk : List Txt} {ct : Nat} (htk : Strs I ot tk ct) (b0 n : Nat) (hn : n + (Ex.bin o a b).size + tk.length ≤ 900 + hits 121 tk n) (x : MS) (hx : x.ok I) (hxl : x.ns.length + (Ex.bin o a b).size ≤ 100000) (hxe : x.es.length = x.ns.length) (L : Own) :
  Fun Tryz.prog 35 [.pointer (some ⟨b0, 0, none⟩), .agg cs.toArray] I (x.own b0 ot tk ct n L) (MP b0 ot tk ct x ((Ex.bin o a b).mk tk n) L) := by
 obtain ⟨oa, c, oaf, cf1, rfl, hf, hcl, hcs⟩ := h.cells
 have hle : HLe I I := .refl _
 have hh0 := hits_le 121 tk n
 have hpos : 0 < (Ex.bin o a b).tree.parts.length := by show 0 < 3; decide
 obtain ⟨xa, rfl⟩ : ∃ xa, oa = some xa := ⟨_, some_oad hf.nil hpos⟩
 have hlen : (Ex.bin o a b).tree.parts.length = 3 := rfl
 have hp0 : ((Ex.bin o a b).tree.pt 0).atom = o.txt := rfl
 simp only [Ex.bin.sizeOf_spec] at hlt
 simp only [Ex.ok, Bool.and_eq_true, decide_eq_true_eq] at hok
 simp only [Ex.size] at hn hxl
 simp only [Ex.mk]
 unfold MS.own
 refine fun_intro (by simp) ?_
 refine Se rfl ?_
 refine o_box rfl rfl .free rfl ?_
 intro b3
 refine o_alloc .free rfl ?_
 intro b4
 refine o_done ?_
 refine s_seq ?_
 refine Se rfl ?_
 refine o_fieldAddr rfl .free rfl ?_
 refine o_lO1 rfl .free rfl ?_
 refine o_cmps rfl rfl rfl .free rfl ?_
 refine o_done ?_
 first | refine s_fp rfl (by simp [Ex.tree, Tree.atom]) ?_ | refine s_fn rfl (by simp [Ex.tree, Tree.atom]) ?_ | refine s_false (by simp [look, opd, *]) ?_
 refine s_skip ?_
 refine Se rfl ?_
 refine o_fieldAddr rfl .free rfl ?_
 refine o_lO1 rfl .free rfl ?_
 refine Oa rfl ?_
 refine o_done ?_
 refine Se rfl ?_
 refine o_lits0 .free rfl ?_
 intro b15
 refine Om rfl ?_
 refine o_append (B := some (b15, [])) (xs := []) (ys := cellsF oaf cf1 0 (Ex.bin o a b).tree.parts) (m := 0) (c := 0) (by intro kk; simp) (by rfl) rfl rfl ⟨rfl, Nat.le_refl _, rfl⟩ (fun _ h => h) (by have := hcl.length; omega) (fun a ha => by cases ha; exact (hcs _ rfl).reads) (by simp) hcl.plain hpos (by decide) (by omega) (by decide) .free rfl ?_
 intro bc sp cc hB'
 have hcc : (Ex.bin o a b).tree.parts.length ≤ cc := by have := hB'.2.1; omega
 refine o_put (t := 17) (v' := .slice (some ⟨bc, 0, none⟩) (Ex.bin o a b).tree.parts.length cc) rfl (by rw [Nat.zero_add]) ?_
 simp only [List.nil_append]
 simp only [show (Ex.bin o a b).tree.parts = [.node o.txt [], a.tree, b.tree] from rfl, cellsF, List.cons_append, List.nil_append]
 refine o_struct rfl rfl rfl .free rfl ?_
 refine o_alloc .free rfl ?_
 intro b6
 refine o_st rfl rfl rfl rfl .free ?_
 refine o_done ?_
 refine s_seq ?_
 refine Se rfl ?_
 refine Om rfl ?_
 first | refine o_ixD rfl rfl 0 rfl .free rfl ?_ | refine o_ixP rfl rfl 0 rfl .free rfl ?_
 refine o_fieldAddr' rfl .free rfl ?_
 refine o_lIF rfl .free rfl ?_
 refine o_done ?_
 refine s_block ?_
 refine Se rfl ?_
 refine o_cmps rfl rfl rfl .free rfl ?_
 refine Oa rfl ?_
 refine o_done ?_
 first | refine s_fp rfl (by rw [hp0]; cases o <;> decide) ?_ | refine s_fn rfl (by rw [hp0]; cases o <;> decide) ?_ | refine s_false (by simp [look, opd, *]) ?_
 refine Se rfl ?_
 refine o_cmps rfl rfl rfl .free rfl ?_
 refine Oa rfl ?_
 refine o_done ?_
 first | refine s_fp rfl (by rw [hp0]; cases o <;> decide) ?_ | refine s_fn rfl (by rw [hp0]; cases o <;> decide) ?_ | refine s_false (by simp [look, opd, *]) ?_
 refine Se rfl ?_
 refine o_cmps rfl rfl rfl .free rfl ?_
 refine Oa rfl ?_
 refine o_done ?_
 first | refine s_fp rfl (by rw [hp0]; cases o <;> decide) ?_ | refine s_fn rfl (by rw [hp0]; cases o <;> decide) ?_ | refine s_false (by simp [look, opd, *]) ?_
 refine s_skip ?_
 refine s_inBlock ?_
 refine s_seq ?_
 refine Se rfl ?_
 refine Oa rfl ?_
 refine o_done ?_
 refine s_block ?_
 refine s_loop ?_
 refine s_seq ?_
 refine Se rfl ?_
 refine Om rfl ?_
 refine Om rfl ?_
 refine o_len_slice rfl .free rfl ?_
 refine o_cmp rfl rfl rfl .free rfl ?_
 refine o_done ?_
 refine s_condT rfl (by first | rfl | decide | (simp; done) | omega) ?_
 refine s_skip ?_
 refine s_seq ?_
 refine s_block ?_
 refine s_here fun hlr => ?_
 have g1 := a.mk_g tk n
 have mh1 := a.mk_hits tk n
 have gp1 := MK.pt_g tk _ g1.1 g1.2
 have mp1 := MK.pt_hits tk _ mh1
 have lp1 := MK.pt_len tk _ (a.mk_len tk n)
 have hz1 := hits_le 121 tk n
 refine d_x4 11 rfl rfl ?_
 refine Da 0 rfl (y_fieldAddr rfl) ?_
 refine Dt 1 [10] rfl (y_lO1 rfl) ?_
 refine Da 2 rfl (y_move rfl) ?_
 refine Da 3 rfl (y_move rfl) ?_
 refine Da 4 rfl (y_move rfl) ?_
 refine Da 5 rfl (y_move rfl) ?_
 first | refine Da 6 rfl (y_ixD rfl rfl _ rfl) ?_ | refine Da 6 rfl (y_ixP rfl rfl _ rfl) ?_
 refine Dt 7 [10] rfl (y_lIS rfl) ?_
 refine d_mem (fun w h => Mem.mv4 h) ?_
 refine d_call 8 rfl (by kernel_rfl) rfl rfl .free rfl (l5Plain_of ihn (by omega) (hf.as 1 a.tree (by omega) rfl) hok.1 htk b0 n (by omega) x hx (by omega) hxe _) ?_
 rintro _ J1 _ e1 ⟨cs1, y1, rfl, hr_1, hy1, hy1n, hy1s, rfl⟩
 obtain ⟨o1, k1, _, rfl, -⟩ := hr_1.open
 have hy1l : y1.ns.length = x.ns.length + ((a.mk tk n).pt tk).ns.length := by rw [hy1n]; simp
 have hy1e : y1.es.length = y1.ns.length := by rw [hy1s, hy1n]; simp [hxe]
 have hlr := hlr.trans e1
 have hf := hf.mono e1
 have htk := htk.mono e1
 have hle := hle.trans e1
 unfold MS.own
 refine ⟨(.inr heldx), ?_⟩
 refine d_mem (fun w h => Mem.vm4 h) ?_
 first | refine Da 9 rfl (y_ixD rfl rfl _ rfl) ?_ | refine Da 9 rfl (y_ixP rfl rfl _ rfl) ?_
 refine d_st 10 rfl (by kernel_rfl) rfl rfl rfl rfl rfl .free (.inl (by kernel_rfl)) ?_
 refine d_done (by kernel_rfl) ?_
 refine s_inBlock ?_
 refine o_enter rfl ?_
 refine Om rfl ?_
 refine o_arith rfl rfl rfl (by omega) .free rfl ?_
 refine Oa rfl ?_
 refine o_done ?_
 refine s_round ?_
 refine s_seq ?_
 refine Se rfl ?_
 refine Om rfl ?_
 refine Om rfl ?_
 refine o_len_slice rfl .free rfl ?_
 refine o_cmp rfl rfl rfl .free rfl ?_
 refine o_done ?_
 refine s_condT rfl (by first | rfl | decide | (simp; done) | omega) ?_
 refine s_skip ?_
 refine s_seq ?_
 refine s_block ?_
 refine s_here fun hlr => ?_
 have g2 := b.mk_g tk ((a.mk tk n).pt tk).n
 have mh2 := b.mk_hits tk ((a.mk tk n).pt tk).n
 have gp2 := MK.pt_g tk _ g2.1 g2.2
 have mp2 := MK.pt_hits tk _ mh2
 have lp2 := MK.pt_len tk _ (b.mk_len tk ((a.mk tk n).pt tk).n)
 have hz2 := hits_le 121 tk ((a.mk tk n).pt tk).n
 refine d_x4 11 rfl rfl ?_
 refine Da 0 rfl (y_fieldAddr rfl) ?_
 refine Dt 1 [10] rfl (y_lO1 rfl) ?_
 refine Da 2 rfl (y_move rfl) ?_
 refine Da 3 rfl (y_move rfl) ?_
 refine Da 4 rfl (y_move rfl) ?_
 refine Da 5 rfl (y_move rfl) ?_
 first | refine Da 6 rfl (y_ixD rfl rfl _ rfl) ?_ | refine Da 6 rfl (y_ixP rfl rfl _ rfl) ?_
 refine Dt 7 [10] rfl (y_lIS rfl) ?_
 refine d_mem (fun w h => Mem.mv4 h) ?_
 refine d_call 8 rfl (by kernel_rfl) rfl rfl .free rfl (l5Plain_of ihn (by omega) (hf.as 2 b.tree (by omega) rfl) hok.2 htk b0 ((a.mk tk n).pt tk).n (by omega) y1 hy1 (by omega) hy1e _) ?_
 rintro _ J2 _ e2 ⟨cs2, y2, rfl, hr_2, hy2, hy2n, hy2s, rfl⟩
 obtain ⟨o2, k2, _, rfl, -⟩ := hr_2.open
 have hy2l : y2.ns.length = y1.ns.length + ((b.mk tk ((a.mk tk n).pt tk).n).pt tk).ns.length := by rw [hy2n]; simp
 have hy2e : y2.es.length = y2.ns.length := by rw [hy2s, hy2n]; simp [hy1e]
 have hlr := hlr.trans e2
 have hf := hf.mono e2
 have htk := htk.mono e2
 have hle := hle.trans e2
 have hr_1 := hr_1.mono e2
 unfold MS.own
 refine ⟨(.inr heldx), ?_⟩
 refine d_mem (fun w h => Mem.vm4 h) ?_
 first | refine Da 9 rfl (y_ixD rfl rfl _ rfl) ?_ | refine Da 9 rfl (y_ixP rfl rfl _ rfl) ?_
 refine d_st 10 rfl (by kernel_rfl) rfl rfl rfl rfl rfl .free (.inl (by kernel_rfl)) ?_
 refine d_done (by kernel_rfl) ?_
 refine s_inBlock ?_
 refine o_enter rfl ?_
 refine Om rfl ?_
 refine o_arith rfl rfl rfl (by omega) .free rfl ?_
 refine Oa rfl ?_
 refine o_done ?_
 refine s_round ?_
 refine s_seq ?_
 refine Se rfl ?_
 refine Om rfl ?_
 refine Om rfl ?_
 refine o_len_slice rfl .free rfl ?_
 refine o_cmp rfl rfl rfl .free rfl ?_
 refine o_done ?_
 refine s_condF rfl (by first | rfl | decide | (simp; done) | omega) ?_
 refine s_exit rfl ?_
 refine Se rfl ?_
 refine o_lOS rfl .free rfl ?_
 refine o_st rfl rfl rfl rfl .free ?_
 refine o_done ?_
 refine s_mem (fun w h => h.f1) (s_freeze ?_)
 intro hz
 have hf := hf.mono hz
 refine s_ret (.c rfl .nil) ?_
 refine ⟨_, _, hle.trans hz, fun w h => h.drop.drop.drop, _, y2, rfl, .mk' rfl (.cons (hf.as 0 (.node o.txt []) (by omega) rfl) (.cons (hr_1.mono hz) (.cons (hr_2.mono hz) (.nil)))) (fun y hy => by cases hy; exact still_set (xs := [_, _, _, _, _, _])) (by simp) hcc (by simp [maxN]) (by simp [maxN]), hy2.mono hz, by simp only [hy2n, hy1n, List.map_append, List.append_assoc], by simp only [hy2s, hy1s, List.map_append, List.append_assoc], ?_⟩
 rfl
set_option maxHeartbeats 1000000 in
theorem make_ite {N : Nat} (ihn : MakeH N) {a b d : Ex} {I : Heap} {cs : List Value} (hlt : SizeOf.sizeOf (Ex.ite a b d) < N + 1) (h : Rep I (Ex.ite a b d).tree cs) (hok : (Ex.ite a b d).ok = true) {ot : Option Addr} {tk : List Txt} {ct : Nat} (htk : Strs I ot tk ct) (b0 n : Nat) (hn : n + (Ex.ite a b d).size + tk.length ≤ 900 + hits 121 tk n) (x : MS) (hx : x.ok I) (hxl : x.ns.length + (Ex.ite a b d).size ≤ 100000) (hxe : x.es.length = x.ns.length) (L : Own) :
  Fun Tryz.prog 35 [.pointer (some ⟨b0, 0, none⟩), .agg cs.toArray] I (x.own b0 ot tk ct n L) (MP b0 ot tk ct x ((Ex.ite a b d).mk tk n) L) := by
 obtain ⟨oa, c, oaf, cf1, rfl, hf, hcl, hcs⟩ := h.cells
 have hle : HLe I I := .refl _
 have hh0 := hits_le 121 tk n
 have hpos : 0 < (Ex.ite a b d).tree.parts.length := by show 0 < 4; decide
 obtain ⟨xa, rfl⟩ : ∃ xa, oa = some xa := ⟨_, some_oad hf.nil hpos⟩
 have hlen : (Ex.ite a b d).tree.parts.length = 4 := rfl
 have hp0 : ((Ex.ite a b d).tree.pt 0).atom = tIf := rfl
 simp only [Ex.ite.sizeOf_spec] at hlt
 simp only [Ex.ok, Bool.and_eq_true, decide_eq_true_eq] at hok
 simp only [Ex.size] at hn hxl
 simp only [Ex.mk]
 unfold MS.own
 refine fun_intro (by simp) ?_
 refine Se rfl ?_
 refine o_box rfl rfl .free rfl ?_
 intro b3
 refine o_alloc .free rfl ?_
 intro b4
 refine o_done ?_
 refine s_seq ?_
 refine Se rfl ?_
 refine o_fieldAddr rfl .free rfl ?_
 refine o_lO1 rfl .free rfl ?_
 refine o_cmps rfl rfl rfl .free rfl ?_
 refine o_done ?_
 first | refine s_fp rfl (by simp [Ex.tree, Tree.atom]) ?_ | refine s_fn rfl (by simp [Ex.tree, Tree.atom]) ?_ | refine s_false (by simp [look, opd, *]) ?_
 refine s_skip ?_
 refine Se rfl ?_
 refine o_fieldAddr rfl .free rfl ?_
 refine o_lO1 rfl .free rfl ?_
 refine Oa rfl ?_
 refine o_done ?_
 refine Se rfl ?_
 refine o_lits0 .free rfl ?_
 intro b15
 refine Om rfl ?_
 refine o_append (B := some (b15, [])) (xs := []) (ys := cellsF oaf cf1 0 (Ex.ite a b d).tree.parts) (m := 0) (c := 0) (by intro kk; simp) (by rfl) rfl rfl ⟨rfl, Nat.le_refl _, rfl⟩ (fun _ h => h) (by have := hcl.length; omega) (fun a ha => by cases ha; exact (hcs _ rfl).reads) (by simp) hcl.plain hpos (by decide) (by omega) (by decide) .free rfl ?_
 intro bc sp cc hB'
 have hcc : (Ex.ite a b d).tree.parts.length ≤ cc := by have := hB'.2.1; omega
 refine o_put (t := 17) (v' := .slice (some ⟨bc, 0, none⟩) (Ex.ite a b d).tree.parts.length cc) rfl (by rw [Nat.zero_add]) ?_
 simp only [List.nil_append]
 simp only [show (Ex.ite a b d).tree.parts = [.node tIf [], a.tree, b.tree, d.tree] from rfl, cellsF, List.cons_append, List.nil_append]
 refine o_struct rfl rfl rfl .free rfl ?_
 refine o_alloc .free rfl ?_
 intro b6
 refine o_st rfl rfl rfl rfl .free ?_
 refine o_done ?_
 refine s_seq ?_
 refine Se rfl ?_
 refine Om rfl ?_
 first | refine o_ixD rfl rfl 0 rfl .free rfl ?_ | refine o_ixP rfl rfl 0 rfl .free rfl ?_
 refine o_fieldAddr' rfl .free rfl ?_
 refine o_lIF rfl .free rfl ?_
 refine o_done ?_
 refine s_block ?_
 refine Se rfl ?_
 refine o_cmps rfl rfl rfl .free rfl ?_
 refine Oa rfl ?_
 refine o_done ?_
 first | refine s_fp rfl (by rw [hp0]; decide) ?_ | refine s_fn rfl (by rw [hp0]; decide) ?_ | refine s_false (by simp [look, opd, *]) ?_
 refine Se rfl ?_
 refine o_cmps rfl rfl rfl .free rfl ?_
 refine Oa rfl ?_
 refine o_done ?_
 first | refine s_fp rfl (by rw [hp0]; decide) ?_ | refine s_fn rfl (by rw [hp0]; decide) ?_ | refine s_false (by simp [look, opd, *]) ?_
 refine Se rfl ?_
 refine o_cmps rfl rfl rfl .free rfl ?_
 refine Oa rfl ?_
 refine o_done ?_
 first | refine s_tp rfl (by rw [hp0]; rfl) ?_ | refine s_tn rfl (by rw [hp0]; rfl) ?_ | refine s_true (by simp [look, opd, *]) ?_
 refine s_seq ?_
 refine s_here fun hlr => ?_
 have g1 := a.mk_g tk n
 have mh1 := a.mk_hits tk n
 have gp1 := MK.pt_g tk _ g1.1 g1.2
 have mp1 := MK.pt_hits tk _ mh1
 have lp1 := MK.pt_len tk _ (a.mk_len tk n)
 have hz1 := hits_le 121 tk n
 refine d_x4 9 rfl rfl ?_
 refine Da 0 rfl (y_fieldAddr rfl) ?_
 refine Dt 1 [8] rfl (y_lO1 rfl) ?_
 refine Da 2 rfl (y_move rfl) ?_
 refine Da 3 rfl (y_move rfl) ?_
 first | refine Da 4 rfl (y_ixD rfl rfl 1 rfl) ?_ | refine Da 4 rfl (y_ixP rfl rfl 1 rfl) ?_
 refine Dt 5 [8] rfl (y_lIS rfl) ?_
 refine d_mem (fun w h => Mem.mv4 h) ?_
 refine d_call 6 rfl (by kernel_rfl) rfl rfl .free rfl (l5Plain_of ihn (by omega) (hf.as 1 a.tree (by omega) rfl) hok.1.1 htk b0 n (by omega) x hx (by omega) hxe _) ?_
 rintro _ J1 _ e1 ⟨cs1, y1, rfl, hr_1, hy1, hy1n, hy1s, rfl⟩
 obtain ⟨o1, k1, _, rfl, -⟩ := hr_1.open
 have hy1l : y1.ns.length = x.ns.length + ((a.mk tk n).pt tk).ns.length := by rw [hy1n]; simp
 have hy1e : y1.es.length = y1.ns.length := by rw [hy1s, hy1n]; simp [hxe]
 have hlr := hlr.trans e1
 have hf := hf.mono e1
 have htk := htk.mono e1
 have hle := hle.trans e1
 unfold MS.own
 refine ⟨(.inr heldx), ?_⟩
 refine d_mem (fun w h => Mem.vm4 h) ?_
 first | refine Da 7 rfl (y_ixD rfl rfl 1 rfl) ?_ | refine Da 7 rfl (y_ixP rfl rfl 1 rfl) ?_
 refine d_st 8 rfl (by kernel_rfl) rfl rfl rfl rfl rfl .free (.inl (by kernel_rfl)) ?_
 refine d_done (by kernel_rfl) ?_
 refine s_seq ?_
 obtain ⟨a1, k2', hu1⟩ := bufVal_len hy1.b1
 obtain ⟨a2, k3', hu2⟩ := bufVal_len hy1.b2
 rw [hu1, hu2]
 unfold mkr
 refine s_here fun hlr => ?_
 have g2 := b.mk_g tk ((a.mk tk n).pt tk).n
 have mh2 := b.mk_hits tk ((a.mk tk n).pt tk).n
 have hz2 := hits_le 121 tk ((a.mk tk n).pt tk).n
 refine s_mem (fun w h => h.f4) ?_
 refine d_tl 9 rfl rfl ?_
 refine Da 0 rfl (y_fieldAddr rfl) ?_
 refine Dt 1 [8] rfl (y_lO1 rfl) ?_
 refine Da 2 rfl (y_move rfl) ?_
 refine Da 3 rfl (y_move rfl) ?_
 first | refine Da 4 rfl (y_ixD rfl rfl 2 rfl) ?_ | refine Da 4 rfl (y_ixP rfl rfl 2 rfl) ?_
 refine Dt 5 [8] rfl (y_lIS rfl) ?_
 refine d_call 6 rfl (by kernel_rfl) rfl rfl .free rfl (l5Whole_of ihn (by omega) (hf.as 2 b.tree (by omega) rfl) hok.1.2 htk b0 ((a.mk tk n).pt tk).n (by omega) (by omega) _) ?_
 rintro _ J2 _ e2 ⟨cs2, rfl, hr_2, rfl⟩
 obtain ⟨o2, k2, _, rfl, -⟩ := hr_2.open
 have hlr := hlr.trans e2
 have hf := hf.mono e2
 have htk := htk.mono e2
 have hle := hle.trans e2
 have hr_1 := hr_1.mono e2
 unfold mkr
 refine ⟨(.inr heldx), ?_⟩
 first | refine Da 7 rfl (y_ixD rfl rfl 2 rfl) ?_ | refine Da 7 rfl (y_ixP rfl rfl 2 rfl) ?_
 refine d_st 8 rfl (by kernel_rfl) rfl rfl rfl rfl rfl .free (.inl (by kernel_rfl)) ?_
 refine d_done (by kernel_rfl) ?_
 refine s_seq ?_
 refine s_here fun hlr => ?_
 have g3 := d.mk_g tk (b.mk tk ((a.mk tk n).pt tk).n).n
 have mh3 := d.mk_hits tk (b.mk tk ((a.mk tk n).pt tk).n).n
 have hz3 := hits_le 121 tk (b.mk tk ((a.mk tk n).pt tk).n).n
 refine d_tl 9 rfl rfl ?_
 refine Da 0 rfl (y_fieldAddr rfl) ?_
 refine Dt 1 [8] rfl (y_lO1 rfl) ?_
 refine Da 2 rfl (y_move rfl) ?_
 refine Da 3 rfl (y_move rfl) ?_
 first | refine Da 4 rfl (y_ixD rfl rfl 3 rfl) ?_ | refine Da 4 rfl (y_ixP rfl rfl 3 rfl) ?_
 refine Dt 5 [8] rfl (y_lIS rfl) ?_
 refine d_call 6 rfl (by kernel_rfl) rfl rfl .free rfl (l5Whole_of ihn (by omega) (hf.as 3 d.tree (by omega) rfl) hok.2 htk b0 (b.mk tk ((a.mk tk n).pt tk).n).n (by omega) (by omega) _) ?_
 rintro _ J3 _ e3 ⟨cs3, rfl, hr_3, rfl⟩
 obtain ⟨o3, k3, _, rfl, -⟩ := hr_3.open
 have hlr := hlr.trans e3
 have hf := hf.mono e3
 have htk := htk.mono e3
 have hle := hle.trans e3
 have hr_1 := hr_1.mono e3
 have hr_2 := hr_2.mono e3
 unfold mkr
 refine ⟨(.inr heldx), ?_⟩
 first | refine Da 7 rfl (y_ixD rfl rfl 3 rfl) ?_ | refine Da 7 rfl (y_ixP rfl rfl 3 rfl) ?_
 refine d_st 8 rfl (by kernel_rfl) rfl rfl rfl rfl rfl .free (.inl (by kernel_rfl)) ?_
 refine d_done (by kernel_rfl) ?_
 refine Se rfl ?_
 refine o_lOS rfl .free rfl ?_
 refine o_st rfl rfl rfl rfl .free ?_
 refine o_done ?_
 refine s_mem (fun w h => h.f2) (s_freeze ?_)
 intro hz
 have hf := hf.mono hz
 refine s_ret (.c rfl .nil) ?_
 refine ⟨_, _, hle.trans hz, fun w h => Mem.sub (L' := (b0, _) :: (bufOwn 9 (y1.ns.map sv) y1.B1 ++ (bufOwn 27 y1.xs y1.B2 ++ L))) (by repeat (first | exact List.Sublist.refl _ | apply List.Sublist.cons_cons | apply List.Sublist.cons)) h, _, y1, rfl, .mk' rfl (.cons (hf.as 0 (.node tIf []) (by omega) rfl) (.cons (hr_1.mono hz) (.cons (hr_2.mono hz) (.cons (hr_3.mono hz) (.nil))))) (fun y hy => by cases hy; exact still_set (xs := [_, _, _, _, _, _, _, _])) (by simp) hcc (by simp [maxN]) (by simp [maxN]), hy1.mono ((e2.trans e3).trans hz), by simpa using hy1n, by simpa using hy1s, ?_⟩
 unfold MS.own mkr; rw [hu1, hu2]
set_option maxHeartbeats 1000000 in
theorem make_lt {N : Nat} (ihn : MakeH N) {z : Txt} {a b : Ex} {I : Heap} {cs : List Value} (hlt : SizeOf.sizeOf (Ex.lt z a b) < N + 1) (h : Rep I (Ex.lt z a b).tree cs) (hok : (Ex.lt z a b).ok = true) {ot : Option Addr} {tk : List Txt} {ct : Nat} (htk : Strs I ot tk ct) (b0 n : Nat) (hn : n + (Ex.lt z a b).size + tk.length ≤ 900 + hits 121 tk n) (x : MS) (hx : x.ok I) (hxl : x.ns.length + (Ex.lt z a b).size ≤ 100000) (hxe : x.es.length = x.ns.length) (L : Own) :
  Fun Tryz.prog 35 [.pointer (some ⟨b0, 0, none⟩), .agg cs.toArray] I (x.own b0 ot tk ct n L) (MP b0 ot tk ct x ((Ex.lt z a b).mk tk n) L) := by
 obtain ⟨oa, c, oaf, cf1, rfl, hf, hcl, hcs⟩ := h.cells
 have hle : HLe I I := .refl _
 have hh0 := hits_le 121 tk n
 have hpos : 0 < (Ex.lt z a b).tree.parts.length := by show 0 < 4; decide
 obtain ⟨xa, rfl⟩ : ∃ xa, oa = some xa := ⟨_, some_oad hf.nil hpos⟩
 have hlen : (Ex.lt z a b).tree.parts.length = 4 := rfl
 have hp0 : ((Ex.lt z a b).tree.pt 0).atom = tLet := rfl
 simp only [Ex.lt.sizeOf_spec] at hlt
 simp only [Ex.ok, Bool.and_eq_true, decide_eq_true_eq] at hok
 simp only [Ex.size] at hn hxl
 simp only [Ex.mk]
 unfold MS.own
 refine fun_intro (by simp) ?_
 refine Se rfl ?_
 refine o_box rfl rfl .free rfl ?_
 intro b3
 refine o_alloc .free rfl ?_
 intro b4
 refine o_done ?_
 refine s_seq ?_
 refine Se rfl ?_
 refine o_fieldAddr rfl .free rfl ?_
 refine o_lO1 rfl .free rfl ?_
 refine o_cmps rfl rfl rfl .free rfl ?_
 refine o_done ?_
 first | refine s_fp rfl (by simp [Ex.tree, Tree.atom]) ?_ | refine s_fn rfl (by simp [Ex.tree, Tree.atom]) ?_ | refine s_false (by simp [look, opd, *]) ?_
 refine s_skip ?_
 refine Se rfl ?_
 refine o_fieldAddr rfl .free rfl ?_
 refine o_lO1 rfl .free rfl ?_
 refine Oa rfl ?_
 refine o_done ?_
 refine Se rfl ?_
 refine o_lits0 .free rfl ?_
 intro b15
 refine Om rfl ?_
 refine o_append (B := some (b15, [])) (xs := []) (ys := cellsF oaf cf1 0 (Ex.lt z a b).tree.parts) (m := 0) (c := 0) (by intro kk; simp) (by rfl) rfl rfl ⟨rfl, Nat.le_refl _, rfl⟩ (fun _ h => h) (by have := hcl.length; omega) (fun a ha => by cases ha; exact (hcs _ rfl).reads) (by simp) hcl.plain hpos (by decide) (by omega) (by decide) .free rfl ?_
 intro bc sp cc hB'
 have hcc : (Ex.lt z a b).tree.parts.length ≤ cc := by have := hB'.2.1; omega
 refine o_put (t := 17) (v' := .slice (some ⟨bc, 0, none⟩) (Ex.lt z a b).tree.parts.length cc) rfl (by rw [Nat.zero_add]) ?_
 simp only [List.nil_append]
 simp only [show (Ex.lt z a b).tree.parts = [.node tLet [], .node z [], a.tree, b.tree] from rfl, cellsF, List.cons_append, List.nil_append]
 refine o_struct rfl rfl rfl .free rfl ?_
 refine o_alloc .free rfl ?_
 intro b6
 refine o_st rfl rfl rfl rfl .free ?_
 refine o_done ?_
 refine s_seq ?_
 refine Se rfl ?_
 refine Om rfl ?_
 first | refine o_ixD rfl rfl 0 rfl .free rfl ?_ | refine o_ixP rfl rfl 0 rfl .free rfl ?_
 refine o_fieldAddr' rfl .free rfl ?_
 refine o_lIF rfl .free rfl ?_
 refine o_done ?_
 refine s_block ?_
 refine Se rfl ?_
 refine o_cmps rfl rfl rfl .free rfl ?_
 refine Oa rfl ?_
 refine o_done ?_
 first | refine s_tp rfl (by rw [hp0]; rfl) ?_ | refine s_tn rfl (by rw [hp0]; rfl) ?_ | refine s_true (by simp [look, opd, *]) ?_
 refine s_seq ?_
 have g1 := a.mk_g tk n
 have mh1 := a.mk_hits tk n
 have ml1 := a.mk_len tk n
 have ml2 := b.mk_len tk (a.mk tk n).n
 have mo1 := Ex.mk_ok (tk := tk) (n := n) hok.1.2 (by omega)
 refine o_enter rfl ?_
 refine Om rfl ?_
 refine Om rfl ?_
 first | refine o_ixD rfl rfl 2 rfl .free rfl ?_ | refine o_ixP rfl rfl 2 rfl .free rfl ?_
 refine o_lIS rfl .free rfl ?_
 refine o_mem (fun w h => Mem.mv4 h) ?_
 refine o_call rfl .free rfl (ihn (by omega) (hf.as 2 a.tree (by omega) rfl) hok.1.2 htk b0 n (by omega) x hx (by omega) hxe _) ?_
 rintro _ J1 _ e1 ⟨cs1, y, rfl, hr, hy, hyn, hys, rfl⟩
 obtain ⟨o1, k1, _, rfl, -⟩ := hr.open
 have hyl : y.ns.length = x.ns.length + (a.mk tk n).ns.length := by rw [hyn]; simp
 have hyl2 : y.es.length = y.ns.length := by rw [hys, hyn]; simp [hxe]
 have hzl := Ex.name_len hok.1.1
 obtain ⟨a1, k2, hu1⟩ := bufVal_len hy.b1
 obtain ⟨a2, k3, hu2⟩ := bufVal_len hy.b2
 have hf := hf.mono e1
 have htk := htk.mono e1
 have hle := hle.trans e1
 unfold MS.own
 refine o_mem (fun w h => Mem.vm4 h) ?_
 rw [hu1, hu2]
 unfold mkr
 refine o_alloc .free rfl ?_
 intro b7
 refine o_st rfl rfl rfl rfl .free ?_
 refine o_done ?_
 refine s_seq ?_
 refine s_here fun hlr => ?_
 refine d_x6 14 rfl rfl ?_
 refine Da 0 rfl (y_move rfl) ?_
 refine Da 1 rfl (y_move rfl) ?_
 refine Da 2 rfl (y_nilCheck rfl) ?_
 first | refine Da 3 rfl (y_fieldAddr rfl) ?_ | refine Da 3 rfl (y_fieldAddr' rfl) ?_
 refine Dt 4 [13] rfl (y_lJ rfl) ?_
 refine Da 5 rfl (y_move rfl) ?_
 first | refine Da 6 rfl (y_ixD rfl rfl 1 rfl) ?_ | refine Da 6 rfl (y_ixP rfl rfl 1 rfl) ?_
 refine Da 7 rfl (y_fieldAddr' rfl) ?_
 refine Dt 8 [13] rfl (y_lIF rfl) ?_
 refine d_lits 9 rfl (by kernel_rfl) rfl rfl rfl (by rfl) (by rfl) (by rfl) (by decide) (by decide) (by rfl) .free rfl (.inr heldx) ?_
 intro b39
 refine d_appendB 10 (B := y.B1) (xs := y.ns.map sv) (ys := [sv z]) (m := y.ns.length) (c := y.c1) rfl (by kernel_rfl) rfl (by intro kk; simp) (by rfl) (by rw [hu1]; rfl) rfl hy.b1 (fun _ h => h.u7) (by rfl) (fun a ha => by cases ha; exact reads_ownL (.head _) (by rfl)) (by simp) (by rfl) (by decide) (by omega) (by decide) .free rfl (fun _ => .inr heldx) ?_
 intro B1 c2 hB1
 obtain ⟨bb, sb, rfl⟩ : ∃ bb sb, B1 = some (bb, sb) := by
  cases B1 with
  | none => exact absurd hB1.1 (by simp)
  | some z => exact ⟨z.1, z.2, rfl⟩
 simp only [bufOwn, List.cons_append, List.nil_append]
 refine Da 11 rfl (y_nilCheck rfl) ?_
 first | refine Da 12 rfl (y_fieldAddr rfl) ?_ | refine Da 12 rfl (y_fieldAddr' rfl) ?_
 refine d_st 13 rfl (by kernel_rfl) rfl rfl rfl rfl rfl .free (.inl (by kernel_rfl)) ?_ (hu := u7)
 refine d_done (by kernel_rfl) ?_
 refine s_seq ?_
 refine d_x2 13 rfl rfl ?_
 refine Da 0 rfl (y_move rfl) ?_
 refine Da 1 rfl (y_nilCheck rfl) ?_
 first | refine Da 2 rfl (y_fieldAddr rfl) ?_ | refine Da 2 rfl (y_fieldAddr' rfl) ?_
 refine Dt 4 [9] rfl (y_lOS rfl) ?_
 refine d_two 3 6 (by kernel_rfl) ?_ ?_
 ·skip
  refine i_yld 3 rfl rfl (y_load rfl (by first | exact loads_own1 (.tail _ m6) (by rfl) rfl | exact loads_own1 (.tail _ (.tail _ m6)) (by rfl) rfl)) .free rfl (.inr heldx) ?_
  refine Da 5 rfl (y_len_slice rfl) ?_
  refine d_lits 6 rfl (by kernel_rfl) rfl rfl rfl (by rfl) (by rfl) (by rfl) (by decide) (by decide) (by rfl) .free rfl (.inr heldx) ?_
  intro b49
  refine d_appendB 7 (B := y.B2) (xs := y.xs) (ys := [.string (str []), .slice none 0 0]) (m := y.es.length) (c := y.c2) rfl (by kernel_rfl) rfl (by intro kk; simp) (by rfl) (by rw [hu2]; rfl) rfl hy.b2 (fun _ h => h.u9) (by rfl) (fun a ha => by cases ha; exact reads_ownL (.head _) (by rfl)) (by simp) (by rfl) (by decide) (by omega) (by decide) .free rfl (fun _ => .inr heldx) ?_
  intro B2 c3 hB2
  obtain ⟨bq, sq, rfl⟩ : ∃ bq sq, B2 = some (bq, sq) := by
   cases B2 with
   | none => exact absurd hB2.1 (by simp)
   | some z => exact ⟨z.1, z.2, rfl⟩
  have hxl2 := hy.rep.length
  rw [List.length_map] at hxl2
  simp only [bufOwn, List.cons_append, List.nil_append, List.append_assoc]
  refine Da 8 rfl (y_indexAddr' rfl rfl _ rfl (by omega) rfl) ?_
  refine d_put (t := 51) rfl (congrArg (fun a => Value.pointer (some a)) (addr_own bq (y.es.length * 2))) ?_
  refine Da 10 rfl (y_nilCheck rfl) ?_
  first | refine Da 11 rfl (y_fieldAddr rfl) ?_ | refine Da 11 rfl (y_fieldAddr' rfl) ?_
  refine d_two 9 12 (by kernel_rfl) ?_ ?_
  ·skip
   refine i_st 9 rfl rfl rfl rfl rfl rfl .free (.inl (by kernel_rfl)) ?_ (hu := u0) (hus := putN_mid' (xs := y.xs) (zs := [_, _]) (sp := sq) (by omega) rfl)
   refine d_st 12 rfl (by kernel_rfl) rfl rfl rfl rfl rfl .free (.inr heldx) ?_ (hu := u9)
   refine d_done (by kernel_rfl) ?_
   refine s_seq ?_
   have hy2 : MS.ok J1 ⟨y.ns ++ [z], y.es ++ [(a.mk tk n).e], some (bb, sb), c2, y.xs ++ [.string (str (a.mk tk n).e.tree.atom), .slice o1 (a.mk tk n).e.tree.parts.length k1], some (bq, sq), c3⟩ := by
    refine ⟨by simpa using hB1, ⟨by have := hB2.1; simp at this ⊢; omega, by simpa using hB2.2.1, by simpa using hB2.2.2⟩, by simpa using hy.rep.append (.one hr), ?_⟩
    intro s hs
    rcases List.mem_append.1 hs with hs | hs
    ·exact hy.each s hs
    ·rw [List.mem_singleton.1 hs]; exact hzl
   refine o_enter rfl ?_
   refine Om rfl ?_
   refine Om rfl ?_
   first | refine o_ixD rfl rfl 3 rfl .free rfl ?_ | refine o_ixP rfl rfl 3 rfl .free rfl ?_
   refine o_lIS rfl .free rfl ?_
   refine o_mem (I' := J1) (L' := MS.own b0 ot tk ct (a.mk tk n).n ⟨y.ns ++ [z], y.es ++ [(a.mk tk n).e], some (bb, sb), c2, y.xs ++ [.string (str (a.mk tk n).e.tree.atom), .slice o1 (a.mk tk n).e.tree.parts.length k1], some (bq, sq), c3⟩ ((b4, .cells [.string (str []), .slice none 0 0].toArray 27 (0, 0)) :: L)) (fun w h => ?_) ?_
   ·have h2 := (Mem.sub (L' := (bq, _) :: (bb, _) :: (b4, _) :: (b0, _) :: L) (by repeat (first | exact List.Sublist.refl _ | apply List.Sublist.cons_cons | apply List.Sublist.cons)) h).f3.sw
    simpa only [MS.own, mkr, bufOwn, bufVal, List.map_append, List.map_cons, List.map_nil, List.append_assoc, List.length_append, List.length_cons, List.length_nil, List.cons_append, List.nil_append] using h2
   refine o_call rfl .free rfl (ihn (by omega) (hf.as 3 b.tree (by omega) rfl) hok.2 htk b0 (a.mk tk n).n (by omega) _ hy2 (by simp only [List.length_append, List.length_cons, List.length_nil]; omega) (by simp [hyl2]) _) ?_
   rintro _ J2 _ e2 ⟨cs2, y2, rfl, hr2, hy3, hyn2, hys2, rfl⟩
   obtain ⟨o2, k4, _, rfl, -⟩ := hr2.open
   have hle := hle.trans e2
   unfold MS.own
   refine o_mem (fun w h => Mem.vm1 h) ?_
   refine o_st rfl rfl rfl rfl .free ?_
   refine o_done ?_
   refine s_ret (.c rfl .nil) ?_
   refine ⟨J2, _, hle, fun w h => h.drop, _, y2, rfl, hr2, hy3, ?_, ?_, rfl⟩
   ·simp only [hyn2, hyn, List.map_append, List.map_cons, List.append_assoc, List.cons_append, List.nil_append]
   ·simp only [hys2, hys, List.map_append, List.map_cons, List.append_assoc, List.cons_append, List.nil_append]
  ·skip
   refine i_st 12 rfl rfl rfl rfl rfl rfl .free (.inr heldx) ?_ (hu := u9)
   refine d_st 9 rfl (by kernel_rfl) rfl rfl rfl rfl rfl .free (.inl (by kernel_rfl)) ?_ (hu := u0) (hus := putN_mid' (xs := y.xs) (zs := [_, _]) (sp := sq) (by omega) rfl)
   refine d_done (by kernel_rfl) ?_
   refine s_seq ?_
   have hy2 : MS.ok J1 ⟨y.ns ++ [z], y.es ++ [(a.mk tk n).e], some (bb, sb), c2, y.xs ++ [.string (str (a.mk tk n).e.tree.atom), .slice o1 (a.mk tk n).e.tree.parts.length k1], some (bq, sq), c3⟩ := by
    refine ⟨by simpa using hB1, ⟨by have := hB2.1; simp at this ⊢; omega, by simpa using hB2.2.1, by simpa using hB2.2.2⟩, by simpa using hy.rep.append (.one hr), ?_⟩
    intro s hs
    rcases List.mem_append.1 hs with hs | hs
    ·exact hy.each s hs
    ·rw [List.mem_singleton.1 hs]; exact hzl
   refine o_enter rfl ?_
   refine Om rfl ?_
   refine Om rfl ?_
   first | refine o_ixD rfl rfl 3 rfl .free rfl ?_ | refine o_ixP rfl rfl 3 rfl .free rfl ?_
   refine o_lIS rfl .free rfl ?_
   refine o_mem (I' := J1) (L' := MS.own b0 ot tk ct (a.mk tk n).n ⟨y.ns ++ [z], y.es ++ [(a.mk tk n).e], some (bb, sb), c2, y.xs ++ [.string (str (a.mk tk n).e.tree.atom), .slice o1 (a.mk tk n).e.tree.parts.length k1], some (bq, sq), c3⟩ ((b4, .cells [.string (str []), .slice none 0 0].toArray 27 (0, 0)) :: L)) (fun w h => ?_) ?_
   ·have h2 := (Mem.sub (L' := (bq, _) :: (bb, _) :: (b4, _) :: (b0, _) :: L) (by repeat (first | exact List.Sublist.refl _ | apply List.Sublist.cons_cons | apply List.Sublist.cons)) h).f3.sw
    simpa only [MS.own, mkr, bufOwn, bufVal, List.map_append, List.map_cons, List.map_nil, List.append_assoc, List.length_append, List.length_cons, List.length_nil, List.cons_append, List.nil_append] using h2
   refine o_call rfl .free rfl (ihn (by omega) (hf.as 3 b.tree (by omega) rfl) hok.2 htk b0 (a.mk tk n).n (by omega) _ hy2 (by simp only [List.length_append, List.length_cons, List.length_nil]; omega) (by simp [hyl2]) _) ?_
   rintro _ J2 _ e2 ⟨cs2, y2, rfl, hr2, hy3, hyn2, hys2, rfl⟩
   obtain ⟨o2, k4, _, rfl, -⟩ := hr2.open
   have hle := hle.trans e2
   unfold MS.own
   refine o_mem (fun w h => Mem.vm1 h) ?_
   refine o_st rfl rfl rfl rfl .free ?_
   refine o_done ?_
   refine s_ret (.c rfl .nil) ?_
   refine ⟨J2, _, hle, fun w h => h.drop, _, y2, rfl, hr2, hy3, ?_, ?_, rfl⟩
   ·simp only [hyn2, hyn, List.map_append, List.map_cons, List.append_assoc, List.cons_append, List.nil_append]
   ·simp only [hys2, hys, List.map_append, List.map_cons, List.append_assoc, List.cons_append, List.nil_append]
 ·skip
  refine i_lits 6 rfl rfl rfl rfl (by rfl) (by rfl) (by rfl) (by decide) (by decide) (by rfl) .free rfl (.inr heldx) ?_
  intro b49
  refine d_yld 3 rfl (by kernel_rfl) rfl (y_load rfl (by first | exact loads_own1 (.tail _ m6) (by rfl) rfl | exact loads_own1 (.tail _ (.tail _ m6)) (by rfl) rfl)) .free rfl (.inr heldx) ?_
  refine Da 5 rfl (y_len_slice rfl) ?_
  refine d_appendB 7 (B := y.B2) (xs := y.xs) (ys := [.string (str []), .slice none 0 0]) (m := y.es.length) (c := y.c2) rfl (by kernel_rfl) rfl (by intro kk; simp) (by rfl) (by rw [hu2]; rfl) rfl hy.b2 (fun _ h => h.u9) (by rfl) (fun a ha => by cases ha; exact reads_ownL (.head _) (by rfl)) (by simp) (by rfl) (by decide) (by omega) (by decide) .free rfl (fun _ => .inr heldx) ?_
  intro B2 c3 hB2
  obtain ⟨bq, sq, rfl⟩ : ∃ bq sq, B2 = some (bq, sq) := by
   cases B2 with
   | none => exact absurd hB2.1 (by simp)
   | some z => exact ⟨z.1, z.2, rfl⟩
  have hxl2 := hy.rep.length
  rw [List.length_map] at hxl2
  simp only [bufOwn, List.cons_append, List.nil_append, List.append_assoc]
  refine Da 8 rfl (y_indexAddr' rfl rfl _ rfl (by omega) rfl) ?_
  refine d_put (t := 51) rfl (congrArg (fun a => Value.pointer (some a)) (addr_own bq (y.es.length * 2))) ?_
  refine Da 10 rfl (y_nilCheck rfl) ?_
  first | refine Da 11 rfl (y_fieldAddr rfl) ?_ | refine Da 11 rfl (y_fieldAddr' rfl) ?_
  refine d_two 9 12 (by kernel_rfl) ?_ ?_
  ·skip
   refine i_st 9 rfl rfl rfl rfl rfl rfl .free (.inl (by kernel_rfl)) ?_ (hu := u0) (hus := putN_mid' (xs := y.xs) (zs := [_, _]) (sp := sq) (by omega) rfl)
   refine d_st 12 rfl (by kernel_rfl) rfl rfl rfl rfl rfl .free (.inr heldx) ?_ (hu := u9)
   refine d_done (by kernel_rfl) ?_
   refine s_seq ?_
   have hy2 : MS.ok J1 ⟨y.ns ++ [z], y.es ++ [(a.mk tk n).e], some (bb, sb), c2, y.xs ++ [.string (str (a.mk tk n).e.tree.atom), .slice o1 (a.mk tk n).e.tree.parts.length k1], some (bq, sq), c3⟩ := by
    refine ⟨by simpa using hB1, ⟨by have := hB2.1; simp at this ⊢; omega, by simpa using hB2.2.1, by simpa using hB2.2.2⟩, by simpa using hy.rep.append (.one hr), ?_⟩
    intro s hs
    rcases List.mem_append.1 hs with hs | hs
    ·exact hy.each s hs
    ·rw [List.mem_singleton.1 hs]; exact hzl
   refine o_enter rfl ?_
   refine Om rfl ?_
   refine Om rfl ?_
   first | refine o_ixD rfl rfl 3 rfl .free rfl ?_ | refine o_ixP rfl rfl 3 rfl .free rfl ?_
   refine o_lIS rfl .free rfl ?_
   refine o_mem (I' := J1) (L' := MS.own b0 ot tk ct (a.mk tk n).n ⟨y.ns ++ [z], y.es ++ [(a.mk tk n).e], some (bb, sb), c2, y.xs ++ [.string (str (a.mk tk n).e.tree.atom), .slice o1 (a.mk tk n).e.tree.parts.length k1], some (bq, sq), c3⟩ ((b4, .cells [.string (str []), .slice none 0 0].toArray 27 (0, 0)) :: L)) (fun w h => ?_) ?_
   ·have h2 := (Mem.sub (L' := (bq, _) :: (bb, _) :: (b4, _) :: (b0, _) :: L) (by repeat (first | exact List.Sublist.refl _ | apply List.Sublist.cons_cons | apply List.Sublist.cons)) h).f3.sw
    simpa only [MS.own, mkr, bufOwn, bufVal, List.map_append, List.map_cons, List.map_nil, List.append_assoc, List.length_append, List.length_cons, List.length_nil, List.cons_append, List.nil_append] using h2
   refine o_call rfl .free rfl (ihn (by omega) (hf.as 3 b.tree (by omega) rfl) hok.2 htk b0 (a.mk tk n).n (by omega) _ hy2 (by simp only [List.length_append, List.length_cons, List.length_nil]; omega) (by simp [hyl2]) _) ?_
   rintro _ J2 _ e2 ⟨cs2, y2, rfl, hr2, hy3, hyn2, hys2, rfl⟩
   obtain ⟨o2, k4, _, rfl, -⟩ := hr2.open
   have hle := hle.trans e2
   unfold MS.own
   refine o_mem (fun w h => Mem.vm1 h) ?_
   refine o_st rfl rfl rfl rfl .free ?_
   refine o_done ?_
   refine s_ret (.c rfl .nil) ?_
   refine ⟨J2, _, hle, fun w h => h.drop, _, y2, rfl, hr2, hy3, ?_, ?_, rfl⟩
   ·simp only [hyn2, hyn, List.map_append, List.map_cons, List.append_assoc, List.cons_append, List.nil_append]
   ·simp only [hys2, hys, List.map_append, List.map_cons, List.append_assoc, List.cons_append, List.nil_append]
  ·skip
   refine i_st 12 rfl rfl rfl rfl rfl rfl .free (.inr heldx) ?_ (hu := u9)
   refine d_st 9 rfl (by kernel_rfl) rfl rfl rfl rfl rfl .free (.inl (by kernel_rfl)) ?_ (hu := u0) (hus := putN_mid' (xs := y.xs) (zs := [_, _]) (sp := sq) (by omega) rfl)
   refine d_done (by kernel_rfl) ?_
   refine s_seq ?_
   have hy2 : MS.ok J1 ⟨y.ns ++ [z], y.es ++ [(a.mk tk n).e], some (bb, sb), c2, y.xs ++ [.string (str (a.mk tk n).e.tree.atom), .slice o1 (a.mk tk n).e.tree.parts.length k1], some (bq, sq), c3⟩ := by
    refine ⟨by simpa using hB1, ⟨by have := hB2.1; simp at this ⊢; omega, by simpa using hB2.2.1, by simpa using hB2.2.2⟩, by simpa using hy.rep.append (.one hr), ?_⟩
    intro s hs
    rcases List.mem_append.1 hs with hs | hs
    ·exact hy.each s hs
    ·rw [List.mem_singleton.1 hs]; exact hzl
   refine o_enter rfl ?_
   refine Om rfl ?_
   refine Om rfl ?_
   first | refine o_ixD rfl rfl 3 rfl .free rfl ?_ | refine o_ixP rfl rfl 3 rfl .free rfl ?_
   refine o_lIS rfl .free rfl ?_
   refine o_mem (I' := J1) (L' := MS.own b0 ot tk ct (a.mk tk n).n ⟨y.ns ++ [z], y.es ++ [(a.mk tk n).e], some (bb, sb), c2, y.xs ++ [.string (str (a.mk tk n).e.tree.atom), .slice o1 (a.mk tk n).e.tree.parts.length k1], some (bq, sq), c3⟩ ((b4, .cells [.string (str []), .slice none 0 0].toArray 27 (0, 0)) :: L)) (fun w h => ?_) ?_
   ·have h2 := (Mem.sub (L' := (bq, _) :: (bb, _) :: (b4, _) :: (b0, _) :: L) (by repeat (first | exact List.Sublist.refl _ | apply List.Sublist.cons_cons | apply List.Sublist.cons)) h).f3.sw
    simpa only [MS.own, mkr, bufOwn, bufVal, List.map_append, List.map_cons, List.map_nil, List.append_assoc, List.length_append, List.length_cons, List.length_nil, List.cons_append, List.nil_append] using h2
   refine o_call rfl .free rfl (ihn (by omega) (hf.as 3 b.tree (by omega) rfl) hok.2 htk b0 (a.mk tk n).n (by omega) _ hy2 (by simp only [List.length_append, List.length_cons, List.length_nil]; omega) (by simp [hyl2]) _) ?_
   rintro _ J2 _ e2 ⟨cs2, y2, rfl, hr2, hy3, hyn2, hys2, rfl⟩
   obtain ⟨o2, k4, _, rfl, -⟩ := hr2.open
   have hle := hle.trans e2
   unfold MS.own
   refine o_mem (fun w h => Mem.vm1 h) ?_
   refine o_st rfl rfl rfl rfl .free ?_
   refine o_done ?_
   refine s_ret (.c rfl .nil) ?_
   refine ⟨J2, _, hle, fun w h => h.drop, _, y2, rfl, hr2, hy3, ?_, ?_, rfl⟩
   ·simp only [hyn2, hyn, List.map_append, List.map_cons, List.append_assoc, List.cons_append, List.nil_append]
   ·simp only [hys2, hys, List.map_append, List.map_cons, List.append_assoc, List.cons_append, List.nil_append]
set_option maxHeartbeats 1000000 in
theorem make_fn {N : Nat} (ihn : MakeH N) {h1 z : Txt} {s u : Ty} {b : Ex} {I : Heap} {cs : List Value} (hlt : SizeOf.sizeOf (Ex.fn h1 z s u b) < N + 1) (h : Rep I (Ex.fn h1 z s u b).tree cs) (hok : (Ex.fn h1 z s u b).ok = true) {ot : Option Addr} {tk : List Txt} {ct : Nat} (htk : Strs I ot tk ct) (b0 n : Nat) (hn : n + (Ex.fn h1 z s u b).size + tk.length ≤ 900 + hits 121 tk n) (x : MS) (hx : x.ok I) (hxl : x.ns.length + (Ex.fn h1 z s u b).size ≤ 100000) (hxe : x.es.length = x.ns.length) (L : Own) :
  Fun Tryz.prog 35 [.pointer (some ⟨b0, 0, none⟩), .agg cs.toArray] I (x.own b0 ot tk ct n L) (MP b0 ot tk ct x ((Ex.fn h1 z s u b).mk tk n) L) := by
 obtain ⟨oa, c, oaf, cf1, rfl, hf, hcl, hcs⟩ := h.cells
 have hle : HLe I I := .refl _
 have hh0 := hits_le 121 tk n
 have hpos : 0 < (Ex.fn h1 z s u b).tree.parts.length := by show 0 < 6; decide
 obtain ⟨xa, rfl⟩ : ∃ xa, oa = some xa := ⟨_, some_oad hf.nil hpos⟩
 have hlen : (Ex.fn h1 z s u b).tree.parts.length = 6 := rfl
 have hp0 : ((Ex.fn h1 z s u b).tree.pt 0).atom = tFun := rfl
 simp only [Ex.fn.sizeOf_spec] at hlt
 simp only [Ex.ok, Bool.and_eq_true, decide_eq_true_eq] at hok
 simp only [Ex.size] at hn hxl
 simp only [Ex.mk]
 unfold MS.own
 refine fun_intro (by simp) ?_
 refine Se rfl ?_
 refine o_box rfl rfl .free rfl ?_
 intro b3
 refine o_alloc .free rfl ?_
 intro b4
 refine o_done ?_
 refine s_seq ?_
 refine Se rfl ?_
 refine o_fieldAddr rfl .free rfl ?_
 refine o_lO1 rfl .free rfl ?_
 refine o_cmps rfl rfl rfl .free rfl ?_
 refine o_done ?_
 first | refine s_fp rfl (by simp [Ex.tree, Tree.atom]) ?_ | refine s_fn rfl (by simp [Ex.tree, Tree.atom]) ?_ | refine s_false (by simp [look, opd, *]) ?_
 refine s_skip ?_
 refine Se rfl ?_
 refine o_fieldAddr rfl .free rfl ?_
 refine o_lO1 rfl .free rfl ?_
 refine Oa rfl ?_
 refine o_done ?_
 refine Se rfl ?_
 refine o_lits0 .free rfl ?_
 intro b15
 refine Om rfl ?_
 refine o_append (B := some (b15, [])) (xs := []) (ys := cellsF oaf cf1 0 (Ex.fn h1 z s u b).tree.parts) (m := 0) (c := 0) (by intro kk; simp) (by rfl) rfl rfl ⟨rfl, Nat.le_refl _, rfl⟩ (fun _ h => h) (by have := hcl.length; omega) (fun a ha => by cases ha; exact (hcs _ rfl).reads) (by simp) hcl.plain hpos (by decide) (by omega) (by decide) .free rfl ?_
 intro bc sp cc hB'
 have hcc : (Ex.fn h1 z s u b).tree.parts.length ≤ cc := by have := hB'.2.1; omega
 refine o_put (t := 17) (v' := .slice (some ⟨bc, 0, none⟩) (Ex.fn h1 z s u b).tree.parts.length cc) rfl (by rw [Nat.zero_add]) ?_
 simp only [List.nil_append]
 simp only [show (Ex.fn h1 z s u b).tree.parts = [.node tFun [], .node h1 [], .node z [], s.tree, u.tree, b.tree] from rfl, cellsF, List.cons_append, List.nil_append]
 refine o_struct rfl rfl rfl .free rfl ?_
 refine o_alloc .free rfl ?_
 intro b6
 refine o_st rfl rfl rfl rfl .free ?_
 refine o_done ?_
 refine s_seq ?_
 refine Se rfl ?_
 refine Om rfl ?_
 first | refine o_ixD rfl rfl 0 rfl .free rfl ?_ | refine o_ixP rfl rfl 0 rfl .free rfl ?_
 refine o_fieldAddr' rfl .free rfl ?_
 refine o_lIF rfl .free rfl ?_
 refine o_done ?_
 refine s_block ?_
 refine s_seq ?_
 obtain ⟨a1, k2, hu1⟩ := bufVal_len hx.b1
 obtain ⟨a2, k3, hu2⟩ := bufVal_len hx.b2
 rw [hu1, hu2]
 unfold mkr
 refine o_enter rfl ?_
 refine o_cmps rfl rfl rfl .free rfl ?_
 refine Oa rfl ?_
 refine o_done ?_
 first | refine s_fp rfl (by rw [hp0]; decide) ?_ | refine s_fn rfl (by rw [hp0]; decide) ?_ | refine s_false (by simp [look, opd, *]) ?_
 refine Se rfl ?_
 refine o_cmps rfl rfl rfl .free rfl ?_
 refine Oa rfl ?_
 refine o_done ?_
 first | refine s_tp rfl (by rw [hp0]; rfl) ?_ | refine s_tn rfl (by rw [hp0]; rfl) ?_ | refine s_true (by simp [look, opd, *]) ?_
 refine s_seq ?_
 refine s_here fun hlr => ?_
 have g1 := b.mk_g tk n
 have mh1 := b.mk_hits tk n
 have hz1 := hits_le 121 tk n
 refine s_mem (fun w h => h.f4) ?_
 refine d_tl 9 rfl rfl ?_
 refine Da 0 rfl (y_fieldAddr rfl) ?_
 refine Dt 1 [8] rfl (y_lO1 rfl) ?_
 refine Da 2 rfl (y_move rfl) ?_
 refine Da 3 rfl (y_move rfl) ?_
 first | refine Da 4 rfl (y_ixD rfl rfl 5 rfl) ?_ | refine Da 4 rfl (y_ixP rfl rfl 5 rfl) ?_
 refine Dt 5 [8] rfl (y_lIS rfl) ?_
 refine d_call 6 rfl (by kernel_rfl) rfl rfl .free rfl (l5Whole_of ihn (by omega) (hf.as 5 b.tree (by omega) rfl) hok.2 htk b0 n (by omega) (by omega) _) ?_
 rintro _ J1 _ e1 ⟨cs1, rfl, hr_1, rfl⟩
 obtain ⟨o1, k1, _, rfl, -⟩ := hr_1.open
 have hlr := hlr.trans e1
 have hf := hf.mono e1
 have htk := htk.mono e1
 have hle := hle.trans e1
 unfold mkr
 refine ⟨(.inr heldx), ?_⟩
 first | refine Da 7 rfl (y_ixD rfl rfl 5 rfl) ?_ | refine Da 7 rfl (y_ixP rfl rfl 5 rfl) ?_
 refine d_st 8 rfl (by kernel_rfl) rfl rfl rfl rfl rfl .free (.inl (by kernel_rfl)) ?_
 refine d_done (by kernel_rfl) ?_
 refine Se rfl ?_
 refine o_lOS rfl .free rfl ?_
 refine o_st rfl rfl rfl rfl .free ?_
 refine o_done ?_
 refine s_mem (fun w h => h.f2) (s_freeze ?_)
 intro hz
 have hf := hf.mono hz
 refine s_ret (.c rfl .nil) ?_
 refine ⟨_, _, hle.trans hz, fun w h => Mem.sub (L' := (b0, _) :: (bufOwn 9 (x.ns.map sv) x.B1 ++ (bufOwn 27 x.xs x.B2 ++ L))) (by repeat (first | exact List.Sublist.refl _ | apply List.Sublist.cons_cons | apply List.Sublist.cons)) h, _, x, rfl, .mk' rfl (.cons (hf.as 0 (.node tFun []) (by omega) rfl) (.cons (hf.as 1 (.node h1 []) (by omega) rfl) (.cons (hf.as 2 (.node z []) (by omega) rfl) (.cons (hf.as 3 s.tree (by omega) rfl) (.cons (hf.as 4 u.tree (by omega) rfl) (.cons (hr_1.mono hz) (.nil))))))) (fun y hy => by cases hy; exact still_set (xs := [_, _, _, _, _, _, _, _, _, _, _, _])) (by simp) hcc (by simp [maxN]) (by simp [maxN]), hx.mono (hle.trans hz), by simp, by simp, ?_⟩
 unfold MS.own mkr; rw [hu1, hu2]
set_option maxHeartbeats 1000000 in
theorem make_un {N : Nat} (ihn : MakeH N) {o : U2} {a : Ex} {I : Heap} {cs : List Value} (hlt : SizeOf.sizeOf (Ex.un o a) < N + 1) (h : Rep I (Ex.un o a).tree cs) (hok : (Ex.un o a).ok = true) {ot : Option Addr} {tk : List Txt} {ct : Nat} (htk : Strs I ot tk ct) (b0 n : Nat) (hn : n + (Ex.un o a).size + tk.length ≤ 900 + hits 121 tk n) (x : MS) (hx : x.ok I) (hxl : x.ns.length + (Ex.un o a).size ≤ 100000) (hxe : x.es.length = x.ns.length) (L : Own) :
  Fun Tryz.prog 35 [.pointer (some ⟨b0, 0, none⟩), .agg cs.toArray] I (x.own b0 ot tk ct n L) (MP b0 ot tk ct x ((Ex.un o a).mk tk n) L) := by
 obtain ⟨oa, c, oaf, cf1, rfl, hf, hcl, hcs⟩ := h.cells
 have hle : HLe I I := .refl _
 have hh0 := hits_le 121 tk n
 have hpos : 0 < (Ex.un o a).tree.parts.length := by show 0 < 2; decide
 obtain ⟨xa, rfl⟩ : ∃ xa, oa = some xa := ⟨_, some_oad hf.nil hpos⟩
 have hlen : (Ex.un o a).tree.parts.length = 2 := rfl
 have hp0 : ((Ex.un o a).tree.pt 0).atom = o.txt := rfl
 simp only [Ex.un.sizeOf_spec] at hlt
 have hok : a.ok = true := hok
 simp only [Ex.size] at hn hxl
 simp only [Ex.mk]
 unfold MS.own
 refine fun_intro (by simp) ?_
 refine Se rfl ?_
 refine o_box rfl rfl .free rfl ?_
 intro b3
 refine o_alloc .free rfl ?_
 intro b4
 refine o_done ?_
 refine s_seq ?_
 refine Se rfl ?_
 refine o_fieldAddr rfl .free rfl ?_
 refine o_lO1 rfl .free rfl ?_
 refine o_cmps rfl rfl rfl .free rfl ?_
 refine o_done ?_
 first | refine s_fp rfl (by simp [Ex.tree, Tree.atom]) ?_ | refine s_fn rfl (by simp [Ex.tree, Tree.atom]) ?_ | refine s_false (by simp [look, opd, *]) ?_
 refine s_skip ?_
 refine Se rfl ?_
 refine o_fieldAddr rfl .free rfl ?_
 refine o_lO1 rfl .free rfl ?_
 refine Oa rfl ?_
 refine o_done ?_
 refine Se rfl ?_
 refine o_lits0 .free rfl ?_
 intro b15
 refine Om rfl ?_
 refine o_append (B := some (b15, [])) (xs := []) (ys := cellsF oaf cf1 0 (Ex.un o a).tree.parts) (m := 0) (c := 0) (by intro kk; simp) (by rfl) rfl rfl ⟨rfl, Nat.le_refl _, rfl⟩ (fun _ h => h) (by have := hcl.length; omega) (fun a ha => by cases ha; exact (hcs _ rfl).reads) (by simp) hcl.plain hpos (by decide) (by omega) (by decide) .free rfl ?_
 intro bc sp cc hB'
 have hcc : (Ex.un o a).tree.parts.length ≤ cc := by have := hB'.2.1; omega
 refine o_put (t := 17) (v' := .slice (some ⟨bc, 0, none⟩) (Ex.un o a).tree.parts.length cc) rfl (by rw [Nat.zero_add]) ?_
 simp only [List.nil_append]
 simp only [show (Ex.un o a).tree.parts = [.node o.txt [], a.tree] from rfl, cellsF, List.cons_append, List.nil_append]
 refine o_struct rfl rfl rfl .free rfl ?_
 refine o_alloc .free rfl ?_
 intro b6
 refine o_st rfl rfl rfl rfl .free ?_
 refine o_done ?_
 refine s_seq ?_
 refine Se rfl ?_
 refine Om rfl ?_
 first | refine o_ixD rfl rfl 0 rfl .free rfl ?_ | refine o_ixP rfl rfl 0 rfl .free rfl ?_
 refine o_fieldAddr' rfl .free rfl ?_
 refine o_lIF rfl .free rfl ?_
 refine o_done ?_
 refine s_block ?_
 refine Se rfl ?_
 refine o_cmps rfl rfl rfl .free rfl ?_
 refine Oa rfl ?_
 refine o_done ?_
 first | refine s_fp rfl (by rw [hp0]; cases o <;> decide) ?_ | refine s_fn rfl (by rw [hp0]; cases o <;> decide) ?_ | refine s_false (by simp [look, opd, *]) ?_
 refine Se rfl ?_
 refine o_cmps rfl rfl rfl .free rfl ?_
 refine Oa rfl ?_
 refine o_done ?_
 first | refine s_fp rfl (by rw [hp0]; cases o <;> decide) ?_ | refine s_fn rfl (by rw [hp0]; cases o <;> decide) ?_ | refine s_false (by simp [look, opd, *]) ?_
 refine Se rfl ?_
 refine o_cmps rfl rfl rfl .free rfl ?_
 refine Oa rfl ?_
 refine o_done ?_
 first | refine s_fp rfl (by rw [hp0]; cases o <;> decide) ?_ | refine s_fn rfl (by rw [hp0]; cases o <;> decide) ?_ | refine s_false (by simp [look, opd, *]) ?_
 refine s_skip ?_
 refine s_inBlock ?_
 refine s_seq ?_
 refine Se rfl ?_
 refine Oa rfl ?_
 refine o_done ?_
 refine s_block ?_
 refine s_loop ?_
 refine s_seq ?_
 refine Se rfl ?_
 refine Om rfl ?_
 refine Om rfl ?_
 refine o_len_slice rfl .free rfl ?_
 refine o_cmp rfl rfl rfl .free rfl ?_
 refine o_done ?_
 refine s_condT rfl (by first | rfl | decide | (simp; done) | omega) ?_
 refine s_skip ?_
 refine s_seq ?_
 refine s_block ?_
 refine s_here fun hlr => ?_
 have g1 := a.mk_g tk n
 have mh1 := a.mk_hits tk n
 have gp1 := MK.pt_g tk _ g1.1 g1.2
 have mp1 := MK.pt_hits tk _ mh1
 have lp1 := MK.pt_len tk _ (a.mk_len tk n)
 have hz1 := hits_le 121 tk n
 refine d_x4 11 rfl rfl ?_
 refine Da 0 rfl (y_fieldAddr rfl) ?_
 refine Dt 1 [10] rfl (y_lO1 rfl) ?_
 refine Da 2 rfl (y_move rfl) ?_
 refine Da 3 rfl (y_move rfl) ?_
 refine Da 4 rfl (y_move rfl) ?_
 refine Da 5 rfl (y_move rfl) ?_
 first | refine Da 6 rfl (y_ixD rfl rfl _ rfl) ?_ | refine Da 6 rfl (y_ixP rfl rfl _ rfl) ?_
 refine Dt 7 [10] rfl (y_lIS rfl) ?_
 refine d_mem (fun w h => Mem.mv4 h) ?_
 refine d_call 8 rfl (by kernel_rfl) rfl rfl .free rfl (l5Plain_of ihn (by omega) (hf.as 1 a.tree (by omega) rfl) hok htk b0 n (by omega) x hx (by omega) hxe _) ?_
 rintro _ J1 _ e1 ⟨cs1, y1, rfl, hr_1, hy1, hy1n, hy1s, rfl⟩
 obtain ⟨o1, k1, _, rfl, -⟩ := hr_1.open
 have hy1l : y1.ns.length = x.ns.length + ((a.mk tk n).pt tk).ns.length := by rw [hy1n]; simp
 have hy1e : y1.es.length = y1.ns.length := by rw [hy1s, hy1n]; simp [hxe]
 have hlr := hlr.trans e1
 have hf := hf.mono e1
 have htk := htk.mono e1
 have hle := hle.trans e1
 unfold MS.own
 refine ⟨(.inr heldx), ?_⟩
 refine d_mem (fun w h => Mem.vm4 h) ?_
 first | refine Da 9 rfl (y_ixD rfl rfl _ rfl) ?_ | refine Da 9 rfl (y_ixP rfl rfl _ rfl) ?_
 refine d_st 10 rfl (by kernel_rfl) rfl rfl rfl rfl rfl .free (.inl (by kernel_rfl)) ?_
 refine d_done (by kernel_rfl) ?_
 refine s_inBlock ?_
 refine o_enter rfl ?_
 refine Om rfl ?_
 refine o_arith rfl rfl rfl (by omega) .free rfl ?_
 refine Oa rfl ?_
 refine o_done ?_
 refine s_round ?_
 refine s_seq ?_
 refine Se rfl ?_
 refine Om rfl ?_
 refine Om rfl ?_
 refine o_len_slice rfl .free rfl ?_
 refine o_cmp rfl rfl rfl .free rfl ?_
 refine o_done ?_
 refine s_condF rfl (by first | rfl | decide | (simp; done) | omega) ?_
 refine s_exit rfl ?_
 refine Se rfl ?_
 refine o_lOS rfl .free rfl ?_
 refine o_st rfl rfl rfl rfl .free ?_
 refine o_done ?_
 refine s_mem (fun w h => h.f1) (s_freeze ?_)
 intro hz
 have hf := hf.mono hz
 refine s_ret (.c rfl .nil) ?_
 refine ⟨_, _, hle.trans hz, fun w h => h.drop.drop.drop, _, y1, rfl, .mk' rfl (.cons (hf.as 0 (.node o.txt []) (by omega) rfl) (.cons (hr_1.mono hz) (.nil))) (fun y hy => by cases hy; exact still_set (xs := [_, _, _, _])) (by simp) hcc (by simp [maxN]) (by simp [maxN]), hy1.mono hz, by simpa using hy1n, by simpa using hy1s, ?_⟩
 rfl
theorem make_atom {e : Ex} {I : Heap} {cs : List Value} (hb : e.bare = true) (h : Rep I e.tree cs) (hok : e.ok = true) {ot : Option Addr} {tk : List Txt} {ct : Nat} (b0 n : Nat) (x : MS) (hx : x.ok I) (L : Own) :
  Fun Tryz.prog 35 [.pointer (some ⟨b0, 0, none⟩), .agg cs.toArray] I (x.own b0 ot tk ct n L) (MP b0 ot tk ct x (e.mk tk n) L) := by
 obtain ⟨oa, c, oaf, cf1, rfl, hf⟩ := h.at'
 have hm : e.mk tk n = ⟨e, [], n, 0⟩ := by cases e <;> first | rfl | cases hb
 rw [hm]
 unfold MS.own
 refine fun_intro (by simp) ?_
 refine Se rfl ?_
 refine o_box rfl rfl .free rfl ?_
 intro b3
 refine o_alloc .free rfl ?_
 intro b4
 refine o_done ?_
 refine s_seq ?_
 refine Se rfl ?_
 refine o_fieldAddr rfl .free rfl ?_
 refine o_lO1 rfl .free rfl ?_
 refine o_cmps rfl rfl rfl .free rfl ?_
 refine o_done ?_
 first | refine s_tp rfl (by exact fun h2 => by have h3 := (Ex.atom_iff hok).1 h2; rw [hb] at h3; cases h3) ?_ | refine s_tn rfl (by exact fun h2 => by have h3 := (Ex.atom_iff hok).1 h2; rw [hb] at h3; cases h3) ?_ | refine s_true (by simp [look, opd, *]) ?_
 refine Se rfl ?_
 refine o_lOS rfl .free rfl ?_
 refine o_st rfl rfl rfl rfl .free ?_
 refine o_done ?_
 refine s_ret (.c rfl .nil) ?_
 exact ⟨I, _, .refl _, fun w h => h.drop.drop, _, x, rfl, hf.rep, hx, by simp, by simp, rfl⟩
theorem make_all : ∀ N : Nat, MakeH N := by
 intro N
 induction N with
 | zero => intro I e cs h; omega
 | succ N ihn =>
  intro I e cs hlt h hok ot tk ct htk b0 n hn x hx hxl hxe L
  cases hb : e.bare with
  | true => exact make_atom hb h hok b0 n x hx L
  | false =>
   cases e with
   | num s => cases hb
   | name s => cases hb
   | bin o a b => exact make_bin ihn hlt h hok htk b0 n hn x hx hxl hxe L
   | ite a b d => exact make_ite ihn hlt h hok htk b0 n hn x hx hxl hxe L
   | lt z a b => exact make_lt ihn hlt h hok htk b0 n hn x hx hxl hxe L
   | fn h1 z s u b => exact make_fn ihn hlt h hok htk b0 n hn x hx hxl hxe L
   | un o a => exact make_un ihn hlt h hok htk b0 n hn x hx hxl hxe L
end Go.Proofs.YtdgpnibnogdllaaGreatDoor


/- Atoms of forms and forms put for them, by the reference. No conditions. -/
namespace Go.Proofs.YtdgpnibnogdllaaGreatDoor
set_option maxRecDepth 100000
set_option linter.unusedVariables false
set_option linter.unusedSimpArgs false

/-- What a loop over the parts has gathered. -/
structure GA where
 i : Nat
 l : List Txt
 B : Buf
 c : Nat
theorem g_l1Atoms : ∀ (n : Nat) {I : Heap} {t : Tree} {cs : List Value} (_ : SizeOf.sizeOf t < n) (_ : Rep I t cs) (_ : t.good = true) (l : List Txt) (B : Buf) (c : Nat) (_ : l.length + t.size ≤ 4294967295) (_ : BufOk 1 l.length c (l.map sv) B) (L : Own),
  Fun Tryz.prog 17 [.agg cs.toArray, bufVal l.length c B] I (bufOwn 9 (l.map sv) B ++ L) (fun v I' L' => I = I' ∧ LP (addAll l t.atomL) L v I' L') := by
 intro n
 induction n with
 | zero => intro I t cs h; omega
 | succ n ihn =>
  intro I t cs hlt h hg l B c hl hB L
  obtain ⟨oa, cc, oaf, cf, rfl, hf⟩ := h.at'
  have ha := hf.alen
  have hnil := hf.nil
  have hp := hf.len
  unfold maxN at hp
  have hs1 := t.size_one
  have hlN : l.length ≤ maxN := by unfold maxN; omega
  refine fun_intro (by simp) ?_
  refine Se rfl ?_
  refine o_box rfl rfl .free rfl ?_
  intro b2
  refine Oa rfl ?_
  refine o_done ?_
  refine s_seq ?_
  refine Se rfl ?_
  refine o_fieldAddr rfl .free rfl ?_
  refine o_lO1 rfl .free rfl ?_
  refine o_cmps rfl rfl rfl .free rfl ?_
  refine o_done ?_
  refine s_cond rfl ?_ ?_
  ·intro c0
   try simp only [nb] at c0
   have hat := atomL_atom t (good_nil hg c0)
   refine s_seq ?_
   refine Se rfl ?_
   refine Om rfl ?_
   refine o_fieldAddr rfl .free rfl ?_
   refine o_lO1 rfl .free rfl ?_
   refine o_call rfl .free rfl (has_buf hB hlN _ _ _ _) ?_
   rintro _ _ _ _ ⟨rfl, rfl, rfl⟩
   refine o_done ?_
   refine s_cond rfl ?_ ?_
   ·intro c1
    try simp only [nb] at c1
    refine Se rfl ?_
    refine Om rfl ?_
    refine Oa rfl ?_
    refine o_done ?_
    refine s_ret (.tmp rfl .nil) ?_
    have hoc : addAll l t.atomL = l := by rw [hat]; exact addAll_in c1
    exact ⟨I, _, .refl _, fun w h => h.drop, rfl, B, c, by rw [hoc]; rfl, by rw [hoc]; exact hB, by rw [hoc]⟩
   intro c1
   try simp only [nb] at c1
   refine s_skip ?_
   refine Se rfl ?_
   refine Om rfl ?_
   refine o_fieldAddr rfl .free rfl ?_
   refine o_lO1 rfl .free rfl ?_
   refine o_lits rfl rfl (by rfl) (by rfl) (by rfl) (by decide) (by decide) (by rfl) .free rfl ?_
   intro b17
   refine o_append (B := B) (xs := l.map sv) (ys := [sv t.atom]) (m := l.length) (c := c) (by intro kk; simp) (by rfl) rfl rfl hB (fun _ h => h.u2) (by rfl) (fun a ha => by cases ha; exact reads_ownL (.head _) (by rfl)) (by simp) (by rfl) (by decide) (by decide) (by omega) (by decide) .free rfl ?_
   intro bb sp c2 hB'
   refine Oa rfl ?_
   refine o_done ?_
   refine s_ret (.tmp rfl .nil) ?_
   have hoc : addAll l t.atomL = l ++ [t.atom] := by rw [hat]; exact addAll_one c1
   exact ⟨I, _, .refl _, fun w h => Mem.sub (L' := (bb, _) :: L) (by repeat (first | exact List.Sublist.refl _ | apply List.Sublist.cons_cons | apply List.Sublist.cons)) h, rfl, some (bb, sp), c2, by rw [hoc]; simp [retOne, bufVal], by rw [hoc]; simpa using hB', by rw [hoc]; simp [bufOwn]⟩
  intro c0
  try simp only [nb] at c0
  have hne := good_ne hg (by simpa using c0)
  have hat := atomsL_eq t hne.1
  have hsz : t.size = sizeL t.parts := by
   cases t with
   | node a ps => cases ps with
    | nil => exact absurd rfl hne.1
    | cons p ps => rfl
  refine s_skip ?_
  refine s_seq ?_
  refine Se rfl ?_
  refine Oa rfl ?_
  refine o_done ?_
  refine s_block ?_
  refine s_while (X := GA) (fun x => t.parts.length - x.i) (fun x => [(1, bufVal x.l.length x.c x.B), (2, .pointer (some ⟨b2, 0, none⟩)), (4, .slice none 0 0), (5, .int .i64 (x.i : Nat))]) (fun _ => I) (fun x => (b2, .cells [.string (str t.atom), .slice oa t.parts.length cc].toArray 27 (0, 0)) :: (bufOwn 9 (x.l.map sv) x.B ++ L)) (fun x => x.i ≤ t.parts.length ∧ x.l = addAll l (atomsL (t.parts.take x.i)) ∧ BufOk 1 x.l.length x.c (x.l.map sv) x.B) ⟨0, l, B, c⟩ ⟨Nat.zero_le _, rfl, hB⟩ ⟨rfl, rfl, rfl, rfl, trivial⟩ (by intro _ h; exact h) ?_
  rintro ⟨i, l1, B1, c1⟩ ⟨hi, hl1, hB1⟩ ih
  simp only at hi hl1 hB1 ih ⊢
  have hll := addAll_len l (atomsL (t.parts.take i))
  rw [← hl1, atomsL_len] at hll
  refine s_seq ?_
  refine Se rfl ?_
  refine Om rfl ?_
  refine o_fieldAddr rfl .free rfl ?_
  refine o_lO1 rfl .free rfl ?_
  refine o_len_slice rfl .free rfl ?_
  refine o_cmp rfl rfl rfl .free rfl ?_
  refine o_done ?_
  refine s_cond rfl ?_ ?_
  ·intro c2
   try simp only [nb] at c2
   have hi1 : i < t.parts.length := by omega
   have hsl : sizeL (t.parts.take i) + (t.pt i).size ≤ sizeL t.parts := by
    rw [Tree.pt_at hi1]
    have h1 := sizeL_append (t.parts.take i) (t.parts.drop i)
    rw [List.take_append_drop, List.drop_eq_getElem_cons hi1] at h1
    simp only [sizeL] at h1; omega
   have hpg := Tree.pt_good hg i hi1
   refine s_skip ?_
   refine s_seq ?_
   refine s_block ?_
   refine o_enter rfl ?_
   refine o_fieldAddr rfl .free rfl ?_
   refine o_lO1 rfl .free rfl ?_
   refine Om rfl ?_
   first | refine o_ixD rfl rfl _ rfl .free rfl ?_ | refine o_ixP rfl rfl _ rfl .free rfl ?_
   refine o_lIS rfl .free rfl ?_
   refine Om rfl ?_
   refine o_mem (fun w h => h.u1) ?_
   refine o_call rfl .free rfl (ihn (t := t.pt i) (by have := t.pt_lt i hi1; omega) (hf.rp i hi1) hpg l1 B1 c1 (by omega) hB1 _) ?_
   rintro _ _ _ _ ⟨rfl, B2, c2, rfl, hB2, rfl⟩
   refine o_mem (fun w h => h.w1) ?_
   refine Oa rfl ?_
   refine o_done ?_
   refine s_inBlock ?_
   refine o_enter rfl ?_
   refine Om rfl ?_
   refine o_arith rfl rfl rfl (by omega) .free rfl ?_
   refine Oa rfl ?_
   refine o_done ?_
   exact s_env (E' := [(1, bufVal (addAll l1 (t.pt i).atomL).length c2 B2), (2, .pointer (some ⟨b2, 0, none⟩)), (4, .slice none 0 0), (5, .int .i64 ((i + 1 : Nat)))]) ⟨rfl, rfl, rfl, rfl, trivial⟩ (ih ⟨i + 1, addAll l1 (t.pt i).atomL, B2, c2⟩ ⟨by simp only; omega, by simp only; rw [hl1, ← addAll_append, atomsL_take _ _ hi1, Tree.pt_at hi1], hB2⟩ (by simp only; omega))
  intro c2
  try simp only [nb] at c2
  refine s_exit rfl ?_
  refine Se rfl ?_
  refine Om rfl ?_
  refine Oa rfl ?_
  refine o_done ?_
  refine s_ret (.tmp rfl .nil) ?_
  have hl2 : l1 = addAll l t.atomL := by
   rw [hl1, hat, show i = t.parts.length by omega, List.take_length]
  subst hl2
  exact ⟨I, _, .refl _, fun w h => h.drop, rfl, B1, c1, rfl, hB1, rfl⟩
/-- A form that a loop has made, in part. -/
structure GP where
 J : Heap
 i : Nat
 xs : List Value
 B : Buf
 c : Nat
end Go.Proofs.YtdgpnibnogdllaaGreatDoor


/- 'NormalOf', by the reference. No conditions. -/
namespace Go.Proofs.YtdgpnibnogdllaaGreatDoor
set_option maxRecDepth 100000
set_option linter.unusedVariables false
set_option linter.unusedSimpArgs false

theorem g_l5Of {I : Heap} {e : Ex} {cs : List Value} (h : Rep I e.tree cs) (hfine : e.fine = true) (L : Own) : Fun Tryz.prog 7 [.agg cs.toArray] I L (fun v I' L' => ∃ ds, v = .tuple #[.agg (List.toArray ds), .bool (decide (e.made.n ≤ 100))] ∧ Rep I' e.normal.tree ds ∧ L = L') := by
 obtain ⟨oa, c, oaf, cf, rfl, hf⟩ := h.at'
 have hpf := plain_fine hfine
 have hpf2 := hpf
 simp only [Ex.fine, Bool.and_eq_true, decide_eq_true_eq, Tree.fits] at hpf2
 have hroom := made_room hfine
 have hpg := Ex.tree_good hpf2.1.1
 have hpz := hpf2.1.2
 have hpsz : e.plain.tree.size ≤ 120 := by rw [Ex.tree_size]; exact hpf2.1.2
 refine fun_intro (by simp) ?_
 refine Se rfl ?_
 refine o_box rfl rfl .free rfl ?_
 intro b1
 refine o_alloc .free rfl ?_
 intro b2
 refine Oa rfl ?_
 refine o_done ?_
 refine Se rfl ?_
 refine o_lOS rfl .free rfl ?_
 refine o_call rfl .free rfl (g_l2Plainly hf.rep hfine _) ?_
 rintro _ J1 _ e1 ⟨ds, rfl, hr, rfl⟩
 obtain ⟨o1, k1, _, rfl, -⟩ := hr.open
 refine Om rfl ?_
 refine o_extract rfl rfl .free rfl ?_
 refine o_extract rfl rfl .free rfl ?_
 refine o_alloc .free rfl ?_
 intro b4
 refine o_st rfl rfl rfl rfl .free ?_
 refine Oa rfl ?_
 refine o_done ?_
 refine s_seq ?_
 refine Se rfl ?_
 refine Om rfl ?_
 refine o_not rfl .free rfl ?_
 refine o_done ?_
 first | refine s_fp rfl (by simp) ?_ | refine s_fn rfl (by simp) ?_ | refine s_false (by simp [look, opd, *]) ?_
 refine s_skip ?_
 refine Se rfl ?_
 refine o_lOS rfl .free rfl ?_
 refine o_lits0 .free rfl ?_
 intro b17
 refine o_mem (L' := bufOwn 9 (([] : List Txt).map sv) (some (b17, [])) ++ _) (fun w h => h) ?_
 refine o_call rfl .free rfl (g_l1Atoms _ (Nat.lt_succ_self _) hr hpg.1 [] (some (b17, [])) 0 (by simp; omega) ⟨rfl, Nat.le_refl _, rfl⟩ _) ?_
 rintro _ _ _ _ ⟨rfl, B2, c2, rfl, hB2, rfl⟩
 have htl : e.tk.length ≤ 120 := hroom.2.2
 refine o_freezeStrs hB2 rfl (by show e.tk.length ≤ maxN; unfold maxN; omega) (tk_strs hfine) ?_
 intro J2 oz cz ez hbv hst
 refine o_put (t := 18) rfl hbv ?_
 have hst : Strs J2 oz e.tk cz := hst
 have hr := hr.mono ez
 have hle := e1.trans ez
 refine o_lits0 .free rfl ?_
 intro b19
 refine o_lits0 .free rfl ?_
 intro b20
 refine o_struct rfl rfl rfl .free rfl ?_
 refine o_box rfl rfl .free rfl ?_
 intro b22
 refine Oa rfl ?_
 refine o_done ?_
 refine Se rfl ?_
 refine Om rfl ?_
 refine o_lOS rfl .free rfl ?_
 refine o_mem (L' := mkr b22 oz e.tk cz 0 (.slice (some ⟨b19, 0, none⟩) 0 0) (.slice (some ⟨b20, 0, none⟩) 0 0) :: _) (fun w h => h) ?_
 refine o_call rfl .free rfl (l5Whole_of (make_all _) (Nat.lt_succ_self _) hr hpf2.1.1 hst b22 0 (by omega) (by omega) _) ?_
 rintro _ J3 _ e3 ⟨cs3, rfl, hr3, rfl⟩
 have hr3 : Rep J3 e.normal.tree cs3 := hr3
 obtain ⟨o3, k3, _, rfl, -⟩ := hr3.open
 unfold mkr
 have hle := hle.trans e3
 refine o_alloc .free rfl ?_
 intro b7
 refine o_st rfl rfl rfl rfl .free ?_
 refine o_done ?_
 refine s_seq ?_
 refine d_all 8 rfl rfl ?_
 refine Dt 0 [6] rfl (y_lOS rfl) ?_
 refine Da 1 rfl (y_move rfl) ?_
 refine Da 2 rfl (y_nilCheck rfl) ?_
 first | refine Da 3 rfl (y_fieldAddr rfl) ?_ | refine Da 3 rfl (y_fieldAddr' rfl) ?_
 refine d_two 4 6 (by kernel_rfl) ?_ ?_
 ·skip
  refine i_yld 4 rfl rfl (y_lJ rfl) .free rfl (.inr heldx) ?_
  refine Da 5 rfl (y_cmp rfl rfl rfl) ?_
  refine d_st 6 rfl (by kernel_rfl) rfl rfl rfl rfl rfl .free (.inl (by kernel_rfl)) ?_
  refine d_takeA 7 rfl (by kernel_rfl) rfl (.inl (by kernel_rfl)) (y_assign rfl) .free rfl ?_
  refine d_done (by kernel_rfl) ?_
  refine s_ret (.c rfl (.tmp rfl .nil)) ?_
  exact ⟨J3, L, hle, drops, _, by simp [retOne, Ex.made]; exact decide_eq_decide.2 (by omega), hr3, rfl⟩
 ·skip
  refine i_st 6 rfl rfl rfl rfl rfl rfl .free (.inl (by kernel_rfl)) ?_
  refine d_yld 4 rfl (by kernel_rfl) rfl (y_lJ rfl) .free rfl (.inl (by kernel_rfl)) ?_
  refine d_takeA 5 rfl (by kernel_rfl) rfl (.inl (by kernel_rfl)) (y_cmp rfl rfl rfl) .free rfl ?_
  refine d_takeA 7 rfl (by kernel_rfl) rfl (.inl (by kernel_rfl)) (y_assign rfl) .free rfl ?_
  refine d_done (by kernel_rfl) ?_
  refine s_ret (.c rfl (.tmp rfl .nil)) ?_
  exact ⟨J3, L, hle, drops, _, by simp [retOne, Ex.made]; exact decide_eq_decide.2 (by omega), hr3, rfl⟩
theorem g_NormalOf (s : Txt) (hs : s.length ≤ maxL) (I : Heap) (L : Own) : Fun Tryz.prog 4 [.string (str s)] I L (EL (nfOf s) L) := by
 refine fun_intro (by simp) ?_
 refine Se rfl ?_
 refine Oa rfl ?_
 refine Oa rfl ?_
 refine o_done ?_
 refine Se rfl ?_
 refine Om rfl ?_
 refine o_call rfl .free rfl (g_l2Parse' s hs _ _) ?_
 rintro _ J _ hleJ ⟨t, cs, ok, rfl, hrep, rfl, hpf⟩
 obtain ⟨oc, cc, _, rfl, -⟩ := hrep.open
 refine Om rfl ?_
 refine o_extract rfl rfl .free rfl ?_
 refine o_extract rfl rfl .free rfl ?_
 refine o_alloc .free rfl ?_
 intro b4
 refine o_st rfl rfl rfl rfl .free ?_
 refine Oa rfl ?_
 refine o_done ?_
 refine s_seq ?_
 refine Se rfl ?_
 refine Om rfl ?_
 refine o_not rfl .free rfl ?_
 refine o_done ?_
 refine s_cond rfl ?_ ?_
 ·intro c0
  try simp only [nb] at c0
  refine Se rfl ?_
  refine Oa rfl ?_
  refine Oa rfl ?_
  refine o_done ?_
  refine s_ret (.tmp rfl (.tmp rfl .nil)) ?_
  exact ⟨J, L, hleJ, drops, by rw [nfOf_none (RX_none hpf c0)]; rfl, rfl⟩
 intro c0
 try simp only [nb] at c0
 obtain ⟨e, he, rfl, hok, hlen, hfine, htxt⟩ := RX_some hpf c0
 have hnf := nfOf_some he
 have hnok := normal_ok hfine
 have hnl := normal_len hfine
 have hnn := normal_next hfine
 have hx := exOf_text hnok
 have hfi : (exOf e.normal.tree.text).isSome = e.normal.fine := by rw [hx]; cases e.normal.fine <;> rfl
 refine s_skip ?_
 refine Se rfl ?_
 refine o_lOS rfl .free rfl ?_
 refine o_call rfl .free rfl (g_l5Of hrep hfine _) ?_
 rintro _ J2 _ e2 ⟨ds, rfl, hr, rfl⟩
 obtain ⟨od, cd, _, rfl, -⟩ := hr.open
 have hle := hleJ.trans e2
 refine Om rfl ?_
 refine o_extract rfl rfl .free rfl ?_
 refine o_extract rfl rfl .free rfl ?_
 refine o_alloc .free rfl ?_
 intro b6
 refine o_st rfl rfl rfl rfl .free ?_
 refine Oa rfl ?_
 refine o_done ?_
 refine s_seq ?_
 refine Se rfl ?_
 refine Om rfl ?_
 refine o_not rfl .free rfl ?_
 refine Om rfl ?_
 apply o_or 22 27 rfl
 ·intro g5_3 hk
  try simp only [nb] at g5_3
  refine o_lOS rfl (.met rfl rfl) rfl ?_
  refine o_call rfl (.met rfl rfl) rfl (g_l1Text _ (Nat.lt_succ_self _) hr (Ex.tree_good hnok).1 (by omega) _) ?_
  rintro _ _ _ _ ⟨rfl, rfl, rfl⟩
  refine o_call rfl (.met rfl rfl) rfl (g_ExprValid' _ (by rw [Tree.text_len]; unfold maxL; omega) _ _) ?_
  rintro _ _ _ _ ⟨rfl, rfl, rfl⟩
  refine o_not rfl (.met rfl rfl) rfl ?_
  refine o_pick_false rfl rfl .free rfl ?_
  exact o_fin 4 rfl rfl hk
 ·intro _ hk
  refine o_skips 4 rfl ?_
  refine o_pick_true rfl rfl .free rfl ?_
  exact o_fin 4 rfl rfl hk
 refine o_done ?_
 refine s_cond rfl ?_ ?_
 ·intro c1
  try simp only [nb] at c1
  refine Se rfl ?_
  refine Oa rfl ?_
  refine Oa rfl ?_
  refine o_done ?_
  refine s_ret (.tmp rfl (.tmp rfl .nil)) ?_
  refine ⟨J2, L, hle, drops, ?_, rfl⟩
  rw [hfi] at c1
  have hn : e.normal.fine = false := by
   cases hn : e.normal.fine with
   | false => rfl
   | true =>
    have := (hnn hn).2
    rw [hn] at c1
    simp at c1; omega
  rw [hnf, if_neg (by rw [hn]; simp)]; rfl
 intro c1
 try simp only [nb] at c1
 refine s_skip ?_
 refine Se rfl ?_
 refine o_lOS rfl .free rfl ?_
 refine o_call rfl .free rfl (g_l1Text _ (Nat.lt_succ_self _) hr (Ex.tree_good hnok).1 (by omega) _) ?_
 rintro _ _ _ _ ⟨rfl, rfl, rfl⟩
 refine Oa rfl ?_
 refine Oa rfl ?_
 refine o_done ?_
 refine s_ret (.tmp rfl (.tmp rfl .nil)) ?_
 refine ⟨J2, L, hle, drops, ?_, rfl⟩
 rw [hfi] at c1
 rw [hnf, if_pos (by simpa using c1.2)]; rfl
end Go.Proofs.YtdgpnibnogdllaaGreatDoor


/- The shelf's law on numbers, laid at this program in plain words by the kit's lay-plain.mjs. No conditions. -/
namespace Go.Proofs.YtdgpnibnogdllaaGreatDoor
open Go.Shelf
def laysM171_ren : Go.Shelf.Ren := ⟨fun | 171 => 85 | 243 => 91 | 246 => 93 | 283 => 94 | 284 => 95 | 285 => 96 | 286 => 97 | 129 => 99 | 317 => 98 | 318 => 100 | 319 => 101 | 320 => 102 | 337 => 103 | 338 => 104 | n => n, fun | 3 => 3 | 9 => 9 | 2 => 2 | 4 => 4 | 171 => 118 | 0 => 0 | 53 => 119 | 37 => 56 | 5 => 5 | 173 => 122 | 212 => 126 | 51 => 127 | 20 => 20 | 213 => 128 | 46 => 130 | 232 => 133 | 233 => 134 | n => n, fun | 17 => 0 | 18 => 1 | 19 => 2 | n => n⟩
theorem laysM171 : Go.Proofs.LaysM.n171 Tryz.prog laysM171_ren := {
 mixed := by kernel_rfl
 f129 := Tryz.func99.trans (congrArg some (by kernel_rfl))
 f171 := Tryz.func85.trans (congrArg some (by kernel_rfl))
 f243 := Tryz.func91.trans (congrArg some (by kernel_rfl))
 f246 := Tryz.func93.trans (congrArg some (by kernel_rfl))
 f283 := Tryz.func94.trans (congrArg some (by kernel_rfl))
 f284 := Tryz.func95.trans (congrArg some (by kernel_rfl))
 f285 := Tryz.func96.trans (congrArg some (by kernel_rfl))
 f286 := Tryz.func97.trans (congrArg some (by kernel_rfl))
 f317 := Tryz.func98.trans (congrArg some (by kernel_rfl))
 f318 := Tryz.func100.trans (congrArg some (by kernel_rfl))
 f319 := Tryz.func101.trans (congrArg some (by kernel_rfl))
 f320 := Tryz.func102.trans (congrArg some (by kernel_rfl))
 f337 := Tryz.func103.trans (congrArg some (by kernel_rfl))
 f338 := Tryz.func104.trans (congrArg some (by kernel_rfl))
 t0 := Tryz.underlying0
 a0 := Tryz.isAgg0
 z0 := Tryz.sizeOf0
 v0 := Tryz.zeroValue0
 t2 := Tryz.underlying2
 a2 := Tryz.isAgg2
 z2 := Tryz.sizeOf2
 v2 := Tryz.zeroValue2
 t3 := Tryz.underlying3
 a3 := Tryz.isAgg3
 z3 := Tryz.sizeOf3
 v3 := Tryz.zeroValue3
 t4 := Tryz.underlying4
 a4 := Tryz.isAgg4
 z4 := Tryz.sizeOf4
 v4 := Tryz.zeroValue4
 t5 := Tryz.underlying5
 a5 := Tryz.isAgg5
 z5 := Tryz.sizeOf5
 v5 := Tryz.zeroValue5
 t9 := Tryz.underlying9
 a9 := Tryz.isAgg9
 z9 := Tryz.sizeOf9
 v9 := Tryz.zeroValue9
 t20 := Tryz.underlying20
 a20 := Tryz.isAgg20
 z20 := Tryz.sizeOf20
 v20 := Tryz.zeroValue20
 t37 := Tryz.underlying56
 a37 := Tryz.isAgg56
 z37 := Tryz.sizeOf56
 v37 := Tryz.zeroValue56
 t46 := Tryz.underlying130
 a46 := Tryz.isAgg130
 z46 := Tryz.sizeOf130
 v46 := Tryz.zeroValue130
 t51 := Tryz.underlying127
 a51 := Tryz.isAgg127
 z51 := Tryz.sizeOf127
 v51 := Tryz.zeroValue127
 t53 := Tryz.underlying119
 a53 := Tryz.isAgg119
 z53 := Tryz.sizeOf119
 v53 := Tryz.zeroValue119
 t171 := Tryz.underlying118
 a171 := Tryz.isAgg118
 z171 := Tryz.sizeOf118
 v171 := Tryz.zeroValue118
 t173 := Tryz.underlying122
 a173 := Tryz.isAgg122
 z173 := Tryz.sizeOf122
 v173 := Tryz.zeroValue122
 t212 := Tryz.underlying126
 a212 := Tryz.isAgg126
 z212 := Tryz.sizeOf126
 v212 := Tryz.zeroValue126
 t213 := Tryz.underlying128
 a213 := Tryz.isAgg128
 z213 := Tryz.sizeOf128
 t232 := Tryz.underlying133
 a232 := Tryz.isAgg133
 z232 := Tryz.sizeOf133
 v232 := Tryz.zeroValue133
 t233 := Tryz.underlying134
 a233 := Tryz.isAgg134
 z233 := Tryz.sizeOf134
 v233 := Tryz.zeroValue134
 g17 := by kernel_rfl
 g18 := by kernel_rfl
 g19 := by kernel_rfl
 i0 := by kernel_rfl
 i2 := by kernel_rfl
 i3 := by kernel_rfl
 i4 := by kernel_rfl
 i5 := by kernel_rfl
 i9 := by kernel_rfl
 i20 := by kernel_rfl
 i37 := by kernel_rfl
 i46 := by kernel_rfl
 i51 := by kernel_rfl
 i53 := by kernel_rfl
 i171 := by kernel_rfl
 i173 := by kernel_rfl
 i212 := by kernel_rfl
 i232 := by kernel_rfl
 i233 := by kernel_rfl
 m17 := by kernel_rfl
 m18 := by kernel_rfl
 m19 := by kernel_rfl }
end Go.Proofs.YtdgpnibnogdllaaGreatDoor


/- The shelf's law on numbers, laid at this program in plain words by the kit's lay-plain.mjs. No conditions. -/
namespace Go.Proofs.YtdgpnibnogdllaaGreatDoor
open Go.Shelf
def lays171_ren : Go.Shelf.Ren := ⟨fun | 171 => 85 | 243 => 91 | 246 => 93 | 283 => 94 | 284 => 95 | 285 => 96 | 286 => 97 | 129 => 99 | 317 => 98 | 318 => 100 | 319 => 101 | 320 => 102 | 337 => 103 | 338 => 104 | n => n, fun | 3 => 3 | 9 => 9 | 2 => 2 | 4 => 4 | 171 => 118 | 0 => 0 | 53 => 119 | 37 => 56 | 5 => 5 | 173 => 122 | 212 => 126 | 51 => 127 | 20 => 20 | 213 => 128 | 46 => 130 | 232 => 133 | 233 => 134 | n => n, fun | 17 => 0 | 18 => 1 | 19 => 2 | n => n⟩
theorem lays171 : Go.Proofs.Lays.n171 Tryz.prog lays171_ren := {
 mixed := by kernel_rfl
 f129 := Tryz.func99.trans (congrArg some (by kernel_rfl))
 f171 := Tryz.func85.trans (congrArg some (by kernel_rfl))
 f243 := Tryz.func91.trans (congrArg some (by kernel_rfl))
 f246 := Tryz.func93.trans (congrArg some (by kernel_rfl))
 f283 := Tryz.func94.trans (congrArg some (by kernel_rfl))
 f284 := Tryz.func95.trans (congrArg some (by kernel_rfl))
 f285 := Tryz.func96.trans (congrArg some (by kernel_rfl))
 f286 := Tryz.func97.trans (congrArg some (by kernel_rfl))
 f317 := Tryz.func98.trans (congrArg some (by kernel_rfl))
 f318 := Tryz.func100.trans (congrArg some (by kernel_rfl))
 f319 := Tryz.func101.trans (congrArg some (by kernel_rfl))
 f320 := Tryz.func102.trans (congrArg some (by kernel_rfl))
 f337 := Tryz.func103.trans (congrArg some (by kernel_rfl))
 f338 := Tryz.func104.trans (congrArg some (by kernel_rfl))
 t0 := Tryz.underlying0
 a0 := Tryz.isAgg0
 z0 := Tryz.sizeOf0
 v0 := Tryz.zeroValue0
 t2 := Tryz.underlying2
 a2 := Tryz.isAgg2
 z2 := Tryz.sizeOf2
 v2 := Tryz.zeroValue2
 t3 := Tryz.underlying3
 a3 := Tryz.isAgg3
 z3 := Tryz.sizeOf3
 v3 := Tryz.zeroValue3
 t4 := Tryz.underlying4
 a4 := Tryz.isAgg4
 z4 := Tryz.sizeOf4
 v4 := Tryz.zeroValue4
 t5 := Tryz.underlying5
 a5 := Tryz.isAgg5
 z5 := Tryz.sizeOf5
 v5 := Tryz.zeroValue5
 t9 := Tryz.underlying9
 a9 := Tryz.isAgg9
 z9 := Tryz.sizeOf9
 v9 := Tryz.zeroValue9
 t20 := Tryz.underlying20
 a20 := Tryz.isAgg20
 z20 := Tryz.sizeOf20
 v20 := Tryz.zeroValue20
 t37 := Tryz.underlying56
 a37 := Tryz.isAgg56
 z37 := Tryz.sizeOf56
 v37 := Tryz.zeroValue56
 t46 := Tryz.underlying130
 a46 := Tryz.isAgg130
 z46 := Tryz.sizeOf130
 v46 := Tryz.zeroValue130
 t51 := Tryz.underlying127
 a51 := Tryz.isAgg127
 z51 := Tryz.sizeOf127
 v51 := Tryz.zeroValue127
 t53 := Tryz.underlying119
 a53 := Tryz.isAgg119
 z53 := Tryz.sizeOf119
 v53 := Tryz.zeroValue119
 t171 := Tryz.underlying118
 a171 := Tryz.isAgg118
 z171 := Tryz.sizeOf118
 v171 := Tryz.zeroValue118
 t173 := Tryz.underlying122
 a173 := Tryz.isAgg122
 z173 := Tryz.sizeOf122
 v173 := Tryz.zeroValue122
 t212 := Tryz.underlying126
 a212 := Tryz.isAgg126
 z212 := Tryz.sizeOf126
 v212 := Tryz.zeroValue126
 t213 := Tryz.underlying128
 a213 := Tryz.isAgg128
 z213 := Tryz.sizeOf128
 t232 := Tryz.underlying133
 a232 := Tryz.isAgg133
 z232 := Tryz.sizeOf133
 v232 := Tryz.zeroValue133
 t233 := Tryz.underlying134
 a233 := Tryz.isAgg134
 z233 := Tryz.sizeOf134
 v233 := Tryz.zeroValue134
 g17 := by kernel_rfl
 g18 := by kernel_rfl
 g19 := by kernel_rfl }
end Go.Proofs.YtdgpnibnogdllaaGreatDoor


/- Small numbers in decimals, by the library. No conditions. -/
namespace Go.Proofs.YtdgpnibnogdllaaGreatDoor
set_option maxRecDepth 100000
set_option linter.unusedVariables false
set_option linter.unusedSimpArgs false

theorem dec_small : ∀ i : Nat, i < 100 → Lib.decDigits i = decT i := by decide +kernel
theorem f_strconv_Itoa (i : Nat) (hi : i < 100) (I : Heap) (L : Own) : Fun Tryz.prog 85 [.int .i64 (i : Nat)] I L (Only (.string (str (decT i))) I L) := by
 refine ⟨fun w hm => (Any.strconv_Itoa_small lays171 i hi w).mono ?_⟩
 rintro e w' ⟨rfl, rfl⟩
 refine ⟨_, I, L, rfl, .refl _, hm, ?_⟩
 rw [dec_small i hi]
 exact ⟨rfl, rfl, rfl⟩
end Go.Proofs.YtdgpnibnogdllaaGreatDoor


/- Numbers in decimals, by the library, where its table stands. No conditions. -/
namespace Go.Proofs.YtdgpnibnogdllaaGreatDoor
set_option maxRecDepth 100000
set_option linter.unusedVariables false
set_option linter.unusedSimpArgs false

/-- The library's table of powers of ten stands as the program's text lays it. -/
def Tab (I : Heap) : Prop := ∀ L w, Mem I L w → Lib.TabIs Tryz.prog w "internal/strconv.uint64pow10" .u64 Lib.pow10Tab
theorem Tab.mono {I I' : Heap} (h : Tab I) (hle : HLe I I') : Tab I' := fun L w hm => h L w (hm.le hle)
theorem dec_all (n : Nat) : Lib.decDigits n = decT n := by
 induction n using Nat.strongRecOn with
 | _ n ih =>
  rw [Lib.decDigits]
  by_cases h : n < 10
  ·rw [dif_pos h, decT_small h]
  ·rw [dif_neg h, decT_big h, ih (n / 10) (by omega)]
/-- A number in decimals. -/
def intT (n : Int) : Txt := if n < 0 then 45 :: decT n.natAbs else decT n.toNat
theorem itoa_intT (n : Int) : Lib.itoa n = intT n := by unfold Lib.itoa intT; rw [dec_all, dec_all]
theorem Mem.grow {I : Heap} {L : Own} {w : World} (h : Mem I L w) (k : Nat) (os : Array Obj) : Mem I L (Sort.grow (w.drewN k) os) := by
 have hk : ∀ b o, w.heap[b]? = some o → (w.heap ++ os)[b]? = some o := fun b o hb => by
  have hlt : b < w.heap.size := by
   rcases Nat.lt_or_ge b w.heap.size with g | g
   ·exact g
   ·rw [Array.getElem?_eq_none g] at hb; cases hb
  rw [Array.getElem?_append_left hlt]; exact hb
 exact ⟨⟨fun b o hb => hk b o (h.1.1 b o hb), h.1.2⟩, fun p hp => ⟨hk _ _ (h.2.1 p hp).1, (h.2.1 p hp).2⟩, h.2.2⟩
theorem f_strconv_ItoaT {I : Heap} (ht : Tab I) (n : Int) (h0 : -9223372036854775808 ≤ n) (h1 : n ≤ 9223372036854775807) (L : Own) : Fun Tryz.prog 85 [.int .i64 n] I L (Only (.string (str (intT n))) I L) := by
 refine ⟨fun w hm => (Any.strconv_Itoa laysM171 n h0 h1 w (ht L w hm)).mono ?_⟩
 rintro e w' ⟨rfl, k, os, rfl⟩
 refine ⟨_, I, L, rfl, .refl _, hm.grow k os, ?_⟩
 rw [itoa_intT]
 exact ⟨rfl, rfl, rfl⟩
end Go.Proofs.YtdgpnibnogdllaaGreatDoor


/- Maps whose keys are texts. -/
namespace Go.Proofs.YtdgpnibnogdllaaGreatDoor
set_option maxRecDepth 100000
set_option linter.unusedVariables false
set_option linter.unusedSimpArgs false

/-- The entries of a map that has met these texts, in this order. -/
def ents : List Txt → Nat → List MapEntry
 | [], _ => []
 | s :: l, i => ⟨.string (str s), .bool true, i⟩ :: ents l (i + 1)
def metObj (l : List Txt) : Obj := .map (ents l 0).toArray l.length
theorem ents_push (s : Txt) : ∀ (l : List Txt) (i : Nat), ents (l ++ [s]) i = ents l i ++ [⟨.string (str s), .bool true, i + l.length⟩]
 | [], i => rfl
 | x :: l, i => by simp only [List.cons_append, ents, ents_push s l (i + 1), List.length_cons]; rw [show i + 1 + l.length = i + (l.length + 1) by omega]
theorem same_str (s x : Txt) : Instr.sameNow .string (.string (str s)) (.string (str x)) = some (decide (s = x)) := by
 simp only [Instr.sameNow, Option.some.injEq]
 show (s.toArray == x.toArray) = _
 rw [Bool.eq_iff_iff, beq_iff_eq, decide_eq_true_eq]
 constructor
 ·intro h; simpa using congrArg Array.toList h
 ·intro h; rw [h]
theorem find_in (s : Txt) : ∀ (l : List Txt) (i j : Nat), s ∈ l → ∃ k, Instr.findNow .string (.string (str s)) (ents l i) j = some (some (k, .bool true))
 | [], i, j, h => by cases h
 | x :: l, i, j, h => by
  simp only [ents, Instr.findNow, same_str]
  by_cases e : s = x
  ·simp [e]
  ·simp only [e, decide_false]
   rcases List.mem_cons.1 h with h | h
   ·exact absurd h e
   ·exact find_in s l (i + 1) (j + 1) h
theorem find_out (s : Txt) : ∀ (l : List Txt) (i j : Nat), s ∉ l → Instr.findNow .string (.string (str s)) (ents l i) j = some none
 | [], i, j, h => rfl
 | x :: l, i, j, h => by
  simp only [ents, Instr.findNow, same_str]
  have e : s ≠ x := fun e => h (e ▸ .head _)
  simp only [e, decide_false]
  exact find_out s l (i + 1) (j + 1) fun hh => h (.tail _ hh)
section
variable {P : Program} {f : FuncId} {n : Nat} {I₀ : Heap} {Q : Post} {k : List Item} {E : Env} {I : Heap} {L : Own} {ops : Array Oper} {d : Nat} {ty : TypeId} {pos : String} {af : Array Edge} {g : Option (Nat × Bool)} {l : List Oper}
theorem run_getObj {w : World} {r c : Nat} {es : Array MapEntry} (h : w.heap[r]? = some (.map es c)) : (getObj r).run P w = .ok (.map es c) w := by simp [getObj, Sem.run, h]
theorem run_setObj {w : World} {r c : Nat} {es : Array MapEntry} {o' : Obj} (h : w.heap[r]? = some (.map es c)) : (setObj r o').run P w = .ok () { w with heap := w.heap.setIfInBounds r o' } := by simp [setObj, Sem.run, h]
theorem run_checkKey {T : TypeId} {sz bb : Nat} {z : List Value} (ht : TyIs P T .string sz bb z) (e : Bool) (s : Txt) (w : World) : (Instr.checkKey e 10000 T (.string (str s))).run P w = .ok () w := by
 rw [show (10000 : Nat) = 9999 + 1 from rfl]
 unfold Instr.checkKey
 rw [run_bind_ok (run_underlying ht.und w)]
 rfl
theorem run_findKey {T : TypeId} {sz bb : Nat} {z : List Value} (ht : TyIs P T .string sz bb z) {v : Value} {es : List MapEntry} {r : Option (Nat × Value)} (h : Instr.findNow .string v es 0 = some r) (w : World) : (Instr.findKey T v es).run P w = .ok r w := by
 unfold Instr.findKey
 rw [run_bind_ok (run_underlying ht.und w), h]
 rfl
theorem o_makeMap {T K V : TypeId} {sz bb : Nat} {z : List Value} [ht : TyIs P T (.map K V) sz bb z] (hg : Wants ops E g) (hdn : Nat.blt d n = true)
  (h : ∀ b, RunO P f n I₀ Q ops l k ((d, .map (some b)) :: E) I ((b, metObj []) :: L)) : RunO P f n I₀ Q ops (⟨some d, .makeMap T none, ty, pos, af, g⟩ :: l) k E I L := by
 refine o_stepX rfl hdn (fun a he => hg.wanted a he) fun a w he hm => ?_
 refine ⟨_, _, I, (w.heap.size, metObj []) :: L, ?_, hm.alloc _, h _⟩
 rfl
theorem o_lookup {T K V : TypeId} {sz bb ks kb vs vb : Nat} {z kz vz : List Value} [ht : TyIs P T (.map K V) sz bb z] [hk : TyIs P K .string ks kb kz] [hv : TyIs P V .bool vs vb vz] {x y : Operand} {b : Nat} {m : List Txt} {s : Txt}
  (hx : opd E x = some (.map (some b))) (hy : opd E y = some (.string (str s))) (hz : ∃ i, P.info? V = some i ∧ i.zero = some (.bool false)) (hm : ∀ w, Mem I L w → w.heap[b]? = some (metObj m)) (hg : Wants ops E g) (hdn : Nat.blt d n = true)
  (h : RunO P f n I₀ Q ops l k ((d, .bool (decide (s ∈ m))) :: E) I L) : RunO P f n I₀ Q ops (⟨some d, .lookup T x y false, ty, pos, af, g⟩ :: l) k E I L := by
 refine o_step rfl hdn (fun a he => hg.wanted a he) (fun a w he hM => ⟨w, ?_, hM⟩) h
 simp only [execOp, he.eval hx, he.eval hy, Instr.lookup]
 refine run_bind_ok (a := .bool (decide (s ∈ m))) (w' := w) ?_ |>.trans rfl
 rw [run_bind_ok (run_underlying ht.und w)]
 simp only
 rw [run_bind_ok (run_getObj (hm w hM))]
 simp only [pure_bind]
 rw [run_bind_ok (run_checkKey hk _ s w)]
 by_cases hs : s ∈ m
 ·obtain ⟨j, hj⟩ := find_in s m 0 0 hs
  rw [run_bind_ok (run_findKey hk (show Instr.findNow .string (.string (str s)) (ents m 0).toArray.toList 0 = _ from hj) w)]
  simp [hs]
 ·rw [run_bind_ok (run_findKey hk (show Instr.findNow .string (.string (str s)) (ents m 0).toArray.toList 0 = _ from find_out s m 0 0 hs) w)]
  obtain ⟨i, hi1, hi2⟩ := hz
  have hv1 : (zeroValue V).run P w = .ok (.bool false) w := by
   unfold zeroValue
   rw [run_bind_ok (run_typeInfo hi1 w), hi2]; rfl
  simp only
  rw [run_bind_ok hv1]
  simp [hs]
theorem o_mapUpdate {T K V : TypeId} {sz bb ks kb : Nat} {z kz : List Value} [ht : TyIs P T (.map K V) sz bb z] [hk : TyIs P K .string ks kb kz] {x y u : Operand} {b : Nat} {m : List Txt} {s : Txt} {L' : Own}
  (hx : opd E x = some (.map (some b))) (hy : opd E y = some (.string (str s))) (hv : opd E u = some (.bool true)) (hs : s ∉ m) (hu : Upd b (metObj (m ++ [s])) (metObj m) L L') (hg : Wants ops E g)
  (h : RunO P f n I₀ Q ops l k E I L') : RunO P f n I₀ Q ops (⟨none, .mapUpdate T x y u, ty, pos, af, g⟩ :: l) k E I L := by
 refine o_step_none rfl (fun a he => hg.wanted a he) (fun a w he hM => ⟨_, .inl ?_, hM.upd hu⟩) h
 simp only [execOp, he.eval hx, he.eval hy, he.eval hv, Instr.mapUpdate]
 refine run_bind_ok (a := ()) (w' := { w with heap := w.heap.setIfInBounds b (metObj (m ++ [s])) }) ?_ |>.trans rfl
 rw [run_bind_ok (run_underlying ht.und w)]
 simp only
 rw [run_bind_ok (run_getObj (hM.2.1 _ hu.mem.1).1)]
 simp only [metObj]
 rw [run_bind_ok (run_checkKey hk _ s w)]
 rw [run_bind_ok (run_findKey hk (show Instr.findNow .string (.string (str s)) (ents m 0).toArray.toList 0 = _ from find_out s m 0 0 hs) w)]
 simp only
 rw [run_setObj (hM.2.1 _ hu.mem.1).1]
 simp [ents_push]
end
end Go.Proofs.YtdgpnibnogdllaaGreatDoor


/- A map whose keys are texts: a key put once more. No conditions. -/
namespace Go.Proofs.YtdgpnibnogdllaaGreatDoor
set_option maxRecDepth 100000
set_option linter.unusedVariables false
set_option linter.unusedSimpArgs false

theorem find_at (s : Txt) : ∀ (l : List Txt) (i j : Nat), s ∈ l → ∃ k, Instr.findNow .string (.string (str s)) (ents l i) j = some (some (j + k, .bool true)) ∧ (ents l i)[k]? = some ⟨.string (str s), .bool true, i + k⟩
 | [], i, j, h => by cases h
 | x :: l, i, j, h => by
  simp only [ents, Instr.findNow, same_str]
  by_cases e : s = x
  ·subst e; exact ⟨0, by simp, by simp⟩
  ·simp only [e, decide_false]
   rcases List.mem_cons.1 h with h | h
   ·exact absurd h e
   ·obtain ⟨k, h1, h2⟩ := find_at s l (i + 1) (j + 1) h
    exact ⟨k + 1, by rw [h1]; simp; omega, by rw [List.getElem?_cons_succ, h2]; congr 2; omega⟩
theorem run_stays (s : Txt) {P : Program} (w : World) : (Instr.keyThatStays (.string (str s)) (.string (str s))).run P w = .ok (.string (str s)) w := by
 have h : Instr.sameBits 10000 (.string (str s)) (.string (str s)) = true := by
  show (str s == str s) = true
  show (s.toArray == s.toArray) = true
  simp
 unfold Instr.keyThatStays
 rw [if_pos h]; rfl
section
variable {P : Program} {f : FuncId} {n : Nat} {I₀ : Heap} {Q : Post} {k : List Item} {E : Env} {I : Heap} {L : Own} {ops : Array Oper} {d : Nat} {ty : TypeId} {pos : String} {af : Array Edge} {g : Option (Nat × Bool)} {l : List Oper}
theorem o_mapAdd {T K V : TypeId} {sz bb ks kb : Nat} {z kz : List Value} [ht : TyIs P T (.map K V) sz bb z] [hk : TyIs P K .string ks kb kz] {x y u : Operand} {b : Nat} {m : List Txt} {s : Txt} {L' : Own}
  (hx : opd E x = some (.map (some b))) (hy : opd E y = some (.string (str s))) (hv : opd E u = some (.bool true)) (hu : Upd b (metObj (addOnce m s)) (metObj m) L L') (hg : Wants ops E g)
  (h : RunO P f n I₀ Q ops l k E I L') : RunO P f n I₀ Q ops (⟨none, .mapUpdate T x y u, ty, pos, af, g⟩ :: l) k E I L := by
 by_cases hs : s ∈ m
 ·refine o_step_none rfl (fun a he => hg.wanted a he) (fun a w he hM => ⟨_, .inl ?_, hM.upd hu⟩) h
  simp only [execOp, he.eval hx, he.eval hy, he.eval hv, Instr.mapUpdate]
  refine run_bind_ok (a := ()) (w' := { w with heap := w.heap.setIfInBounds b (metObj (addOnce m s)) }) ?_ |>.trans rfl
  rw [run_bind_ok (run_underlying ht.und w)]
  simp only
  rw [run_bind_ok (run_getObj (hM.2.1 _ hu.mem.1).1)]
  simp only [metObj]
  rw [run_bind_ok (run_checkKey hk _ s w)]
  obtain ⟨i, hi1, hi2⟩ := find_at s m 0 0 hs
  rw [Nat.zero_add] at hi1 hi2
  rw [run_bind_ok (run_findKey hk (show Instr.findNow .string (.string (str s)) (ents m 0).toArray.toList 0 = _ from hi1) w)]
  simp only [List.getElem?_toArray, hi2, Option.map_some, Option.getD_some]
  rw [run_bind_ok (run_stays s w), run_setObj (hM.2.1 _ hu.mem.1).1]
  have e1 : addOnce m s = m := by simp [addOnce, hs]
  have e2 : (ents m 0).toArray.modify i (fun e => { e with key := .string (str s), val := .bool true }) = (ents m 0).toArray := by
   apply Array.ext
   ·simp
   ·intro j h1 h2
    rw [Array.getElem_modify]
    split
    ·rename_i hij
     subst hij
     have h3 : (ents m 0)[i]? = some ((ents m 0)[i]'(by simpa using h2)) := List.getElem?_eq_getElem _
     rw [hi2] at h3
     simp only [Option.some.injEq] at h3
     simp only [List.getElem_toArray, ← h3]
    ·rfl
  rw [e1, e2]
 ·have e1 : addOnce m s = m ++ [s] := by simp [addOnce, hs]
  rw [e1] at hu
  exact o_mapUpdate hx hy hv hs hu hg h
end
end Go.Proofs.YtdgpnibnogdllaaGreatDoor


/- Memory put in other orders, and regions that leave some of it out. No conditions. -/
namespace Go.Proofs.YtdgpnibnogdllaaGreatDoor
set_option maxRecDepth 100000
set_option linter.unusedVariables false
set_option linter.unusedSimpArgs false

section
variable {P : Program} {f : FuncId} {n : Nat} {I₀ : Heap} {Q : Post} {k : List Item} {E : Env} {I : Heap} {id : Nat} {ops : Array Oper} {a b c p q r s t u v : Nat × Obj} {X A B L R : Own} {w : World}
theorem bufIs {z m c : Nat} {xs : List Value} {B : Buf} (h : BufOk z m c xs B) : ∃ a j, bufVal m c B = .slice a m j := by
 cases B with
 | none => obtain ⟨_, rfl, rfl⟩ := h; exact ⟨_, _, rfl⟩
 | some p => exact ⟨_, _, rfl⟩
theorem upd7 {b : Nat} {o o' : Obj} {p p1 p2 p3 p4 p5 p6 : Nat × Obj} : Upd b o' o (p :: p1 :: p2 :: p3 :: p4 :: p5 :: p6 :: (b, o) :: L) (p :: p1 :: p2 :: p3 :: p4 :: p5 :: p6 :: (b, o') :: L) := .there u6
theorem Mem.nq3 (h : Mem I (p :: q :: r :: a :: b :: R) w) : Mem I (a :: b :: p :: q :: r :: R) w := h.perm (List.perm_append_comm_assoc [p, q, r] [a, b] R)
theorem Mem.nq4 (h : Mem I (p :: q :: r :: s :: a :: b :: R) w) : Mem I (a :: b :: p :: q :: r :: s :: R) w := h.perm (List.perm_append_comm_assoc [p, q, r, s] [a, b] R)
theorem Mem.qn4 (h : Mem I (a :: b :: p :: q :: r :: s :: R) w) : Mem I (p :: q :: r :: s :: a :: b :: R) w := h.perm (List.perm_append_comm_assoc [a, b] [p, q, r, s] R)
/-- What stands ahead of three and a list goes behind them. -/
theorem Mem.kv (h : Mem I (X ++ (a :: b :: c :: (A ++ L))) w) : Mem I (a :: b :: c :: (A ++ (X ++ L))) w := h.perm (List.perm_append_comm_assoc X (a :: b :: c :: A) L)
theorem Mem.vk (h : Mem I (a :: b :: c :: (A ++ (X ++ L))) w) : Mem I (X ++ (a :: b :: c :: (A ++ L))) w := h.perm (List.perm_append_comm_assoc (a :: b :: c :: A) X L)
theorem Mem.kv2 (h : Mem I (p :: q :: a :: b :: c :: (A ++ L)) w) : Mem I (a :: b :: c :: (A ++ (p :: q :: L))) w := Mem.kv (X := [p, q]) h
theorem Mem.vk2 (h : Mem I (a :: b :: c :: (A ++ (p :: q :: L))) w) : Mem I (p :: q :: a :: b :: c :: (A ++ L)) w := Mem.vk (X := [p, q]) h
theorem Mem.kv4 (h : Mem I (p :: q :: r :: s :: a :: b :: c :: (A ++ L)) w) : Mem I (a :: b :: c :: (A ++ (p :: q :: r :: s :: L))) w := Mem.kv (X := [p, q, r, s]) h
theorem Mem.vk4 (h : Mem I (a :: b :: c :: (A ++ (p :: q :: r :: s :: L))) w) : Mem I (p :: q :: r :: s :: a :: b :: c :: (A ++ L)) w := Mem.vk (X := [p, q, r, s]) h
theorem Mem.w3 (h : Mem I (p :: a :: b :: c :: L) w) : Mem I (a :: b :: c :: p :: L) w := h.perm (List.perm_append_comm_assoc [p] [a, b, c] L)
theorem Mem.uu7 (h : Mem I (a :: b :: c :: p :: q :: r :: s :: (X ++ L)) w) : Mem I (X ++ a :: b :: c :: p :: q :: r :: s :: L) w := h.perm (List.perm_append_comm_assoc [a, b, c, p, q, r, s] X L)
theorem d_o6 (N : Nat) (hN : ops.size = N) (hm : P.follows .mixedOrders = true) (h : RunW P f n I₀ Q ops (Mem I (a :: p :: q :: r :: s :: t :: L)) N (Array.replicate N false) k E I (a :: p :: q :: r :: s :: t :: (A ++ L))) :
  RunS P f n I₀ Q (.code (.region id ops true) :: k) E I (a :: p :: q :: r :: s :: t :: (A ++ L)) := d_with I (a :: p :: q :: r :: s :: t :: L) N hN hm h
theorem d_o4 (N : Nat) (hN : ops.size = N) (hm : P.follows .mixedOrders = true) (h : RunW P f n I₀ Q ops (Mem I (p :: q :: r :: s :: R)) N (Array.replicate N false) k E I (p :: q :: r :: s :: a :: b :: R)) :
  RunS P f n I₀ Q (.code (.region id ops true) :: k) E I (p :: q :: r :: s :: a :: b :: R) := d_with I (p :: q :: r :: s :: R) N hN hm h
theorem d_q4 (N : Nat) (hN : ops.size = N) (hm : P.follows .mixedOrders = true) (h : RunW P f n I₀ Q ops (Mem I (p :: q :: r :: s :: L)) N (Array.replicate N false) k E I (p :: q :: r :: s :: a :: b :: c :: (A ++ L))) :
  RunS P f n I₀ Q (.code (.region id ops true) :: k) E I (p :: q :: r :: s :: a :: b :: c :: (A ++ L)) := d_with I (p :: q :: r :: s :: L) N hN hm h
end
end Go.Proofs.YtdgpnibnogdllaaGreatDoor


/- Values and their prints. No conditions. -/
namespace Go.Proofs.YtdgpnibnogdllaaGreatDoor
set_option maxRecDepth 100000
set_option linter.unusedVariables false
set_option linter.unusedSimpArgs false

def Ex.value : Ex → Bool
 | .num _ => true
 | .fn _ _ _ _ _ => true
 | .bin .pair a b => a.value && b.value
 | _ => false
def Ex.print : Ex → Tree
 | .bin .pair a b => .node [] [.node tPair [], a.print, b.print]
 | .fn _ _ _ _ _ => .node tFun []
 | e => e.tree
/-- A value, if the text is one. -/
def valueOf (s : Txt) : Option Ex := match closedOf s with
 | some e => if e.value = true then some e else none
 | none => none
def printOf (s : Txt) : Option Txt := (valueOf s).map fun e => e.print.text
end Go.Proofs.YtdgpnibnogdllaaGreatDoor


/- What the statements say of closed expressions, of parts and of prints. No conditions. -/
namespace Go.Proofs.YtdgpnibnogdllaaGreatDoor
set_option maxRecDepth 100000
set_option linter.unusedVariables false
set_option linter.unusedSimpArgs false

end Go.Proofs.YtdgpnibnogdllaaGreatDoor


/- Atoms of forms, by the program; how often a name stands free. No conditions. -/
namespace Go.Proofs.YtdgpnibnogdllaaGreatDoor
set_option maxRecDepth 100000
set_option linter.unusedVariables false
set_option linter.unusedSimpArgs false

/-- A function value that is told of atoms. -/
structure ATeller (P : Program) (kf : FuncId) (cap : List Value) (X : Type) (own : X → Own) (R : X → List Txt → Heap → Prop) : Prop where
 tell : ∀ x seen s I L, R x seen I → s.length ≤ maxN → seen.length < 4294967296 → Fun P kf (.string (str s) :: cap) I (own x ++ L) (fun v I' L' => v = .tuple #[] ∧ ∃ y, R y (seen ++ [s]) I' ∧ L' = own y ++ L)
 mono : ∀ x seen I I', HLe I I' → R x seen I → R x seen I'
/-- How far a walk over the parts has come. -/
structure GX (X : Type) where
 i : Nat
 x : X
 J : Heap
theorem f_form_atoms {kf : FuncId} {cap : List Value} {X : Type} {own : X → Own} {R : X → List Txt → Heap → Prop} {c0 : Code} {m0' : Nat} {rs0 : List ResultVar} [hfi : FnIs Tryz.prog kf c0 m0' rs0] (T : ATeller Tryz.prog kf cap X own R) :
  ∀ (n : Nat) {I : Heap} {t : Tree} {cs : List Value} (_ : SizeOf.sizeOf t < n) (_ : Rep I t cs) (x : X) (seen : List Txt) (_ : seen.length + t.size ≤ 4294967296) (_ : R x seen I) (L : Own),
  Fun Tryz.prog 22 [.agg cs.toArray, .func (.func kf) #[] cap.toArray] I (own x ++ L) (TP own R (seen ++ t.atomL) L) := by
 intro n
 induction n with
 | zero => intro I t cs h; omega
 | succ n ihn =>
  intro I t cs hlt h x seen hsl hx L
  obtain ⟨oa, c, oaf, cf, rfl, hf⟩ := h.at'
  have ha := hf.alen
  have hp := hf.len
  unfold maxN at hp
  refine fun_intro (by simp) ?_
  refine Se rfl ?_
  refine o_box rfl rfl .free rfl ?_
  intro b2
  refine o_done ?_
  refine s_seq ?_
  refine Se rfl ?_
  refine o_lOS rfl .free rfl ?_
  refine o_call rfl .free rfl (f_form_isAtom hf.rep _) ?_
  rintro _ _ _ _ ⟨rfl, rfl, rfl⟩
  refine o_done ?_
  refine s_cond rfl ?_ ?_
  ·intro c0
   try simp only [nb] at c0
   have hps : t.parts = [] := by simpa using c0
   refine o_enter rfl ?_
   refine Om rfl ?_
   refine o_fieldAddr rfl .free rfl ?_
   refine o_lO1 rfl .free rfl ?_
   refine o_mem (fun w h => h.u1) ?_
   refine o_callv rfl rfl .free rfl (T.tell x seen t.atom _ _ hx ha (by have := t.size_one; omega)) ?_
   rintro _ J _ e1 ⟨rfl, x, hx, rfl⟩
   refine o_mem (fun w h => h.w1) ?_
   obtain ⟨s0, hs0, hx⟩ : ∃ s0, s0 ++ atomsL t.parts = t.atomL ∧ R x (seen ++ s0) J := ⟨[t.atom], by rw [hps, atomL_atom t hps]; rfl, hx⟩
   have hf := hf.mono e1
   have hle := e1
   refine o_done ?_
   refine s_seq ?_
   have hsz : s0.length + (atomsL t.parts).length = t.size := by rw [← t.atomL_len, ← hs0, List.length_append]
   refine o_enter rfl ?_
   refine o_fieldAddr rfl .free rfl ?_
   refine o_lO1 rfl .free rfl ?_
   refine o_len_slice rfl .free rfl ?_
   refine Om rfl ?_
   refine o_done ?_
   refine s_block ?_
   refine s_while (X := GX X) (fun y => t.parts.length - y.i) (fun y => [(1, .func (.func kf) #[] cap.toArray), (13, .slice oa t.parts.length c), (14, .int .i64 (t.parts.length : Nat)), (15, .int .i64 (y.i : Nat))]) (fun y => y.J) (fun y => (b2, .cells [.string (str t.atom), .slice oa t.parts.length c].toArray 34 (0, 0)) :: (own y.x ++ L)) (fun y => y.i ≤ t.parts.length ∧ HLe I y.J ∧ R y.x (seen ++ s0 ++ atomsL (t.parts.take y.i)) y.J) ⟨0, x, _⟩ ⟨Nat.zero_le _, hle, by simpa [atomsL] using hx⟩ ⟨rfl, rfl, rfl, rfl, trivial⟩ (by intro _ h; exact h) ?_
   rintro ⟨i, x1, J1⟩ ⟨hi, hle1, hx1⟩ ih
   simp only at hi hle1 hx1 ih ⊢
   have hf1 := h.mono hle1
   refine Se rfl ?_
   refine o_cmp rfl rfl rfl .free rfl ?_
   refine o_done ?_
   refine s_seq ?_
   refine s_cond rfl ?_ ?_
   ·intro c1
    try simp only [nb] at c1
    have hi1 : i < t.parts.length := by omega
    have hall := atomsL_take t.parts i hi1
    have hle3 : (atomsL (t.parts.take i)).length + (t.pt i).size ≤ (atomsL t.parts).length := by
     rw [Tree.pt_at hi1]
     have h1 := sizeL_append (t.parts.take i) (t.parts.drop i)
     rw [List.take_append_drop, List.drop_eq_getElem_cons hi1] at h1
     simp only [sizeL] at h1
     rw [atomsL_len, atomsL_len]; omega
    obtain ⟨oa2, c2, oaf2, cf2, he2, hf2⟩ := hf1.at'
    simp only [List.cons.injEq, Value.slice.injEq, and_true, true_and] at he2
    obtain ⟨rfl, rfl⟩ := he2
    refine s_skip ?_
    refine s_seq ?_
    refine s_block ?_
    refine Se rfl ?_
    first | refine o_ixD rfl rfl _ rfl .free rfl ?_ | refine o_ixP rfl rfl _ rfl .free rfl ?_
    refine o_lIS rfl .free rfl ?_
    refine o_alloc .free rfl ?_
    intro b5
    refine o_st rfl rfl rfl rfl .free ?_
    refine o_done ?_
    refine o_enter rfl ?_
    refine o_lOS rfl .free rfl ?_
    refine Om rfl ?_
    refine o_mem (fun w h => h.u2) ?_
    refine o_call rfl .free rfl (ihn (t := t.pt i) (by have := t.pt_lt i hi1; omega) (hf2.rp i hi1) x1 _ (by simp only [List.length_append]; omega) hx1 _) ?_
    rintro _ J2 _ e2 ⟨rfl, x2, hx2, rfl⟩
    refine o_mem (fun w h => h.w1.drop.w1) ?_
    refine o_done ?_
    refine s_inBlock ?_
    refine o_enter rfl ?_
    refine o_arith rfl rfl rfl (by omega) .free rfl ?_
    refine Om rfl ?_
    refine o_done ?_
    refine s_env (E' := [(1, .func (.func kf) #[] cap.toArray), (13, .slice oa t.parts.length c), (14, .int .i64 (t.parts.length : Nat)), (15, .int .i64 ((i + 1 : Nat)))]) ⟨rfl, rfl, rfl, rfl, trivial⟩ (ih ⟨i + 1, x2, J2⟩ ⟨by simp only; omega, hle1.trans e2, by simp only; rw [hall, ← List.append_assoc, ← Tree.pt_at hi1]; exact hx2⟩ (by simp only; omega))
   intro c1
   try simp only [nb] at c1
   refine s_exit rfl ?_
   refine s_end .nil ?_
   have hi0 : i = t.parts.length := by omega
   subst hi0
   rw [List.take_length, List.append_assoc, hs0] at hx1
   exact ⟨J1, _, hle1, fun w h => h.drop, rfl, x1, hx1, rfl⟩
  intro c0
  try simp only [nb] at c0
  have hne : t.parts ≠ [] := by simpa using c0
  obtain ⟨s0, hs0, hx⟩ : ∃ s0, s0 ++ atomsL t.parts = t.atomL ∧ R x (seen ++ s0) I := ⟨[], by rw [atomsL_eq t hne]; rfl, by rw [List.append_nil]; exact hx⟩
  have hle : HLe I I := .refl _
  refine s_skip ?_
  refine s_seq ?_
  have hsz : s0.length + (atomsL t.parts).length = t.size := by rw [← t.atomL_len, ← hs0, List.length_append]
  refine o_enter rfl ?_
  refine o_fieldAddr rfl .free rfl ?_
  refine o_lO1 rfl .free rfl ?_
  refine o_len_slice rfl .free rfl ?_
  refine Om rfl ?_
  refine o_done ?_
  refine s_block ?_
  refine s_while (X := GX X) (fun y => t.parts.length - y.i) (fun y => [(1, .func (.func kf) #[] cap.toArray), (13, .slice oa t.parts.length c), (14, .int .i64 (t.parts.length : Nat)), (15, .int .i64 (y.i : Nat))]) (fun y => y.J) (fun y => (b2, .cells [.string (str t.atom), .slice oa t.parts.length c].toArray 34 (0, 0)) :: (own y.x ++ L)) (fun y => y.i ≤ t.parts.length ∧ HLe I y.J ∧ R y.x (seen ++ s0 ++ atomsL (t.parts.take y.i)) y.J) ⟨0, x, _⟩ ⟨Nat.zero_le _, hle, by simpa [atomsL] using hx⟩ ⟨rfl, rfl, rfl, rfl, trivial⟩ (by intro _ h; exact h) ?_
  rintro ⟨i, x1, J1⟩ ⟨hi, hle1, hx1⟩ ih
  simp only at hi hle1 hx1 ih ⊢
  have hf1 := h.mono hle1
  refine Se rfl ?_
  refine o_cmp rfl rfl rfl .free rfl ?_
  refine o_done ?_
  refine s_seq ?_
  refine s_cond rfl ?_ ?_
  ·intro c1
   try simp only [nb] at c1
   have hi1 : i < t.parts.length := by omega
   have hall := atomsL_take t.parts i hi1
   have hle3 : (atomsL (t.parts.take i)).length + (t.pt i).size ≤ (atomsL t.parts).length := by
    rw [Tree.pt_at hi1]
    have h1 := sizeL_append (t.parts.take i) (t.parts.drop i)
    rw [List.take_append_drop, List.drop_eq_getElem_cons hi1] at h1
    simp only [sizeL] at h1
    rw [atomsL_len, atomsL_len]; omega
   obtain ⟨oa2, c2, oaf2, cf2, he2, hf2⟩ := hf1.at'
   simp only [List.cons.injEq, Value.slice.injEq, and_true, true_and] at he2
   obtain ⟨rfl, rfl⟩ := he2
   refine s_skip ?_
   refine s_seq ?_
   refine s_block ?_
   refine Se rfl ?_
   first | refine o_ixD rfl rfl _ rfl .free rfl ?_ | refine o_ixP rfl rfl _ rfl .free rfl ?_
   refine o_lIS rfl .free rfl ?_
   refine o_alloc .free rfl ?_
   intro b5
   refine o_st rfl rfl rfl rfl .free ?_
   refine o_done ?_
   refine o_enter rfl ?_
   refine o_lOS rfl .free rfl ?_
   refine Om rfl ?_
   refine o_mem (fun w h => h.u2) ?_
   refine o_call rfl .free rfl (ihn (t := t.pt i) (by have := t.pt_lt i hi1; omega) (hf2.rp i hi1) x1 _ (by simp only [List.length_append]; omega) hx1 _) ?_
   rintro _ J2 _ e2 ⟨rfl, x2, hx2, rfl⟩
   refine o_mem (fun w h => h.w1.drop.w1) ?_
   refine o_done ?_
   refine s_inBlock ?_
   refine o_enter rfl ?_
   refine o_arith rfl rfl rfl (by omega) .free rfl ?_
   refine Om rfl ?_
   refine o_done ?_
   refine s_env (E' := [(1, .func (.func kf) #[] cap.toArray), (13, .slice oa t.parts.length c), (14, .int .i64 (t.parts.length : Nat)), (15, .int .i64 ((i + 1 : Nat)))]) ⟨rfl, rfl, rfl, rfl, trivial⟩ (ih ⟨i + 1, x2, J2⟩ ⟨by simp only; omega, hle1.trans e2, by simp only; rw [hall, ← List.append_assoc, ← Tree.pt_at hi1]; exact hx2⟩ (by simp only; omega))
  intro c1
  try simp only [nb] at c1
  refine s_exit rfl ?_
  refine s_end .nil ?_
  have hi0 : i = t.parts.length := by omega
  subst hi0
  rw [List.take_length, List.append_assoc, hs0] at hx1
  exact ⟨J1, _, hle1, fun w h => h.drop, rfl, x1, hx1, rfl⟩
/-- The atoms that 'FormAtoms' has met, and the list of them. -/
def FB.met (bm bq bo : Nat) (x : FB) : Own := (bm, .cells [.map (some bq)].toArray 49 (0, 0)) :: (bq, metObj x.l) :: (bo, .cells [bufVal x.l.length x.c x.B].toArray 42 (0, 0)) :: bufOwn 9 (x.l.map sv) x.B
def FB.ats (x : FB) (seen : List Txt) (I : Heap) : Prop := x.l = addAll [] seen ∧ BufOk 1 x.l.length x.c (x.l.map sv) x.B ∧ ∀ s ∈ x.l, s.length ≤ maxN
end Go.Proofs.YtdgpnibnogdllaaGreatDoor

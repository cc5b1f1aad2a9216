/- Expressions with plain names are expressions. No conditions. -/
import Derived.Test.YtplalahnnoeidaaGreatDoorG11
import Derived.Shelf.Strconv.Itoa3
import Derived.Test.YtplalahnnoeidaaGreatDoorProg
namespace Go.Proofs.YtplalahnnoeidaaGreatDoor
set_option maxRecDepth 100000
set_option linter.unusedVariables false
set_option linter.unusedSimpArgs false

theorem digit_of {d : Nat} (h : d < 10) : digit (UInt8.ofNat (48 + d)) = true := by
 have : (UInt8.ofNat (48 + d)).toNat = 48 + d := by simp [UInt8.toNat_ofNat]; omega
 simp only [digit, this, Bool.and_eq_true, decide_eq_true_eq]; omega
theorem decT_digits : ∀ n : Nat, (decT n).all digit = true := by
 intro n
 induction n using Nat.strongRecOn with
 | _ n ih =>
  by_cases h : n < 10
  ·rw [decT_small h]; simp only [List.all_cons, List.all_nil, Bool.and_true]; exact digit_of h
  ·rw [decT_big h, List.all_append, ih (n / 10) (by omega)]
   simp only [List.all_cons, List.all_nil, Bool.and_true, Bool.true_and]; exact digit_of (Nat.mod_lt n (by omega))
theorem decT_len {n : Nat} (h : n < 1000) : (decT n).length ≤ 3 := by
 by_cases h1 : n < 10
 ·rw [decT_small h1]; simp
 ·rw [decT_big h1, List.length_append]
  by_cases h2 : n / 10 < 10
  ·rw [decT_small h2]; simp
  ·rw [decT_big h2, List.length_append, decT_small (show n / 10 / 10 < 10 by omega)]; simp
theorem nm_name {c : UInt8} {n : Nat} (hc : lower c = true) (h : n < 1000) : isName (nm c n) = true := by
 have := decT_len h
 simp [nm, isName, hc, decT_digits n, this]
def namesL (l : List Txt) : Prop := ∀ s ∈ l, isName s = true
theorem namesL.add {l m : List Txt} (h : namesL l) (h' : namesL m) : namesL (l ++ m) := by
 intro s hs
 rcases List.mem_append.1 hs with hs | hs
 ·exact h s hs
 ·exact h' s hs
theorem Ex.pl_ok {av : List Txt} : ∀ {e : Ex} {f t : List Txt} {n : Nat}, e.ok = true → namesL t → f.length = t.length → n + e.nb + av.length ≤ 900 + hits 120 av n → (e.pl av f t n).1.ok = true
 | .num s, f, t, n, h, _, _, _ => h
 | .name s, f, t, n, h, ht, hl, _ => by
  simp only [Ex.pl, Ex.ok]
  cases hi : lastIdx f s with
  | none => exact h
  | some i =>
   have h1 := (lastAt_lt (show lastAt f s f.length = some i from hi)).1
   have h2 : i < t.length := by omega
   show isName (t.getD i []) = true
   rw [show t.getD i [] = t[i] by simp [h2]]
   exact ht _ (List.getElem_mem h2)
 | .bin o a b, f, t, n, h, ht, hl, hn => by
  simp only [Ex.ok, Bool.and_eq_true] at h
  simp only [Ex.nb] at hn
  have h1 := a.pl_hits av f t n
  have h2 := hits_le 120 av (a.pl av f t n).2
  simp only [Ex.pl, Ex.ok, Bool.and_eq_true]
  exact ⟨Ex.pl_ok h.1 ht hl (by omega), Ex.pl_ok h.2 ht hl (by omega)⟩
 | .ite a b c, f, t, n, h, ht, hl, hn => by
  simp only [Ex.ok, Bool.and_eq_true] at h
  simp only [Ex.nb] at hn
  have h1 := a.pl_hits av f t n
  have h2 := b.pl_hits av f t (a.pl av f t n).2
  have h3 := hits_le 120 av (a.pl av f t n).2
  have h4 := hits_le 120 av (b.pl av f t (a.pl av f t n).2).2
  simp only [Ex.pl, Ex.ok, Bool.and_eq_true]
  exact ⟨⟨Ex.pl_ok h.1.1 ht hl (by omega), Ex.pl_ok h.1.2 ht hl (by omega)⟩, Ex.pl_ok h.2 ht hl (by omega)⟩
 | .lt x a b, f, t, n, h, ht, hl, hn => by
  simp only [Ex.ok, Bool.and_eq_true] at h
  simp only [Ex.nb] at hn
  have h0 := fr_hits_succ 120 av n
  have h1 := a.pl_hits av f t (fr 120 av n + 1)
  have h2 := hits_le 120 av (fr 120 av n + 1)
  have h3 := hits_le 120 av (a.pl av f t (fr 120 av n + 1)).2
  have h4 := hits_le 120 av n
  have hz : isName (nm 120 (fr 120 av n)) = true := nm_name (by decide) (by omega)
  simp only [Ex.pl, Ex.ok, Bool.and_eq_true]
  exact ⟨⟨hz, Ex.pl_ok h.1.2 ht hl (by omega)⟩, Ex.pl_ok h.2 (ht.add fun s hs => by rw [List.mem_singleton.1 hs]; exact hz) (by simp [hl]) (by omega)⟩
 | .fn g x s u b, f, t, n, h, ht, hl, hn => by
  simp only [Ex.ok, Bool.and_eq_true, decide_eq_true_eq] at h
  obtain ⟨⟨⟨⟨⟨h1, h2⟩, h3⟩, h4⟩, h5⟩, h6⟩ := h
  simp only [Ex.nb] at hn
  have k0 := fr_hits_succ 120 av n
  have k1 := fr_hits_succ 120 av (fr 120 av n + 1)
  have k2 := hits_le 120 av (fr 120 av n + 1)
  have k3 := hits_le 120 av (fr 120 av (fr 120 av n + 1) + 1)
  have k5 := hits_le 120 av n
  have k4 := (fr_facts 120 av (fr 120 av n + 1)).2.1
  have hz1 : isName (nm 120 (fr 120 av n)) = true := nm_name (by decide) (by omega)
  have hz2 : isName (nm 120 (fr 120 av (fr 120 av n + 1))) = true := nm_name (by decide) (by omega)
  simp only [Ex.pl, Ex.ok, Bool.and_eq_true, decide_eq_true_eq]
  refine ⟨⟨⟨⟨⟨hz1, hz2⟩, fun e => ?_⟩, h4⟩, h5⟩, Ex.pl_ok h6 (ht.add fun s hs => ?_) (by simp [hl]) (by omega)⟩
  ·have := nm_inj e; omega
  ·simp only [List.mem_cons, List.not_mem_nil, or_false] at hs
   rcases hs with rfl | rfl
   ·exact hz1
   ·exact hz2
 | .un o a, f, t, n, h, ht, hl, hn => by
  simp only [Ex.pl, Ex.ok]
  exact Ex.pl_ok (e := a) h ht hl (by simpa [Ex.nb] using hn)
theorem B5.txt_len (o : B5) : o.txt.length ≤ 4 := by cases o <;> decide
theorem U2.txt_len (o : U2) : o.txt.length ≤ 3 := by cases o <;> decide
/-- An expression's text is short. -/
theorem Ex.len_size : ∀ {e : Ex}, e.ok = true → e.tree.len + 1 ≤ 8 * e.size
 | .num s, h => by
  have h : isNum s = true := h
  have : s.length ≤ 4 := by
   simp only [isNum, Bool.or_eq_true, Bool.and_eq_true, decide_eq_true_eq] at h
   rcases h with h | h
   ·rw [h]; decide
   ·have h1 := h.1.1.2
    unfold unsign at h1
    split at h1
    ·simp only [List.length_drop] at h1; omega
    ·omega
  simp only [Ex.tree, Tree.len, List.isEmpty_nil, cond_true, Ex.size]; omega
 | .name s, h => by
  have := isName_len (show isName s = true from h)
  simp only [Ex.tree, Tree.len, List.isEmpty_nil, cond_true, Ex.size]; omega
 | .bin o a b, h => by
  simp only [Ex.ok, Bool.and_eq_true] at h
  have h1 := Ex.len_size h.1; have h2 := Ex.len_size h.2; have h3 := o.txt_len
  simp only [Ex.tree, Tree.len, lenL, List.isEmpty_nil, List.isEmpty_cons, cond_true, cond_false, Ex.size]; omega
 | .ite a b c, h => by
  simp only [Ex.ok, Bool.and_eq_true] at h
  have h1 := Ex.len_size h.1.1; have h2 := Ex.len_size h.1.2; have h3 := Ex.len_size h.2
  simp only [Ex.tree, Tree.len, lenL, List.isEmpty_nil, List.isEmpty_cons, cond_true, cond_false, Ex.size, tIf, List.length_cons, List.length_nil]; omega
 | .lt x a b, h => by
  simp only [Ex.ok, Bool.and_eq_true] at h
  have h1 := Ex.len_size h.1.2; have h2 := Ex.len_size h.2; have h3 := isName_len h.1.1
  simp only [Ex.tree, Tree.len, lenL, List.isEmpty_nil, List.isEmpty_cons, cond_true, cond_false, Ex.size, tLet, List.length_cons, List.length_nil]; omega
 | .fn f x s t b, h => by
  simp only [Ex.ok, Bool.and_eq_true, decide_eq_true_eq] at h
  obtain ⟨⟨⟨⟨⟨h1, h2⟩, h3⟩, h4⟩, h5⟩, h6⟩ := h
  have k1 := Ex.len_size h6; have k2 := isName_len h1; have k3 := isName_len h2
  have k4 := s.tree_small; have k5 := t.tree_small; have k6 := s.size_pos; have k7 := t.size_pos
  simp only [Ex.tree, Tree.len, lenL, List.isEmpty_nil, List.isEmpty_cons, cond_true, cond_false, Ex.size, tFun, List.length_cons, List.length_nil]; omega
 | .un o a, h => by
  have h1 := Ex.len_size (e := a) h; have h3 := o.txt_len
  simp only [Ex.tree, Tree.len, lenL, List.isEmpty_nil, List.isEmpty_cons, cond_true, cond_false, Ex.size]; omega
/-- The plain one of an expression. -/
def Ex.plain (e : Ex) : Ex := (e.pl e.free [] [] 0).1
theorem addAll_len' (l m : List Txt) : (addAll l m).length ≤ l.length + m.length := by
 induction m generalizing l with
 | nil => exact Nat.le_refl _
 | cons s m ih =>
  have h1 : (addOnce l s).length ≤ l.length + 1 := by unfold addOnce; split <;> simp
  have h2 := ih (addOnce l s)
  simp only [addAll, List.foldl_cons, List.length_cons] at *
  omega
theorem plain_room {e : Ex} (h : e.size ≤ 120) : e.nb + e.free.length ≤ 80 := by
 have h1 := e.nb_occ []
 have h2 := addAll_len' [] (e.occ [])
 simp only [List.length_nil, Nat.zero_add] at h2
 have h3 : e.free.length ≤ (e.occ []).length := h2
 omega
theorem plain_fine {e : Ex} (h : e.fine = true) : e.plain.fine = true := by
 simp only [Ex.fine, Bool.and_eq_true, decide_eq_true_eq, Tree.fits] at h
 obtain ⟨h1, h2, h3⟩ := e.pl_size e.free [] [] 0
 have hr := plain_room h.1.2
 have hok : e.plain.ok = true := Ex.pl_ok h.1.1 (fun s hs => by cases hs) rfl (by omega)
 have hl := Ex.len_size hok
 have h4 : e.plain.size = e.size := h1
 have h5 : e.plain.tree.depth = e.tree.depth := h2
 simp only [Ex.fine, Bool.and_eq_true, decide_eq_true_eq, Tree.fits]
 exact ⟨⟨hok, by omega⟩, by omega, by omega⟩
def plainOf (s : Txt) : Option Txt := (exOf s).map fun e => e.plain.tree.text
theorem plainOf_some {s : Txt} {e : Ex} (h : exOf s = some e) : plainOf s = some e.plain.tree.text := by unfold plainOf; rw [h]; rfl
theorem plainOf_none {s : Txt} (h : exOf s = none) : plainOf s = none := by unfold plainOf; rw [h]; rfl
def lookOr (l m : List Txt) (s : Txt) : Txt := match lastIdx l s with
 | some i => m.getD i []
 | none => s
theorem g_l2Look {I : Heap} {oa ob : Option Addr} {l m : List Txt} {c c' : Nat} (h : Strs I oa l c) (h' : Strs I ob m c') (hlm : l.length = m.length) (s : Txt) (L : Own) :
  Fun Tryz.prog 96 [.slice oa l.length c, .slice ob m.length c', .string (str s)] I L (Only (.string (str (lookOr l m s))) I L) := by
 have hlen := h.len
 unfold maxN at hlen
 refine fun_intro (by simp) ?_
 refine Se rfl (Oa rfl (o_done (s_seq (Se rfl (Om rfl ?_)))))
 refine o_len_slice rfl .free rfl ?_
 refine o_arith rfl rfl rfl (by omega) .free rfl ?_
 refine Oa rfl (o_done (s_block ?_))
 refine s_while (X := Nat) (fun n => n) (fun n => [(0, .slice oa l.length c), (1, .slice ob m.length c'), (2, .string (str s)), (7, .int .i64 ((n : Int) - 1))]) (fun _ => I) (fun _ => L) (fun n => n ≤ l.length ∧ lastIdx l s = lastAt l s n) l.length ⟨Nat.le_refl _, rfl⟩ ⟨rfl, rfl, rfl, rfl, trivial⟩ drops ?_
 rintro n ⟨hn, hl⟩ ih
 refine s_seq (Se rfl (Om rfl ?_))
 refine o_cmp rfl rfl rfl .free rfl ?_
 refine o_done ?_
 first | refine s_if rfl ?_ ?_ | refine s_ifn rfl ?_ ?_ | refine s_cond rfl ?_ ?_
 ·intro c0
  obtain ⟨k, rfl⟩ : ∃ k, n = k + 1 := ⟨n - 1, by omega⟩
  obtain ⟨x, hx, hst⟩ := h.at k (by omega)
  obtain ⟨y, hy, hst'⟩ := h'.at k (by omega)
  refine s_put (t := 7) (v' := .int .i64 (k : Nat)) rfl (by congr 1; omega) ?_
  simp only [lastAt, List.getD_eq_getElem?_getD, List.getElem?_eq_getElem (show k < l.length by omega), Option.getD_some] at hl
  refine s_skip (s_seq (s_block (Se rfl (Om rfl (Om rfl ?_)))))
  refine o_indexAddr' rfl rfl _ rfl (by first | omega | exact lt_of (by assumption) (by decide) | (simp; done) | (simp; omega) | decide | (simp at *; omega)) (by first | rfl | assumption) .free rfl ?_
  refine o_lS rfl .free rfl ?_
  refine Om rfl ?_
  refine o_cmps rfl rfl rfl .free rfl ?_
  refine o_done ?_
  first | refine s_if rfl ?_ ?_ | refine s_ifn rfl ?_ ?_ | refine s_cond rfl ?_ ?_
  ·intro c1
   refine Se rfl (Om rfl (Om rfl ?_))
   refine o_indexAddr' rfl rfl _ rfl (by first | omega | exact lt_of (by assumption) (by decide) | (simp; done) | (simp; omega) | decide | (simp at *; omega)) (by first | rfl | assumption) .free rfl ?_
   refine o_lS rfl .free rfl ?_
   refine Oa rfl (o_done ?_)
   refine s_ret (.tmp rfl .nil) ?_
   refine only rfl ?_
   rw [if_pos (by assumption)] at hl
   simp only [lookOr, hl]; simp [retOne, show k < m.length by omega]
  intro c1
  refine s_skip ?_
  refine s_inBlock ?_
  refine o_enter rfl ?_
  refine Om rfl ?_
  refine o_arith rfl rfl rfl (by omega) .free rfl ?_
  refine Oa rfl (o_done ?_)
  refine s_env (E' := [(0, .slice oa l.length c), (1, .slice ob m.length c'), (2, .string (str s)), (7, .int .i64 ((k : Int) - 1))]) ⟨rfl, rfl, rfl, rfl, trivial⟩ (ih k ⟨by omega, ?_⟩ (by omega))
  rw [hl, if_neg (by assumption)]
 intro c0
 refine s_exit rfl ?_
 refine Se rfl (Om rfl (Oa rfl (o_done ?_)))
 refine s_ret (.tmp rfl .nil) ?_
 refine only rfl ?_
 obtain rfl : n = 0 := by omega
 simp only [lookOr, hl, lastAt]; rfl
theorem g_l1Atom (s : Txt) (I : Heap) (L : Own) : Fun Tryz.prog 95 [.string (str s)] I L (Only (.agg [.string (str s), .slice none 0 0].toArray) I L) := by
 refine fun_intro (by simp) ?_
 refine Se rfl ?_
 refine o_alloc .free rfl ?_
 intro b2
 refine o_done (Se rfl (Om rfl ?_))
 refine o_struct rfl rfl rfl .free rfl ?_
 refine o_st rfl rfl rfl rfl .free ?_
 refine o_done ?_
 refine s_ret (.c rfl .nil) ?_
 refine only rfl ?_
 rfl
theorem fr_le (c : UInt8) (av : List Txt) (n : Nat) : fr c av n ≤ n + av.length := by
 have h1 := (fr_facts c av n).2.2
 have h2 := hits_le c av (fr c av n)
 omega
/-- The reference's namer. -/
def rn (b : Nat) (oa : Option Addr) (av : List Txt) (c n : Nat) : Nat × Obj := (b, .cells [.slice oa av.length c, .int .i64 (n : Nat)].toArray 103 (0, 0))
theorem g_l2Fresh {I : Heap} {oa : Option Addr} {av : List Txt} {c : Nat} (hav : Strs I oa av c) (b n : Nat) (hn : n + av.length ≤ 900) (L : Own) :
  Fun Tryz.prog 97 [.pointer (some ⟨b, 0, none⟩)] I (rn b oa av c n :: L) (fun v I' L' => v = .string (str (nm 120 (fr 120 av n))) ∧ I = I' ∧ L' = rn b oa av c (fr 120 av n + 1) :: L) := by
 obtain ⟨f1, f2, f3⟩ := fr_facts 120 av n
 have f4 := fr_le 120 av n
 refine fun_intro (by simp) ?_
 refine Se rfl (Oa rfl (o_done (s_block ?_)))
 refine s_while (X := Nat) (fun m => fr 120 av n + 1 - m) (fun m => [(0, .pointer (some ⟨b, 0, none⟩))]) (fun _ => I) (fun m => rn b oa av c m :: L) (fun m => n ≤ m ∧ m ≤ fr 120 av n ∧ ∀ j, n ≤ j → j < m → nm 120 j ∈ av) n ⟨Nat.le_refl _, f2, fun j h1 h2 => absurd h2 (by omega)⟩ ⟨rfl, trivial⟩ (fun _ h => h) ?_
 rintro m ⟨hm1, hm2, hm3⟩ ih
 unfold rn
 have hdl := decT_len (n := m) (by omega)
 refine s_block (Se rfl (Om rfl ?_))
 refine o_nilCheck rfl .free rfl ?_
 first | refine o_fieldAddr rfl .free rfl ?_ | refine o_fieldAddr' rfl .free rfl ?_
 refine o_lJ rfl .free rfl ?_
 refine o_call rfl .free rfl (g_l6Dec _ m (Nat.lt_succ_self _) (by omega) _ _) ?_
 rintro _ _ _ _ ⟨rfl, rfl, rfl⟩
 refine o_concat rfl rfl (by first | omega | (simp only [List.length_append, List.length_cons, List.length_nil]; omega) | (simp; omega)) .free rfl ?_
 refine Oa rfl (o_done (Se rfl (Om rfl (Om rfl ?_))))
 refine o_nilCheck rfl .free rfl ?_
 first | refine o_fieldAddr rfl .free rfl ?_ | refine o_fieldAddr' rfl .free rfl ?_
 refine o_lJ rfl .free rfl ?_
 refine o_arith rfl rfl rfl (by omega) .free rfl ?_
 refine o_nilCheck rfl .free rfl ?_
 first | refine o_fieldAddr rfl .free rfl ?_ | refine o_fieldAddr' rfl .free rfl ?_
 refine o_st rfl rfl rfl rfl .free ?_
 refine o_done (Se rfl (Om rfl ?_))
 refine o_nilCheck rfl .free rfl ?_
 first | refine o_fieldAddr rfl .free rfl ?_ | refine o_fieldAddr' rfl .free rfl ?_
 refine o_lJ rfl .free rfl ?_
 refine Om rfl ?_
 refine o_call rfl .free rfl (g_l1Has (hav.rd _) c (nm 120 m)) ?_
 rintro _ _ _ _ ⟨rfl, rfl, rfl⟩
 refine o_not rfl .free rfl ?_
 refine o_done ?_
 refine s_cond rfl ?_ ?_
 ·intro c0
  try simp only [nb] at c0
  refine Se rfl (Om rfl (Oa rfl (o_done ?_)))
  refine s_ret (.tmp rfl .nil) ?_
  have hfm : fr 120 av n = m := fr_stop hm3 hm1 c0
  exact ⟨I, _, .refl _, fun _ h => h, by rw [hfm]; rfl, rfl, by rw [hfm]; rfl⟩
 intro c0
 try simp only [nb] at c0
 refine s_skip ?_
 refine s_inBlock ?_
 have hne : m ≠ fr 120 av n := fun e => f1 (e ▸ c0)
 refine s_env (E' := [(0, .pointer (some ⟨b, 0, none⟩))]) ⟨rfl, trivial⟩ (ih (m + 1) ⟨by omega, by omega, fun j h1 h2 => ?_⟩ (by omega))
 by_cases hj : j = m
 ·subst hj; exact c0
 ·exact hm3 j h1 (by omega)
theorem nm_len {n : Nat} (h : n < 1000) : (nm 120 n).length ≤ maxN := Ex.name_len (nm_name (by decide) h)
theorem d_state {P : Program} {f : FuncId} {n : Nat} {I₀ : Heap} {Q : Post} {k : List Item} {E : Env} {I : Heap} {L : Own} {ops : Array Oper} {S : World → Prop} {fuel : Nat} {listed : Array Bool} {X : Type} (fu : Nat) (ls : Array Bool) (E' : X → Env) (L' : X → Own → Own) (R : X → Prop)
  (hk : ∀ x, R x → RunW P f n I₀ Q ops S fu ls k (E' x ++ E) I (L' x L)) (h : (∀ x, R x → RunW P f n I₀ Q ops S fu ls k (E' x ++ E) I (L' x L)) → RunW P f n I₀ Q ops S fuel listed k E I L) : RunW P f n I₀ Q ops S fuel listed k E I L := h hk
section
variable {I : Heap} {A B C D L : Own} {w : World}
theorem Mem.seg2 (h : Mem I (A ++ (B ++ L)) w) : Mem I (B ++ (A ++ L)) w := h.perm (List.perm_append_comm_assoc _ _ _)
theorem Mem.seg3 (h : Mem I (A ++ (B ++ (C ++ L))) w) : Mem I (C ++ (A ++ (B ++ L))) w := h.perm ((List.Perm.append_left A (List.perm_append_comm_assoc _ _ _)).trans (List.perm_append_comm_assoc _ _ _))
theorem Mem.ins3 (h : Mem I (A ++ (B ++ (C ++ L))) w) : Mem I (B ++ (C ++ (A ++ L))) w := h.perm ((List.perm_append_comm_assoc _ _ _).trans (List.Perm.append_left B (List.perm_append_comm_assoc _ _ _)))
theorem Mem.ins4 (h : Mem I (A ++ (B ++ (C ++ (D ++ L)))) w) : Mem I (B ++ (C ++ (D ++ (A ++ L)))) w := h.perm (((List.perm_append_comm_assoc _ _ _).trans (List.Perm.append_left B (List.perm_append_comm_assoc _ _ _))).trans (List.Perm.append_left B (List.Perm.append_left C (List.perm_append_comm_assoc _ _ _))))
end
/-- What a state of many orders has. -/
structure G11 where
 b6 : Nat
 b14 : Nat
 b16 : Nat
 b20 : Nat
 B : Buf
 c : Nat
 D : Buf
 e : Nat
def PR (b : Nat) (oa : Option Addr) (av : List Txt) (c : Nat) (p : Ex × Nat) (L : Own) : Post := fun v I' L' => ∃ cs, v = .agg (List.toArray cs) ∧ Rep I' p.1.tree cs ∧ L' = rn b oa av c p.2 :: L
def PlainH (n : Nat) : Prop := ∀ {I : Heap} {e : Ex} {cs : List Value} (_ : SizeOf.sizeOf e < n) (_ : Rep I e.tree cs) (_ : e.ok = true) {f t : List Txt} {of ot : Option Addr} {cf ct : Nat} (_ : Strs I of f cf) (_ : Strs I ot t ct) (_ : f.length = t.length) (_ : f.length + 2 * e.size ≤ 100000)
  {oa : Option Addr} {av : List Txt} {c : Nat} (_ : Strs I oa av c) (b k : Nat) (_ : k + e.nb + av.length ≤ 90 + hits 120 av k) (_ : av.length ≤ 500) (L : Own),
  Fun Tryz.prog 66 [.agg cs.toArray, .slice of f.length cf, .slice ot t.length ct, .pointer (some ⟨b, 0, none⟩)] I (rn b oa av c k :: L) (PR b oa av c (e.pl av f t k) L)
set_option maxHeartbeats 2000000 in
theorem plain_bin {n : Nat} (ihn : PlainH n) {o : B5} {a b : Ex} {I : Heap} {cs : List Value} (hlt : SizeOf.sizeOf (Ex.bin o a b) < n + 1) (h : Rep I (Ex.bin o a b).tree cs) (hok : (Ex.bin o a b).ok = true) {f t : List Txt} {of ot : Option Addr} {cf ct : Nat} (hfr : Strs I of f cf) (hto : Strs I ot t ct) (hft : f.length = t.length) (hfl : f.length + 2 * (Ex.bin o a b).size ≤ 100000)
  {ov : Option Addr} {av : List Txt} {cv : Nat} (hav : Strs I ov av cv) (bp k : Nat) (hk : k + (Ex.bin o a b).nb + av.length ≤ 90 + hits 120 av k) (ha5 : av.length ≤ 500) (L : Own) :
  Fun Tryz.prog 66 [.agg cs.toArray, .slice of f.length cf, .slice ot t.length ct, .pointer (some ⟨bp, 0, none⟩)] I (rn bp ov av cv k :: L) (PR bp ov av cv ((Ex.bin o a b).pl av f t k) L) := by
 obtain ⟨oa, c, oaf, cf1, rfl, hf, hcl, hcs⟩ := h.cells
 have hle : HLe I I := .refl _
 have ha := hf.alen
 have hh0 := hits_le 120 av k
 refine fun_intro (by simp) ?_
 refine Se rfl ?_
 refine o_box rfl rfl .free rfl ?_
 intro b4
 refine o_alloc .free rfl ?_
 intro b8
 refine o_done (s_seq (Se rfl ?_))
 refine o_fieldAddr rfl .free rfl ?_
 refine o_lO1 rfl .free rfl ?_
 refine o_cmps rfl rfl rfl .free rfl ?_
 refine o_done ?_
 first | refine s_fp rfl (by simp [Ex.tree, Tree.atom]) ?_ | refine s_fn rfl (by simp [Ex.tree, Tree.atom]) ?_ | refine s_false (by simp [look, opd, *]) ?_
 refine s_skip (s_seq ?_)
 have hok0 := hok
 have hb : (Ex.bin o a b).bare = false := rfl
 have hpos : 0 < (Ex.bin o a b).tree.parts.length := by
  rw [Ex.bare_parts] at hb
  have : (Ex.bin o a b).tree.parts ≠ [] := by intro hh; rw [hh] at hb; cases hb
  exact List.length_pos_iff.2 this
 have hhd := head_at hpos
 obtain ⟨xa, rfl⟩ : ∃ xa, oa = some xa := ⟨_, some_oad hf.nil hpos⟩
 have hp := hf.len
 unfold maxN at hp
 refine o_enter rfl ?_
 refine o_lits0 .free rfl ?_
 intro b29
 refine o_fieldAddr rfl .free rfl ?_
 refine o_lO1 rfl .free rfl ?_
 refine o_append (B := some (b29, [])) (xs := []) (ys := cellsF oaf cf1 0 (Ex.bin o a b).tree.parts) (m := 0) (c := 0) (by intro kk; simp) (by rfl) rfl rfl ⟨rfl, Nat.le_refl _, rfl⟩ (fun _ h => h) (by have := hcl.length; omega) (fun a ha => by cases ha; exact (hcs _ rfl).reads) (by simp) hcl.plain hpos (by decide) (by omega) (by decide) .free rfl ?_
 intro bc sp cc hB'
 have hcc : (Ex.bin o a b).tree.parts.length ≤ cc := by have := hB'.2.1; omega
 refine o_put (t := 32) (v' := .slice (some ⟨bc, 0, none⟩) (Ex.bin o a b).tree.parts.length cc) rfl (by rw [Nat.zero_add]) ?_
 simp only [List.nil_append]
 refine o_struct rfl rfl rfl .free rfl ?_
 refine o_alloc .free rfl ?_
 intro b9
 refine o_st rfl rfl rfl rfl .free ?_
 refine o_done (Se rfl ?_)
 refine o_fieldAddr rfl .free rfl ?_
 refine o_lO1 rfl .free rfl ?_
 first | refine o_ixD rfl rfl 0 rfl .free rfl ?_ | refine o_ixP rfl rfl 0 rfl .free rfl ?_
 refine o_fieldAddr' rfl .free rfl ?_
 refine o_lIF rfl .free rfl ?_
 refine o_call rfl .free rfl (g_l2Kids ((Ex.bin o a b).tree.pt 0).atom _ _) ?_
 rw [← hhd]; rintro _ _ _ _ ⟨rfl, rfl, rfl⟩
 refine Om rfl ?_
 refine o_extract rfl rfl .free rfl ?_
 refine o_extract rfl rfl .free rfl ?_
 refine Oa rfl (Oa rfl (o_done (s_seq (s_seq ?_))))
 have hkr : kidRange (Ex.bin o a b).tree.head = (1, 3) := by cases o <;> rfl
 rw [hkr]
 have hlen : (Ex.bin o a b).tree.parts.length = 3 := rfl
 have hki := kids_bin o a b
 have hp0 : ((Ex.bin o a b).tree.pt 0).atom = o.txt := rfl
 simp only [Ex.bin.sizeOf_spec] at hlt
 simp only [Ex.ok, Bool.and_eq_true, decide_eq_true_eq] at hok
 simp only [Ex.nb] at hk
 simp only [Ex.size] at hfl
 simp only [show (Ex.bin o a b).tree.parts = [.node o.txt [], a.tree, b.tree] from rfl, cellsF, List.cons_append, List.nil_append]
 refine s_mem (fun w h => h.f4) ?_
 refine o_enter rfl ?_
 refine o_fieldAddr rfl .free rfl ?_
 refine o_lO1 rfl .free rfl ?_
 first | refine o_ixD rfl rfl 0 rfl .free rfl ?_ | refine o_ixP rfl rfl 0 rfl .free rfl ?_
 refine o_fieldAddr' rfl .free rfl ?_
 refine o_lIF rfl .free rfl ?_
 refine o_cmps rfl rfl rfl .free rfl ?_
 refine o_done ?_
 first | refine s_fp rfl (by rw [hp0]; cases o <;> decide) ?_ | refine s_fn rfl (by rw [hp0]; cases o <;> decide) ?_ | refine s_false (by simp [look, opd, *]) ?_
 refine s_skip (s_seq (Se rfl ?_))
 refine o_fieldAddr rfl .free rfl ?_
 refine o_lO1 rfl .free rfl ?_
 first | refine o_ixD rfl rfl 0 rfl .free rfl ?_ | refine o_ixP rfl rfl 0 rfl .free rfl ?_
 refine o_fieldAddr' rfl .free rfl ?_
 refine o_lIF rfl .free rfl ?_
 refine o_cmps rfl rfl rfl .free rfl ?_
 refine o_done ?_
 first | refine s_fp rfl (by rw [hp0]; cases o <;> decide) ?_ | refine s_fn rfl (by rw [hp0]; cases o <;> decide) ?_ | refine s_false (by simp [look, opd, *]) ?_
 refine s_skip (s_seq (Se rfl (Om rfl (Oa rfl (o_done (s_block ?_))))))
 refine s_loop ?_
 refine s_seq (Se rfl (Om rfl (Om rfl ?_)))
 refine o_cmp rfl rfl rfl .free rfl ?_
 refine o_done ?_
 refine s_condT rfl (by first | rfl | decide | (simp; done) | omega) ?_
 refine s_skip (s_seq (s_block ?_))
 refine s_here fun hlr => ?_
 have hpl := a.pl_hits av (f) (t) k
 refine d_tl 14 rfl rfl ?_
 refine Da 0 rfl (y_fieldAddr rfl) ?_
 refine Dt 1 [13] rfl (y_lO1 rfl) ?_
 refine Da 2 rfl (y_move rfl) ?_
 refine Da 3 rfl (y_fieldAddr rfl) ?_
 refine Dt 4 [13] rfl (y_lO1 rfl) ?_
 refine Da 5 rfl (y_move rfl) ?_
 first | refine Da 6 rfl (y_ixD rfl rfl _ rfl) ?_ | refine Da 6 rfl (y_ixP rfl rfl _ rfl) ?_
 refine Dt 7 [13] rfl (y_lIS rfl) ?_
 refine Da 8 rfl (y_move rfl) ?_
 refine Da 9 rfl (y_move rfl) ?_
 refine Da 10 rfl (y_move rfl) ?_
 refine d_call 11 rfl (by kernel_rfl) rfl rfl .free rfl (ihn (f := f) (t := t) (by omega) (hf.as 1 a.tree (by omega) rfl) hok.1 hfr hto (by simp [hft]) (by first | omega | (simp only [List.length_append, List.length_cons, List.length_nil]; omega)) hav bp _ (by omega) ha5 _) ?_
 rintro _ J2 _ e2 ⟨cs2, rfl, hr_0, rfl⟩
 obtain ⟨o2, k2, _, rfl, -⟩ := hr_0.open
 have hlr := hlr.trans e2
 have hf := hf.mono e2
 have hfr := hfr.mono e2
 have hto := hto.mono e2
 have hav := hav.mono e2
 have hle := hle.trans e2
 refine ⟨(.inr heldx), ?_⟩
 first | refine Da 12 rfl (y_ixD rfl rfl _ rfl) ?_ | refine Da 12 rfl (y_ixP rfl rfl _ rfl) ?_
 refine d_st 13 rfl (by kernel_rfl) rfl rfl rfl rfl rfl .free (.inl (by kernel_rfl)) ?_
 refine d_done (by kernel_rfl) ?_
 refine s_inBlock ?_
 refine o_enter rfl ?_
 refine Om rfl ?_
 refine o_arith rfl rfl rfl (by omega) .free rfl ?_
 refine Oa rfl (o_done ?_)
 refine s_round ?_
 refine s_seq (Se rfl (Om rfl (Om rfl ?_)))
 refine o_cmp rfl rfl rfl .free rfl ?_
 refine o_done ?_
 refine s_condT rfl (by first | rfl | decide | (simp; done) | omega) ?_
 refine s_skip (s_seq (s_block ?_))
 refine s_here fun hlr => ?_
 have hpl := b.pl_hits av (f) (t) (a.pl av (f) (t) k).2
 refine d_tl 14 rfl rfl ?_
 refine Da 0 rfl (y_fieldAddr rfl) ?_
 refine Dt 1 [13] rfl (y_lO1 rfl) ?_
 refine Da 2 rfl (y_move rfl) ?_
 refine Da 3 rfl (y_fieldAddr rfl) ?_
 refine Dt 4 [13] rfl (y_lO1 rfl) ?_
 refine Da 5 rfl (y_move rfl) ?_
 first | refine Da 6 rfl (y_ixD rfl rfl _ rfl) ?_ | refine Da 6 rfl (y_ixP rfl rfl _ rfl) ?_
 refine Dt 7 [13] rfl (y_lIS rfl) ?_
 refine Da 8 rfl (y_move rfl) ?_
 refine Da 9 rfl (y_move rfl) ?_
 refine Da 10 rfl (y_move rfl) ?_
 refine d_call 11 rfl (by kernel_rfl) rfl rfl .free rfl (ihn (f := f) (t := t) (by omega) (hf.as 2 b.tree (by omega) rfl) hok.2 hfr hto (by simp [hft]) (by first | omega | (simp only [List.length_append, List.length_cons, List.length_nil]; omega)) hav bp _ (by omega) ha5 _) ?_
 rintro _ J2 _ e2 ⟨cs2, rfl, hr_1, rfl⟩
 obtain ⟨o2, k2, _, rfl, -⟩ := hr_1.open
 have hlr := hlr.trans e2
 have hf := hf.mono e2
 have hfr := hfr.mono e2
 have hto := hto.mono e2
 have hav := hav.mono e2
 have hle := hle.trans e2
 have hr_0 := hr_0.mono e2
 refine ⟨(.inr heldx), ?_⟩
 first | refine Da 12 rfl (y_ixD rfl rfl _ rfl) ?_ | refine Da 12 rfl (y_ixP rfl rfl _ rfl) ?_
 refine d_st 13 rfl (by kernel_rfl) rfl rfl rfl rfl rfl .free (.inl (by kernel_rfl)) ?_
 refine d_done (by kernel_rfl) ?_
 refine s_inBlock ?_
 refine o_enter rfl ?_
 refine Om rfl ?_
 refine o_arith rfl rfl rfl (by omega) .free rfl ?_
 refine Oa rfl (o_done ?_)
 refine s_round ?_
 refine s_seq (Se rfl (Om rfl (Om rfl ?_)))
 refine o_cmp rfl rfl rfl .free rfl ?_
 refine o_done ?_
 refine s_condF rfl (by first | rfl | decide | (simp; done) | omega) ?_
 refine s_exit rfl ?_
 refine Se rfl ?_
 refine o_lOS rfl .free rfl ?_
 refine o_st rfl rfl rfl rfl .free ?_
 refine o_done ?_
 refine s_mem (fun w h => h.f2) (s_freeze ?_)
 intro hz
 have hf := hf.mono hz
 refine s_ret (.c rfl .nil) ?_
 exact ⟨_, _, hle.trans hz, fun w h => Mem.sub (L' := rn bp ov av cv _ :: L) (by repeat (first | exact List.Sublist.refl _ | apply List.Sublist.cons_cons | apply List.Sublist.cons)) h, _, rfl, .mk' rfl (.cons (hf.as 0 (.node o.txt []) (by omega) rfl) (.cons (hr_0.mono hz) (.cons (hr_1.mono hz) (.nil)))) (fun y hy => by cases hy; exact still_set (xs := [_, _, _, _, _, _])) (by simp) hcc (by simp [maxN]) (by simp [maxN]), rfl⟩
set_option maxHeartbeats 2000000 in
theorem plain_ite {n : Nat} (ihn : PlainH n) {a b d : Ex} {I : Heap} {cs : List Value} (hlt : SizeOf.sizeOf (Ex.ite a b d) < n + 1) (h : Rep I (Ex.ite a b d).tree cs) (hok : (Ex.ite a b d).ok = true) {f t : List Txt} {of ot : Option Addr} {cf ct : Nat} (hfr : Strs I of f cf) (hto : Strs I ot t ct) (hft : f.length = t.length) (hfl : f.length + 2 * (Ex.ite a b d).size ≤ 100000)
  {ov : Option Addr} {av : List Txt} {cv : Nat} (hav : Strs I ov av cv) (bp k : Nat) (hk : k + (Ex.ite a b d).nb + av.length ≤ 90 + hits 120 av k) (ha5 : av.length ≤ 500) (L : Own) :
  Fun Tryz.prog 66 [.agg cs.toArray, .slice of f.length cf, .slice ot t.length ct, .pointer (some ⟨bp, 0, none⟩)] I (rn bp ov av cv k :: L) (PR bp ov av cv ((Ex.ite a b d).pl av f t k) L) := by
 obtain ⟨oa, c, oaf, cf1, rfl, hf, hcl, hcs⟩ := h.cells
 have hle : HLe I I := .refl _
 have ha := hf.alen
 have hh0 := hits_le 120 av k
 refine fun_intro (by simp) ?_
 refine Se rfl ?_
 refine o_box rfl rfl .free rfl ?_
 intro b4
 refine o_alloc .free rfl ?_
 intro b8
 refine o_done (s_seq (Se rfl ?_))
 refine o_fieldAddr rfl .free rfl ?_
 refine o_lO1 rfl .free rfl ?_
 refine o_cmps rfl rfl rfl .free rfl ?_
 refine o_done ?_
 first | refine s_fp rfl (by simp [Ex.tree, Tree.atom]) ?_ | refine s_fn rfl (by simp [Ex.tree, Tree.atom]) ?_ | refine s_false (by simp [look, opd, *]) ?_
 refine s_skip (s_seq ?_)
 have hok0 := hok
 have hb : (Ex.ite a b d).bare = false := rfl
 have hpos : 0 < (Ex.ite a b d).tree.parts.length := by
  rw [Ex.bare_parts] at hb
  have : (Ex.ite a b d).tree.parts ≠ [] := by intro hh; rw [hh] at hb; cases hb
  exact List.length_pos_iff.2 this
 have hhd := head_at hpos
 obtain ⟨xa, rfl⟩ : ∃ xa, oa = some xa := ⟨_, some_oad hf.nil hpos⟩
 have hp := hf.len
 unfold maxN at hp
 refine o_enter rfl ?_
 refine o_lits0 .free rfl ?_
 intro b29
 refine o_fieldAddr rfl .free rfl ?_
 refine o_lO1 rfl .free rfl ?_
 refine o_append (B := some (b29, [])) (xs := []) (ys := cellsF oaf cf1 0 (Ex.ite a b d).tree.parts) (m := 0) (c := 0) (by intro kk; simp) (by rfl) rfl rfl ⟨rfl, Nat.le_refl _, rfl⟩ (fun _ h => h) (by have := hcl.length; omega) (fun a ha => by cases ha; exact (hcs _ rfl).reads) (by simp) hcl.plain hpos (by decide) (by omega) (by decide) .free rfl ?_
 intro bc sp cc hB'
 have hcc : (Ex.ite a b d).tree.parts.length ≤ cc := by have := hB'.2.1; omega
 refine o_put (t := 32) (v' := .slice (some ⟨bc, 0, none⟩) (Ex.ite a b d).tree.parts.length cc) rfl (by rw [Nat.zero_add]) ?_
 simp only [List.nil_append]
 refine o_struct rfl rfl rfl .free rfl ?_
 refine o_alloc .free rfl ?_
 intro b9
 refine o_st rfl rfl rfl rfl .free ?_
 refine o_done (Se rfl ?_)
 refine o_fieldAddr rfl .free rfl ?_
 refine o_lO1 rfl .free rfl ?_
 first | refine o_ixD rfl rfl 0 rfl .free rfl ?_ | refine o_ixP rfl rfl 0 rfl .free rfl ?_
 refine o_fieldAddr' rfl .free rfl ?_
 refine o_lIF rfl .free rfl ?_
 refine o_call rfl .free rfl (g_l2Kids ((Ex.ite a b d).tree.pt 0).atom _ _) ?_
 rw [← hhd]; rintro _ _ _ _ ⟨rfl, rfl, rfl⟩
 refine Om rfl ?_
 refine o_extract rfl rfl .free rfl ?_
 refine o_extract rfl rfl .free rfl ?_
 refine Oa rfl (Oa rfl (o_done (s_seq (s_seq ?_))))
 have hkr : kidRange (Ex.ite a b d).tree.head = (1, 4) := rfl
 rw [hkr]
 have hlen : (Ex.ite a b d).tree.parts.length = 4 := rfl
 have hki := kids_ite a b d
 have hp0 : ((Ex.ite a b d).tree.pt 0).atom = tIf := rfl
 simp only [Ex.ite.sizeOf_spec] at hlt
 simp only [Ex.ok, Bool.and_eq_true, decide_eq_true_eq] at hok
 simp only [Ex.nb] at hk
 simp only [Ex.size] at hfl
 simp only [show (Ex.ite a b d).tree.parts = [.node tIf [], a.tree, b.tree, d.tree] from rfl, cellsF, List.cons_append, List.nil_append]
 refine s_mem (fun w h => h.f4) ?_
 refine o_enter rfl ?_
 refine o_fieldAddr rfl .free rfl ?_
 refine o_lO1 rfl .free rfl ?_
 first | refine o_ixD rfl rfl 0 rfl .free rfl ?_ | refine o_ixP rfl rfl 0 rfl .free rfl ?_
 refine o_fieldAddr' rfl .free rfl ?_
 refine o_lIF rfl .free rfl ?_
 refine o_cmps rfl rfl rfl .free rfl ?_
 refine o_done ?_
 first | refine s_fp rfl (by rw [hp0]; decide) ?_ | refine s_fn rfl (by rw [hp0]; decide) ?_ | refine s_false (by simp [look, opd, *]) ?_
 refine s_skip (s_seq (Se rfl ?_))
 refine o_fieldAddr rfl .free rfl ?_
 refine o_lO1 rfl .free rfl ?_
 first | refine o_ixD rfl rfl 0 rfl .free rfl ?_ | refine o_ixP rfl rfl 0 rfl .free rfl ?_
 refine o_fieldAddr' rfl .free rfl ?_
 refine o_lIF rfl .free rfl ?_
 refine o_cmps rfl rfl rfl .free rfl ?_
 refine o_done ?_
 first | refine s_fp rfl (by rw [hp0]; decide) ?_ | refine s_fn rfl (by rw [hp0]; decide) ?_ | refine s_false (by simp [look, opd, *]) ?_
 refine s_skip (s_seq (Se rfl (Om rfl (Oa rfl (o_done (s_block ?_))))))
 refine s_loop ?_
 refine s_seq (Se rfl (Om rfl (Om rfl ?_)))
 refine o_cmp rfl rfl rfl .free rfl ?_
 refine o_done ?_
 refine s_condT rfl (by first | rfl | decide | (simp; done) | omega) ?_
 refine s_skip (s_seq (s_block ?_))
 refine s_here fun hlr => ?_
 have hpl := a.pl_hits av (f) (t) k
 refine d_tl 14 rfl rfl ?_
 refine Da 0 rfl (y_fieldAddr rfl) ?_
 refine Dt 1 [13] rfl (y_lO1 rfl) ?_
 refine Da 2 rfl (y_move rfl) ?_
 refine Da 3 rfl (y_fieldAddr rfl) ?_
 refine Dt 4 [13] rfl (y_lO1 rfl) ?_
 refine Da 5 rfl (y_move rfl) ?_
 first | refine Da 6 rfl (y_ixD rfl rfl _ rfl) ?_ | refine Da 6 rfl (y_ixP rfl rfl _ rfl) ?_
 refine Dt 7 [13] rfl (y_lIS rfl) ?_
 refine Da 8 rfl (y_move rfl) ?_
 refine Da 9 rfl (y_move rfl) ?_
 refine Da 10 rfl (y_move rfl) ?_
 refine d_call 11 rfl (by kernel_rfl) rfl rfl .free rfl (ihn (f := f) (t := t) (by omega) (hf.as 1 a.tree (by omega) rfl) hok.1.1 hfr hto (by simp [hft]) (by first | omega | (simp only [List.length_append, List.length_cons, List.length_nil]; omega)) hav bp _ (by omega) ha5 _) ?_
 rintro _ J2 _ e2 ⟨cs2, rfl, hr_0, rfl⟩
 obtain ⟨o2, k2, _, rfl, -⟩ := hr_0.open
 have hlr := hlr.trans e2
 have hf := hf.mono e2
 have hfr := hfr.mono e2
 have hto := hto.mono e2
 have hav := hav.mono e2
 have hle := hle.trans e2
 refine ⟨(.inr heldx), ?_⟩
 first | refine Da 12 rfl (y_ixD rfl rfl _ rfl) ?_ | refine Da 12 rfl (y_ixP rfl rfl _ rfl) ?_
 refine d_st 13 rfl (by kernel_rfl) rfl rfl rfl rfl rfl .free (.inl (by kernel_rfl)) ?_
 refine d_done (by kernel_rfl) ?_
 refine s_inBlock ?_
 refine o_enter rfl ?_
 refine Om rfl ?_
 refine o_arith rfl rfl rfl (by omega) .free rfl ?_
 refine Oa rfl (o_done ?_)
 refine s_round ?_
 refine s_seq (Se rfl (Om rfl (Om rfl ?_)))
 refine o_cmp rfl rfl rfl .free rfl ?_
 refine o_done ?_
 refine s_condT rfl (by first | rfl | decide | (simp; done) | omega) ?_
 refine s_skip (s_seq (s_block ?_))
 refine s_here fun hlr => ?_
 have hpl := b.pl_hits av (f) (t) (a.pl av (f) (t) k).2
 refine d_tl 14 rfl rfl ?_
 refine Da 0 rfl (y_fieldAddr rfl) ?_
 refine Dt 1 [13] rfl (y_lO1 rfl) ?_
 refine Da 2 rfl (y_move rfl) ?_
 refine Da 3 rfl (y_fieldAddr rfl) ?_
 refine Dt 4 [13] rfl (y_lO1 rfl) ?_
 refine Da 5 rfl (y_move rfl) ?_
 first | refine Da 6 rfl (y_ixD rfl rfl _ rfl) ?_ | refine Da 6 rfl (y_ixP rfl rfl _ rfl) ?_
 refine Dt 7 [13] rfl (y_lIS rfl) ?_
 refine Da 8 rfl (y_move rfl) ?_
 refine Da 9 rfl (y_move rfl) ?_
 refine Da 10 rfl (y_move rfl) ?_
 refine d_call 11 rfl (by kernel_rfl) rfl rfl .free rfl (ihn (f := f) (t := t) (by omega) (hf.as 2 b.tree (by omega) rfl) hok.1.2 hfr hto (by simp [hft]) (by first | omega | (simp only [List.length_append, List.length_cons, List.length_nil]; omega)) hav bp _ (by omega) ha5 _) ?_
 rintro _ J2 _ e2 ⟨cs2, rfl, hr_1, rfl⟩
 obtain ⟨o2, k2, _, rfl, -⟩ := hr_1.open
 have hlr := hlr.trans e2
 have hf := hf.mono e2
 have hfr := hfr.mono e2
 have hto := hto.mono e2
 have hav := hav.mono e2
 have hle := hle.trans e2
 have hr_0 := hr_0.mono e2
 refine ⟨(.inr heldx), ?_⟩
 first | refine Da 12 rfl (y_ixD rfl rfl _ rfl) ?_ | refine Da 12 rfl (y_ixP rfl rfl _ rfl) ?_
 refine d_st 13 rfl (by kernel_rfl) rfl rfl rfl rfl rfl .free (.inl (by kernel_rfl)) ?_
 refine d_done (by kernel_rfl) ?_
 refine s_inBlock ?_
 refine o_enter rfl ?_
 refine Om rfl ?_
 refine o_arith rfl rfl rfl (by omega) .free rfl ?_
 refine Oa rfl (o_done ?_)
 refine s_round ?_
 refine s_seq (Se rfl (Om rfl (Om rfl ?_)))
 refine o_cmp rfl rfl rfl .free rfl ?_
 refine o_done ?_
 refine s_condT rfl (by first | rfl | decide | (simp; done) | omega) ?_
 refine s_skip (s_seq (s_block ?_))
 refine s_here fun hlr => ?_
 have hpl := d.pl_hits av (f) (t) (b.pl av (f) (t) (a.pl av (f) (t) k).2).2
 refine d_tl 14 rfl rfl ?_
 refine Da 0 rfl (y_fieldAddr rfl) ?_
 refine Dt 1 [13] rfl (y_lO1 rfl) ?_
 refine Da 2 rfl (y_move rfl) ?_
 refine Da 3 rfl (y_fieldAddr rfl) ?_
 refine Dt 4 [13] rfl (y_lO1 rfl) ?_
 refine Da 5 rfl (y_move rfl) ?_
 first | refine Da 6 rfl (y_ixD rfl rfl _ rfl) ?_ | refine Da 6 rfl (y_ixP rfl rfl _ rfl) ?_
 refine Dt 7 [13] rfl (y_lIS rfl) ?_
 refine Da 8 rfl (y_move rfl) ?_
 refine Da 9 rfl (y_move rfl) ?_
 refine Da 10 rfl (y_move rfl) ?_
 refine d_call 11 rfl (by kernel_rfl) rfl rfl .free rfl (ihn (f := f) (t := t) (by omega) (hf.as 3 d.tree (by omega) rfl) hok.2 hfr hto (by simp [hft]) (by first | omega | (simp only [List.length_append, List.length_cons, List.length_nil]; omega)) hav bp _ (by omega) ha5 _) ?_
 rintro _ J2 _ e2 ⟨cs2, rfl, hr_2, rfl⟩
 obtain ⟨o2, k2, _, rfl, -⟩ := hr_2.open
 have hlr := hlr.trans e2
 have hf := hf.mono e2
 have hfr := hfr.mono e2
 have hto := hto.mono e2
 have hav := hav.mono e2
 have hle := hle.trans e2
 have hr_0 := hr_0.mono e2
 have hr_1 := hr_1.mono e2
 refine ⟨(.inr heldx), ?_⟩
 first | refine Da 12 rfl (y_ixD rfl rfl _ rfl) ?_ | refine Da 12 rfl (y_ixP rfl rfl _ rfl) ?_
 refine d_st 13 rfl (by kernel_rfl) rfl rfl rfl rfl rfl .free (.inl (by kernel_rfl)) ?_
 refine d_done (by kernel_rfl) ?_
 refine s_inBlock ?_
 refine o_enter rfl ?_
 refine Om rfl ?_
 refine o_arith rfl rfl rfl (by omega) .free rfl ?_
 refine Oa rfl (o_done ?_)
 refine s_round ?_
 refine s_seq (Se rfl (Om rfl (Om rfl ?_)))
 refine o_cmp rfl rfl rfl .free rfl ?_
 refine o_done ?_
 refine s_condF rfl (by first | rfl | decide | (simp; done) | omega) ?_
 refine s_exit rfl ?_
 refine Se rfl ?_
 refine o_lOS rfl .free rfl ?_
 refine o_st rfl rfl rfl rfl .free ?_
 refine o_done ?_
 refine s_mem (fun w h => h.f2) (s_freeze ?_)
 intro hz
 have hf := hf.mono hz
 refine s_ret (.c rfl .nil) ?_
 exact ⟨_, _, hle.trans hz, fun w h => Mem.sub (L' := rn bp ov av cv _ :: L) (by repeat (first | exact List.Sublist.refl _ | apply List.Sublist.cons_cons | apply List.Sublist.cons)) h, _, rfl, .mk' rfl (.cons (hf.as 0 (.node tIf []) (by omega) rfl) (.cons (hr_0.mono hz) (.cons (hr_1.mono hz) (.cons (hr_2.mono hz) (.nil))))) (fun y hy => by cases hy; exact still_set (xs := [_, _, _, _, _, _, _, _])) (by simp) hcc (by simp [maxN]) (by simp [maxN]), rfl⟩
set_option maxHeartbeats 2000000 in
theorem plain_lt {n : Nat} (ihn : PlainH n) {z : Txt} {a b : Ex} {I : Heap} {cs : List Value} (hlt : SizeOf.sizeOf (Ex.lt z a b) < n + 1) (h : Rep I (Ex.lt z a b).tree cs) (hok : (Ex.lt z a b).ok = true) {f t : List Txt} {of ot : Option Addr} {cf ct : Nat} (hfr : Strs I of f cf) (hto : Strs I ot t ct) (hft : f.length = t.length) (hfl : f.length + 2 * (Ex.lt z a b).size ≤ 100000)
  {ov : Option Addr} {av : List Txt} {cv : Nat} (hav : Strs I ov av cv) (bp k : Nat) (hk : k + (Ex.lt z a b).nb + av.length ≤ 90 + hits 120 av k) (ha5 : av.length ≤ 500) (L : Own) :
  Fun Tryz.prog 66 [.agg cs.toArray, .slice of f.length cf, .slice ot t.length ct, .pointer (some ⟨bp, 0, none⟩)] I (rn bp ov av cv k :: L) (PR bp ov av cv ((Ex.lt z a b).pl av f t k) L) := by
 obtain ⟨oa, c, oaf, cf1, rfl, hf, hcl, hcs⟩ := h.cells
 have hle : HLe I I := .refl _
 have ha := hf.alen
 have hh0 := hits_le 120 av k
 refine fun_intro (by simp) ?_
 refine Se rfl ?_
 refine o_box rfl rfl .free rfl ?_
 intro b4
 refine o_alloc .free rfl ?_
 intro b8
 refine o_done (s_seq (Se rfl ?_))
 refine o_fieldAddr rfl .free rfl ?_
 refine o_lO1 rfl .free rfl ?_
 refine o_cmps rfl rfl rfl .free rfl ?_
 refine o_done ?_
 first | refine s_fp rfl (by simp [Ex.tree, Tree.atom]) ?_ | refine s_fn rfl (by simp [Ex.tree, Tree.atom]) ?_ | refine s_false (by simp [look, opd, *]) ?_
 refine s_skip (s_seq ?_)
 have hok0 := hok
 have hb : (Ex.lt z a b).bare = false := rfl
 have hpos : 0 < (Ex.lt z a b).tree.parts.length := by
  rw [Ex.bare_parts] at hb
  have : (Ex.lt z a b).tree.parts ≠ [] := by intro hh; rw [hh] at hb; cases hb
  exact List.length_pos_iff.2 this
 have hhd := head_at hpos
 obtain ⟨xa, rfl⟩ : ∃ xa, oa = some xa := ⟨_, some_oad hf.nil hpos⟩
 have hp := hf.len
 unfold maxN at hp
 refine o_enter rfl ?_
 refine o_lits0 .free rfl ?_
 intro b29
 refine o_fieldAddr rfl .free rfl ?_
 refine o_lO1 rfl .free rfl ?_
 refine o_append (B := some (b29, [])) (xs := []) (ys := cellsF oaf cf1 0 (Ex.lt z a b).tree.parts) (m := 0) (c := 0) (by intro kk; simp) (by rfl) rfl rfl ⟨rfl, Nat.le_refl _, rfl⟩ (fun _ h => h) (by have := hcl.length; omega) (fun a ha => by cases ha; exact (hcs _ rfl).reads) (by simp) hcl.plain hpos (by decide) (by omega) (by decide) .free rfl ?_
 intro bc sp cc hB'
 have hcc : (Ex.lt z a b).tree.parts.length ≤ cc := by have := hB'.2.1; omega
 refine o_put (t := 32) (v' := .slice (some ⟨bc, 0, none⟩) (Ex.lt z a b).tree.parts.length cc) rfl (by rw [Nat.zero_add]) ?_
 simp only [List.nil_append]
 refine o_struct rfl rfl rfl .free rfl ?_
 refine o_alloc .free rfl ?_
 intro b9
 refine o_st rfl rfl rfl rfl .free ?_
 refine o_done (Se rfl ?_)
 refine o_fieldAddr rfl .free rfl ?_
 refine o_lO1 rfl .free rfl ?_
 first | refine o_ixD rfl rfl 0 rfl .free rfl ?_ | refine o_ixP rfl rfl 0 rfl .free rfl ?_
 refine o_fieldAddr' rfl .free rfl ?_
 refine o_lIF rfl .free rfl ?_
 refine o_call rfl .free rfl (g_l2Kids ((Ex.lt z a b).tree.pt 0).atom _ _) ?_
 rw [← hhd]; rintro _ _ _ _ ⟨rfl, rfl, rfl⟩
 refine Om rfl ?_
 refine o_extract rfl rfl .free rfl ?_
 refine o_extract rfl rfl .free rfl ?_
 refine Oa rfl (Oa rfl (o_done (s_seq (s_seq ?_))))
 have hkr : kidRange (Ex.lt z a b).tree.head = (2, 4) := rfl
 rw [hkr]
 have hlen : (Ex.lt z a b).tree.parts.length = 4 := rfl
 have hki := kids_lt' z a b
 have hp0 : ((Ex.lt z a b).tree.pt 0).atom = tLet := rfl
 simp only [Ex.lt.sizeOf_spec] at hlt
 simp only [Ex.ok, Bool.and_eq_true, decide_eq_true_eq] at hok
 simp only [Ex.nb] at hk
 simp only [Ex.size] at hfl
 simp only [show (Ex.lt z a b).tree.parts = [.node tLet [], .node z [], a.tree, b.tree] from rfl, cellsF, List.cons_append, List.nil_append]
 refine s_mem (fun w h => h.f4) ?_
 refine o_enter rfl ?_
 refine o_fieldAddr rfl .free rfl ?_
 refine o_lO1 rfl .free rfl ?_
 first | refine o_ixD rfl rfl 0 rfl .free rfl ?_ | refine o_ixP rfl rfl 0 rfl .free rfl ?_
 refine o_fieldAddr' rfl .free rfl ?_
 refine o_lIF rfl .free rfl ?_
 refine o_cmps rfl rfl rfl .free rfl ?_
 refine o_done ?_
 first | refine s_tp rfl (by rw [hp0]; rfl) ?_ | refine s_tn rfl (by rw [hp0]; rfl) ?_ | refine s_true (by simp [look, opd, *]) ?_
 refine s_seq ?_
 obtain ⟨x1, x2, x3⟩ := fr_facts 120 av k
 have x4 := fr_hits_succ 120 av k
 have x5 := hits_le 120 av (fr 120 av k)
 have x6 := hits_le 120 av (fr 120 av k + 1)
 have hzl := Ex.name_len hok.1.1
 refine o_enter rfl ?_
 refine Om rfl ?_
 refine o_call rfl .free rfl (g_l2Fresh hav bp k (by omega) _) ?_
 rintro _ _ _ _ ⟨rfl, rfl, rfl⟩
 have hnl1 := nm_len (n := fr 120 av k) (by omega)
 generalize hn1e : nm 120 (fr 120 av k) = n1 at hnl1 ⊢
 refine Oa rfl (o_done (s_seq ?_))
 refine d_all 6 rfl rfl ?_
 refine Da 0 rfl (y_fieldAddr rfl) ?_
 refine Dt 1 [5] rfl (y_lO1 rfl) ?_
 refine Da 2 rfl (y_move rfl) ?_
 refine d_call 3 rfl (by kernel_rfl) rfl rfl .free rfl (g_l1Atom n1 _ _) ?_
 rintro _ _ _ _ ⟨rfl, rfl, rfl⟩
 refine ⟨(.inr heldx), ?_⟩
 first | refine Da 4 rfl (y_ixD rfl rfl 1 rfl) ?_ | refine Da 4 rfl (y_ixP rfl rfl 1 rfl) ?_
 refine d_st 5 rfl (by kernel_rfl) rfl rfl rfl rfl rfl .free (.inl (by kernel_rfl)) ?_
 refine d_done (by kernel_rfl) ?_
 refine s_seq ?_
 refine s_here fun hlr => ?_
 have hpl := a.pl_hits av f t (fr 120 av k + 1)
 refine d_tl 12 rfl rfl ?_
 refine Da 0 rfl (y_fieldAddr rfl) ?_
 refine Dt 1 [11] rfl (y_lO1 rfl) ?_
 refine Da 2 rfl (y_fieldAddr rfl) ?_
 refine Dt 3 [11] rfl (y_lO1 rfl) ?_
 first | refine Da 4 rfl (y_ixD rfl rfl 2 rfl) ?_ | refine Da 4 rfl (y_ixP rfl rfl 2 rfl) ?_
 refine Dt 5 [11] rfl (y_lIS rfl) ?_
 refine Da 6 rfl (y_move rfl) ?_
 refine Da 7 rfl (y_move rfl) ?_
 refine Da 8 rfl (y_move rfl) ?_
 refine d_call 9 rfl (by kernel_rfl) rfl rfl .free rfl (ihn (f := f) (t := t) (by omega) (hf.as 2 a.tree (by omega) rfl) hok.1.2 hfr hto hft (by omega) hav bp _ (by omega) ha5 _) ?_
 rintro _ J2 _ e2 ⟨cs2, rfl, hr_0, rfl⟩
 obtain ⟨o2, k2, _, rfl, -⟩ := hr_0.open
 have hlr := hlr.trans e2
 have hf := hf.mono e2
 have hfr := hfr.mono e2
 have hto := hto.mono e2
 have hav := hav.mono e2
 have hle := hle.trans e2
 refine ⟨(.inr heldx), ?_⟩
 first | refine Da 10 rfl (y_ixD rfl rfl 2 rfl) ?_ | refine Da 10 rfl (y_ixP rfl rfl 2 rfl) ?_
 refine d_st 11 rfl (by kernel_rfl) rfl rfl rfl rfl rfl .free (.inl (by kernel_rfl)) ?_
 refine d_done (by kernel_rfl) ?_
 refine s_seq ?_
 refine s_here fun hlr => ?_
 refine d_tl 26 rfl rfl ?_
 refine Da 0 rfl (y_fieldAddr rfl) ?_
 refine Dt 1 [25] rfl (y_lO1 rfl) ?_
 refine Da 2 rfl (y_fieldAddr rfl) ?_
 refine Dt 3 [25] rfl (y_lO1 rfl) ?_
 first | refine Da 4 rfl (y_ixD rfl rfl 3 rfl) ?_ | refine Da 4 rfl (y_ixP rfl rfl 3 rfl) ?_
 refine Dt 5 [25] rfl (y_lIS rfl) ?_
 refine Da 7 rfl (y_move rfl) ?_
 refine Da 9 rfl (y_fieldAddr rfl) ?_
 refine Dt 10 [25] rfl (y_lO1 rfl) ?_
 first | refine Da 11 rfl (y_ixD rfl rfl 1 rfl) ?_ | refine Da 11 rfl (y_ixP rfl rfl 1 rfl) ?_
 refine Da 12 rfl (y_fieldAddr' rfl) ?_
 refine Dt 13 [25] rfl (y_lIF rfl) ?_
 refine Da 17 rfl (y_move rfl) ?_
 refine Da 19 rfl (y_move rfl) ?_
 refine Da 22 rfl (y_move rfl) ?_
 refine d_env (E' := [(8, _), (9, _), (68, _), (72, _), (74, _), (80, _), (84, _), (86, _), (89, _)]) ⟨rfl, rfl, rfl, rfl, rfl, rfl, rfl, rfl, rfl, trivial⟩ ?_
 refine d_state (X := G11) 3 #[true, true, true, true, true, true, true, true, true, true, true, true, true, true, true, true, true, true, true, true, true, true, true, false, false, false] (fun x => [(82, bufVal (0 + f.length + 1) x.c x.B), (88, bufVal (0 + t.length + 1) x.e x.D)]) (fun x L => bufOwn 9 ([] ++ f.map sv ++ [sv z]) x.B ++ ([(x.b14, .cells [sv z].toArray 9 (0, 0))] ++ (bufOwn 9 ([] ++ t.map sv ++ [sv n1]) x.D ++ ([(x.b20, .cells [sv n1].toArray 9 (0, 0))] ++ L)))) (fun x => BufOk 1 (0 + f.length + 1) x.c ([] ++ f.map sv ++ [sv z]) x.B ∧ BufOk 1 (0 + t.length + 1) x.e ([] ++ t.map sv ++ [sv n1]) x.D) ?_ ?_
 ·rintro ⟨b6, b14, b16, b20, B2, c2, B4, c4⟩ ⟨hB2, hB4⟩
  simp only at hB2 hB4
  rw [show [] ++ f.map sv ++ [sv z] = (f ++ [z]).map sv by simp] at hB2
  rw [show [] ++ t.map sv ++ [sv n1] = (t ++ [n1]).map sv by simp] at hB4
  refine d_mem (L' := bufOwn 9 ((f ++ [z]).map sv) B2 ++ ([(b14, .cells [sv z].toArray 9 (0, 0))] ++ (bufOwn 9 ((t ++ [n1]).map sv) B4 ++ ([(b20, .cells [sv n1].toArray 9 (0, 0))] ++ _)))) (fun w h => by rw [show (f ++ [z]).map sv = [] ++ f.map sv ++ [sv z] by simp, show (t ++ [n1]).map sv = [] ++ t.map sv ++ [sv n1] by simp]; exact h) ?_
  refine d_freezeStrs hB2 (by simp) (by simp [maxN]; omega) (by intro s hs; rcases List.mem_append.1 hs with hs | hs; exact hfr.each s hs; rw [List.mem_singleton.1 hs]; exact hzl) ?_
  intro J3 o3 k3 ez hbv hs3
  refine d_put (t := 82) rfl hbv ?_
  have hlr := hlr.trans ez
  have hf := hf.mono ez
  have hfr := hfr.mono ez
  have hto := hto.mono ez
  have hav := hav.mono ez
  have hle := hle.trans ez
  have hr_0 := hr_0.mono ez
  refine d_mem (fun w h => Mem.seg2 (A := [(b14, _)]) h) ?_
  refine d_freezeStrs hB4 (by simp) (by simp [maxN]; omega) (by intro s hs; rcases List.mem_append.1 hs with hs | hs; exact hto.each s hs; rw [List.mem_singleton.1 hs]; exact hnl1) ?_
  intro J4 o4 k4 ey hbv4 hs4
  refine d_put (t := 88) rfl hbv4 ?_
  have hs3 := hs3.mono ey
  have hlr := hlr.trans ey
  have hf := hf.mono ey
  have hfr := hfr.mono ey
  have hto := hto.mono ey
  have hav := hav.mono ey
  have hle := hle.trans ey
  have hr_0 := hr_0.mono ey
  refine d_mem (fun w h => h.drop.drop) ?_
  refine d_call 23 rfl (by kernel_rfl) rfl rfl .free rfl (ihn (f := f ++ [z]) (t := t ++ [n1]) (by omega) (hf.as 3 b.tree (by omega) rfl) hok.2 hs3 hs4 (by simp [hft]) (by simp only [List.length_append, List.length_cons, List.length_nil]; omega) hav bp _ (by omega) ha5 _) ?_
  rintro _ J5 _ e5 ⟨cs5, rfl, hr_1, rfl⟩
  obtain ⟨o5, k5, _, rfl, -⟩ := hr_1.open
  have hlr := hlr.trans e5
  have hf := hf.mono e5
  have hfr := hfr.mono e5
  have hto := hto.mono e5
  have hav := hav.mono e5
  have hle := hle.trans e5
  have hr_0 := hr_0.mono e5
  refine ⟨(.inr heldx), ?_⟩
  first | refine Da 24 rfl (y_ixD rfl rfl 3 rfl) ?_ | refine Da 24 rfl (y_ixP rfl rfl 3 rfl) ?_
  refine d_st 25 rfl (by kernel_rfl) rfl rfl rfl rfl rfl .free (.inl (by kernel_rfl)) ?_
  refine d_done (by kernel_rfl) ?_
  refine Se rfl ?_
  refine o_lOS rfl .free rfl ?_
  refine o_st rfl rfl rfl rfl .free ?_
  refine o_done ?_
  refine s_mem (fun w h => h.f2) (s_freeze ?_)
  intro hz
  have hf := hf.mono hz
  refine s_ret (.c rfl .nil) ?_
  subst hn1e
  exact ⟨_, _, hle.trans hz, fun w h => Mem.sub (L' := rn bp ov av cv _ :: L) (by repeat (first | exact List.Sublist.refl _ | apply List.Sublist.cons_cons | apply List.Sublist.cons)) h, _, rfl, .mk' rfl (.cons (hf.as 0 (.node tLet []) (by omega) rfl) (.cons (.ofAtom hnl1) (.cons (hr_0.mono hz) (.cons (hr_1.mono hz) .nil)))) (fun y hy => by cases hy; exact still_set (xs := [_, _, _, _, _, _, _, _])) (by simp) hcc (by simp [maxN]) (by simp [maxN]), rfl⟩
 ·intro k5111
  refine d_state (X := G11) 4 #[true, true, true, true, true, true, true, true, true, true, true, true, true, true, true, true, true, true, true, true, true, false, true, false, false, false] (fun x => [(82, bufVal (0 + f.length + 1) x.c x.B), (85, bufVal (0 + t.length) x.e x.D), (87, .slice (some ⟨x.b20, 0, none⟩) 1 1)]) (fun x L => bufOwn 9 ([] ++ f.map sv ++ [sv z]) x.B ++ ([(x.b14, .cells [sv z].toArray 9 (0, 0))] ++ (bufOwn 9 ([] ++ t.map sv) x.D ++ ([(x.b20, .cells [sv n1].toArray 9 (0, 0))] ++ L)))) (fun x => BufOk 1 (0 + f.length + 1) x.c ([] ++ f.map sv ++ [sv z]) x.B ∧ BufOk 1 (0 + t.length) x.e ([] ++ t.map sv) x.D) ?_ ?_
  ·rintro ⟨b6, b14, b16, b20, B, c, D, e⟩ ⟨h1, h2⟩
   try simp only at h1
   try simp only at h2
   refine d_appendB 21 (B := D) (xs := [] ++ t.map sv) (ys := [sv n1]) (m := 0 + t.length) (c := e) rfl (by kernel_rfl) rfl (by intro kk; simp) (by rfl) rfl rfl h2 (fun _ h => Mem.seg3 (B := [(b14, _)]) h) (by rfl) (fun a ha => by cases ha; exact reads_ownL (List.mem_append_right _ (List.mem_append_right _ (List.mem_append_left _ (List.mem_singleton.2 rfl)))) (by rfl)) (by simp) (by rfl) (by decide) (by omega) (by decide) .free rfl (fun _ => .inr heldx) ?_
   intro D e h2
   refine d_mem (fun w h => Mem.ins3 (A := bufOwn _ _ D) (B := bufOwn _ _ B) (C := [(b14, _)]) h) (d_env ?_ (k5111 ⟨b6, b14, b16, b20, B, c, D, e⟩ ⟨h1, h2⟩))
   exact ⟨rfl, rfl, rfl, rfl, rfl, rfl, rfl, rfl, rfl, rfl, rfl, trivial⟩
  ·intro k4111
   refine d_state (X := G11) 5 #[true, true, true, true, true, true, true, true, true, true, true, true, true, true, true, true, true, true, false, true, true, false, true, false, false, false] (fun x => [(82, bufVal (0 + f.length + 1) x.c x.B), (83, .slice (some ⟨x.b16, 0, none⟩) 0 0), (87, .slice (some ⟨x.b20, 0, none⟩) 1 1)]) (fun x L => bufOwn 9 ([] ++ f.map sv ++ [sv z]) x.B ++ ([(x.b14, .cells [sv z].toArray 9 (0, 0))] ++ ([(x.b16, .cells [].toArray 9 (0, 0))] ++ ([(x.b20, .cells [sv n1].toArray 9 (0, 0))] ++ L)))) (fun x => BufOk 1 (0 + f.length + 1) x.c ([] ++ f.map sv ++ [sv z]) x.B) ?_ ?_
   ·rintro ⟨b6, b14, b16, b20, B, c, D, e⟩ h1
    try simp only at h1
    refine d_appendB 18 (B := some (b16, [])) (xs := []) (ys := t.map sv) (m := 0) (c := 0) rfl (by kernel_rfl) rfl (by intro kk; simp) (by rfl) rfl rfl ⟨rfl, Nat.le_refl _, rfl⟩ (fun _ h => Mem.seg3 (B := [(b14, _)]) (C := [(b16, _)]) h) (by simp) hto.reads hto.none (sv_plain t) (by decide) (by omega) (by decide) .free rfl (fun _ => .inr heldx) ?_
    intro D e h2
    refine d_mem (fun w h => Mem.ins3 (A := bufOwn _ _ D) (B := bufOwn _ _ B) (C := [(b14, _)]) h) (d_env ?_ (k4111 ⟨b6, b14, b16, b20, B, c, D, e⟩ ⟨h1, h2⟩))
    exact ⟨rfl, rfl, rfl, rfl, rfl, rfl, rfl, rfl, rfl, rfl, rfl, rfl, trivial⟩
   ·intro k3111
    refine d_state (X := G11) 5 #[true, true, true, true, true, true, true, true, true, true, true, true, true, true, true, true, true, true, true, true, false, false, true, false, false, false] (fun x => [(82, bufVal (0 + f.length + 1) x.c x.B), (85, bufVal (0 + t.length) x.e x.D)]) (fun x L => bufOwn 9 ([] ++ f.map sv ++ [sv z]) x.B ++ ([(x.b14, .cells [sv z].toArray 9 (0, 0))] ++ (bufOwn 9 ([] ++ t.map sv) x.D ++ ([] ++ L)))) (fun x => BufOk 1 (0 + f.length + 1) x.c ([] ++ f.map sv ++ [sv z]) x.B ∧ BufOk 1 (0 + t.length) x.e ([] ++ t.map sv) x.D) ?_ ?_
    ·rintro ⟨b6, b14, b16, b20, B, c, D, e⟩ ⟨h1, h2⟩
     try simp only at h1
     try simp only at h2
     refine d_lits 20 rfl (by kernel_rfl) rfl rfl rfl (by rfl) (by rfl) (by rfl) (by decide) (by decide) (by rfl) .free rfl (.inr heldx) ?_
     intro b20
     refine d_mem (fun w h => Mem.ins4 (A := [(b20, _)]) (B := bufOwn _ _ B) (C := [(b14, _)]) (D := bufOwn _ _ D) h) (d_env ?_ (k4111 ⟨b6, b14, b16, b20, B, c, D, e⟩ ⟨h1, h2⟩))
     exact ⟨rfl, rfl, rfl, rfl, rfl, rfl, rfl, rfl, rfl, rfl, rfl, rfl, trivial⟩
    ·intro k4110
     refine d_state (X := G11) 6 #[true, true, true, true, true, true, true, true, true, true, true, true, true, true, true, false, true, true, false, true, true, false, true, false, false, false] (fun x => [(75, bufVal (0 + f.length) x.c x.B), (81, .slice (some ⟨x.b14, 0, none⟩) 1 1), (83, .slice (some ⟨x.b16, 0, none⟩) 0 0), (87, .slice (some ⟨x.b20, 0, none⟩) 1 1)]) (fun x L => bufOwn 9 ([] ++ f.map sv) x.B ++ ([(x.b14, .cells [sv z].toArray 9 (0, 0))] ++ ([(x.b16, .cells [].toArray 9 (0, 0))] ++ ([(x.b20, .cells [sv n1].toArray 9 (0, 0))] ++ L)))) (fun x => BufOk 1 (0 + f.length) x.c ([] ++ f.map sv) x.B) ?_ ?_
     ·rintro ⟨b6, b14, b16, b20, B, c, D, e⟩ h1
      try simp only at h1
      refine d_appendB 15 (B := B) (xs := [] ++ f.map sv) (ys := [sv z]) (m := 0 + f.length) (c := c) rfl (by kernel_rfl) rfl (by intro kk; simp) (by rfl) rfl rfl h1 (fun _ h => h) (by rfl) (fun a ha => by cases ha; exact reads_ownL (List.mem_append_left _ (List.mem_singleton.2 rfl)) (by rfl)) (by simp) (by rfl) (by decide) (by omega) (by decide) .free rfl (fun _ => .inr heldx) ?_
      intro B c h1
      refine d_mem (fun w h => h) (d_env ?_ (k3111 ⟨b6, b14, b16, b20, B, c, D, e⟩ h1))
      exact ⟨rfl, rfl, rfl, rfl, rfl, rfl, rfl, rfl, rfl, rfl, rfl, rfl, trivial⟩
     ·intro k2111
      refine d_state (X := G11) 6 #[true, true, true, true, true, true, true, true, true, true, true, true, true, true, true, true, false, true, false, true, true, false, true, false, false, false] (fun x => [(82, bufVal (0 + f.length + 1) x.c x.B), (87, .slice (some ⟨x.b20, 0, none⟩) 1 1)]) (fun x L => bufOwn 9 ([] ++ f.map sv ++ [sv z]) x.B ++ ([(x.b14, .cells [sv z].toArray 9 (0, 0))] ++ ([] ++ ([(x.b20, .cells [sv n1].toArray 9 (0, 0))] ++ L)))) (fun x => BufOk 1 (0 + f.length + 1) x.c ([] ++ f.map sv ++ [sv z]) x.B) ?_ ?_
      ·rintro ⟨b6, b14, b16, b20, B, c, D, e⟩ h1
       try simp only at h1
       refine d_lits0 16 rfl (by kernel_rfl) rfl .free rfl (.inr heldx) ?_
       intro b16
       refine d_mem (fun w h => Mem.ins3 (A := [(b16, _)]) (B := bufOwn _ _ B) (C := [(b14, _)]) h) (d_env ?_ (k3111 ⟨b6, b14, b16, b20, B, c, D, e⟩ h1))
       exact ⟨rfl, rfl, rfl, rfl, rfl, rfl, rfl, rfl, rfl, rfl, rfl, rfl, trivial⟩
      ·intro k3101
       refine d_state (X := G11) 6 #[true, true, true, true, true, true, true, true, true, true, true, true, true, true, true, true, true, true, false, true, false, false, true, false, false, false] (fun x => [(82, bufVal (0 + f.length + 1) x.c x.B), (83, .slice (some ⟨x.b16, 0, none⟩) 0 0)]) (fun x L => bufOwn 9 ([] ++ f.map sv ++ [sv z]) x.B ++ ([(x.b14, .cells [sv z].toArray 9 (0, 0))] ++ ([(x.b16, .cells [].toArray 9 (0, 0))] ++ ([] ++ L)))) (fun x => BufOk 1 (0 + f.length + 1) x.c ([] ++ f.map sv ++ [sv z]) x.B) ?_ ?_
       ·rintro ⟨b6, b14, b16, b20, B, c, D, e⟩ h1
        try simp only at h1
        refine d_two 18 20 (by kernel_rfl) ?_ ?_
        ·skip
         refine i_appendB 18 (B := some (b16, [])) (xs := []) (ys := t.map sv) (m := 0) (c := 0) rfl rfl (by intro kk; simp) (by rfl) rfl rfl ⟨rfl, Nat.le_refl _, rfl⟩ (fun _ h => Mem.seg3 (B := [(b14, _)]) (C := [(b16, _)]) h) (by simp) hto.reads hto.none (sv_plain t) (by decide) (by omega) (by decide) .free rfl (fun _ => .inr heldx) ?_
         intro D e h2
         refine d_mem (fun w h => Mem.ins3 (A := bufOwn _ _ D) (B := bufOwn _ _ B) (C := [(b14, _)]) h) (d_env ?_ (k4110 ⟨b6, b14, b16, b20, B, c, D, e⟩ ⟨h1, h2⟩))
         exact ⟨rfl, rfl, rfl, rfl, rfl, rfl, rfl, rfl, rfl, rfl, rfl, trivial⟩
        ·skip
         refine i_lits 20 rfl rfl rfl rfl (by rfl) (by rfl) (by rfl) (by decide) (by decide) (by rfl) .free rfl (.inr heldx) ?_
         intro b20
         refine d_mem (fun w h => Mem.ins4 (A := [(b20, _)]) (B := bufOwn _ _ B) (C := [(b14, _)]) (D := [(b16, _)]) h) (d_env ?_ (k3111 ⟨b6, b14, b16, b20, B, c, D, e⟩ h1))
         exact ⟨rfl, rfl, rfl, rfl, rfl, rfl, rfl, rfl, rfl, rfl, rfl, rfl, trivial⟩
       ·intro k3110
        refine d_state (X := G11) 7 #[true, true, true, true, true, true, true, true, false, true, true, true, true, true, true, false, true, true, false, true, true, false, true, false, false, false] (fun x => [(73, .slice (some ⟨x.b6, 0, none⟩) 0 0), (81, .slice (some ⟨x.b14, 0, none⟩) 1 1), (83, .slice (some ⟨x.b16, 0, none⟩) 0 0), (87, .slice (some ⟨x.b20, 0, none⟩) 1 1)]) (fun x L => [(x.b6, .cells [].toArray 9 (0, 0))] ++ ([(x.b14, .cells [sv z].toArray 9 (0, 0))] ++ ([(x.b16, .cells [].toArray 9 (0, 0))] ++ ([(x.b20, .cells [sv n1].toArray 9 (0, 0))] ++ L)))) (fun x => True) ?_ ?_
        ·rintro ⟨b6, b14, b16, b20, B, c, D, e⟩ h1
         try simp only at h1
         refine d_appendB 8 (B := some (b6, [])) (xs := []) (ys := f.map sv) (m := 0) (c := 0) rfl (by kernel_rfl) rfl (by intro kk; simp) (by rfl) rfl rfl ⟨rfl, Nat.le_refl _, rfl⟩ (fun _ h => h) (by simp) hfr.reads hfr.none (sv_plain f) (by decide) (by omega) (by decide) .free rfl (fun _ => .inr heldx) ?_
         intro B c h1
         refine d_mem (fun w h => h) (d_env ?_ (k2111 ⟨b6, b14, b16, b20, B, c, D, e⟩ h1))
         exact ⟨rfl, rfl, rfl, rfl, rfl, rfl, rfl, rfl, rfl, rfl, rfl, rfl, rfl, trivial⟩
        ·intro k1111
         refine d_state (X := G11) 7 #[true, true, true, true, true, true, true, true, true, true, true, true, true, true, false, false, true, true, false, true, true, false, true, false, false, false] (fun x => [(75, bufVal (0 + f.length) x.c x.B), (83, .slice (some ⟨x.b16, 0, none⟩) 0 0), (87, .slice (some ⟨x.b20, 0, none⟩) 1 1)]) (fun x L => bufOwn 9 ([] ++ f.map sv) x.B ++ ([] ++ ([(x.b16, .cells [].toArray 9 (0, 0))] ++ ([(x.b20, .cells [sv n1].toArray 9 (0, 0))] ++ L)))) (fun x => BufOk 1 (0 + f.length) x.c ([] ++ f.map sv) x.B) ?_ ?_
         ·rintro ⟨b6, b14, b16, b20, B, c, D, e⟩ h1
          try simp only at h1
          refine d_lits 14 rfl (by kernel_rfl) rfl rfl rfl (by rfl) (by rfl) (by rfl) (by decide) (by decide) (by rfl) .free rfl (.inr heldx) ?_
          intro b14
          refine d_mem (fun w h => Mem.seg2 (A := [(b14, _)]) (B := bufOwn _ _ B) h) (d_env ?_ (k2111 ⟨b6, b14, b16, b20, B, c, D, e⟩ h1))
          exact ⟨rfl, rfl, rfl, rfl, rfl, rfl, rfl, rfl, rfl, rfl, rfl, rfl, rfl, trivial⟩
         ·intro k2011
          refine d_state (X := G11) 7 #[true, true, true, true, true, true, true, true, true, true, true, true, true, true, true, false, false, true, false, true, true, false, true, false, false, false] (fun x => [(75, bufVal (0 + f.length) x.c x.B), (81, .slice (some ⟨x.b14, 0, none⟩) 1 1), (87, .slice (some ⟨x.b20, 0, none⟩) 1 1)]) (fun x L => bufOwn 9 ([] ++ f.map sv) x.B ++ ([(x.b14, .cells [sv z].toArray 9 (0, 0))] ++ ([] ++ ([(x.b20, .cells [sv n1].toArray 9 (0, 0))] ++ L)))) (fun x => BufOk 1 (0 + f.length) x.c ([] ++ f.map sv) x.B) ?_ ?_
          ·rintro ⟨b6, b14, b16, b20, B, c, D, e⟩ h1
           try simp only at h1
           refine d_two 15 16 (by kernel_rfl) ?_ ?_
           ·skip
            refine i_appendB 15 (B := B) (xs := [] ++ f.map sv) (ys := [sv z]) (m := 0 + f.length) (c := c) rfl rfl (by intro kk; simp) (by rfl) rfl rfl h1 (fun _ h => h) (by rfl) (fun a ha => by cases ha; exact reads_ownL (List.mem_append_left _ (List.mem_singleton.2 rfl)) (by rfl)) (by simp) (by rfl) (by decide) (by omega) (by decide) .free rfl (fun _ => .inr heldx) ?_
            intro B c h1
            refine d_mem (fun w h => h) (d_env ?_ (k3101 ⟨b6, b14, b16, b20, B, c, D, e⟩ h1))
            exact ⟨rfl, rfl, rfl, rfl, rfl, rfl, rfl, rfl, rfl, rfl, rfl, trivial⟩
           ·skip
            refine i_lits0 16 rfl rfl .free rfl (.inr heldx) ?_
            intro b16
            refine d_mem (fun w h => Mem.ins3 (A := [(b16, _)]) (B := bufOwn _ _ B) (C := [(b14, _)]) h) (d_env ?_ (k2111 ⟨b6, b14, b16, b20, B, c, D, e⟩ h1))
            exact ⟨rfl, rfl, rfl, rfl, rfl, rfl, rfl, rfl, rfl, rfl, rfl, rfl, rfl, trivial⟩
          ·intro k2101
           refine d_state (X := G11) 7 #[true, true, true, true, true, true, true, true, true, true, true, true, true, true, true, false, true, true, false, true, false, false, true, false, false, false] (fun x => [(75, bufVal (0 + f.length) x.c x.B), (81, .slice (some ⟨x.b14, 0, none⟩) 1 1), (83, .slice (some ⟨x.b16, 0, none⟩) 0 0)]) (fun x L => bufOwn 9 ([] ++ f.map sv) x.B ++ ([(x.b14, .cells [sv z].toArray 9 (0, 0))] ++ ([(x.b16, .cells [].toArray 9 (0, 0))] ++ ([] ++ L)))) (fun x => BufOk 1 (0 + f.length) x.c ([] ++ f.map sv) x.B) ?_ ?_
           ·rintro ⟨b6, b14, b16, b20, B, c, D, e⟩ h1
            try simp only at h1
            refine d_two 15 20 (by kernel_rfl) ?_ ?_
            ·skip
             refine i_appendB 15 (B := B) (xs := [] ++ f.map sv) (ys := [sv z]) (m := 0 + f.length) (c := c) rfl rfl (by intro kk; simp) (by rfl) rfl rfl h1 (fun _ h => h) (by rfl) (fun a ha => by cases ha; exact reads_ownL (List.mem_append_left _ (List.mem_singleton.2 rfl)) (by rfl)) (by simp) (by rfl) (by decide) (by omega) (by decide) .free rfl (fun _ => .inr heldx) ?_
             intro B c h1
             refine d_mem (fun w h => h) (d_env ?_ (k3110 ⟨b6, b14, b16, b20, B, c, D, e⟩ h1))
             exact ⟨rfl, rfl, rfl, rfl, rfl, rfl, rfl, rfl, rfl, rfl, rfl, trivial⟩
            ·skip
             refine i_lits 20 rfl rfl rfl rfl (by rfl) (by rfl) (by rfl) (by decide) (by decide) (by rfl) .free rfl (.inr heldx) ?_
             intro b20
             refine d_mem (fun w h => Mem.ins4 (A := [(b20, _)]) (B := bufOwn _ _ B) (C := [(b14, _)]) (D := [(b16, _)]) h) (d_env ?_ (k2111 ⟨b6, b14, b16, b20, B, c, D, e⟩ h1))
             exact ⟨rfl, rfl, rfl, rfl, rfl, rfl, rfl, rfl, rfl, rfl, rfl, rfl, rfl, trivial⟩
           ·intro k2110
            refine d_state (X := G11) 7 #[true, true, true, true, true, true, true, true, true, true, true, true, true, true, true, true, false, true, false, true, false, false, true, false, false, false] (fun x => [(82, bufVal (0 + f.length + 1) x.c x.B)]) (fun x L => bufOwn 9 ([] ++ f.map sv ++ [sv z]) x.B ++ ([(x.b14, .cells [sv z].toArray 9 (0, 0))] ++ ([] ++ ([] ++ L)))) (fun x => BufOk 1 (0 + f.length + 1) x.c ([] ++ f.map sv ++ [sv z]) x.B) ?_ ?_
            ·rintro ⟨b6, b14, b16, b20, B, c, D, e⟩ h1
             try simp only at h1
             refine d_two 16 20 (by kernel_rfl) ?_ ?_
             ·skip
              refine i_lits0 16 rfl rfl .free rfl (.inr heldx) ?_
              intro b16
              refine d_mem (fun w h => Mem.ins3 (A := [(b16, _)]) (B := bufOwn _ _ B) (C := [(b14, _)]) h) (d_env ?_ (k3110 ⟨b6, b14, b16, b20, B, c, D, e⟩ h1))
              exact ⟨rfl, rfl, rfl, rfl, rfl, rfl, rfl, rfl, rfl, rfl, rfl, trivial⟩
             ·skip
              refine i_lits 20 rfl rfl rfl rfl (by rfl) (by rfl) (by rfl) (by decide) (by decide) (by rfl) .free rfl (.inr heldx) ?_
              intro b20
              refine d_mem (fun w h => Mem.ins4 (A := [(b20, _)]) (B := bufOwn _ _ B) (C := [(b14, _)]) (D := []) h) (d_env ?_ (k3101 ⟨b6, b14, b16, b20, B, c, D, e⟩ h1))
              exact ⟨rfl, rfl, rfl, rfl, rfl, rfl, rfl, rfl, rfl, rfl, rfl, trivial⟩
            ·intro k3100
             refine d_state (X := G11) 8 #[true, true, true, true, true, true, false, true, false, true, true, true, true, true, true, false, true, true, false, true, true, false, true, false, false, false] (fun x => [(81, .slice (some ⟨x.b14, 0, none⟩) 1 1), (83, .slice (some ⟨x.b16, 0, none⟩) 0 0), (87, .slice (some ⟨x.b20, 0, none⟩) 1 1)]) (fun x L => [] ++ ([(x.b14, .cells [sv z].toArray 9 (0, 0))] ++ ([(x.b16, .cells [].toArray 9 (0, 0))] ++ ([(x.b20, .cells [sv n1].toArray 9 (0, 0))] ++ L)))) (fun x => True) ?_ ?_
             ·rintro ⟨b6, b14, b16, b20, B, c, D, e⟩ h1
              try simp only at h1
              refine d_lits0 6 rfl (by kernel_rfl) rfl .free rfl (.inr heldx) ?_
              intro b6
              refine d_mem (fun w h => h) (d_env ?_ (k1111 ⟨b6, b14, b16, b20, B, c, D, e⟩ trivial))
              exact ⟨rfl, rfl, rfl, rfl, rfl, rfl, rfl, rfl, rfl, rfl, rfl, rfl, rfl, trivial⟩
             ·intro k0111
              refine d_state (X := G11) 8 #[true, true, true, true, true, true, true, true, false, true, true, true, true, true, false, false, true, true, false, true, true, false, true, false, false, false] (fun x => [(73, .slice (some ⟨x.b6, 0, none⟩) 0 0), (83, .slice (some ⟨x.b16, 0, none⟩) 0 0), (87, .slice (some ⟨x.b20, 0, none⟩) 1 1)]) (fun x L => [(x.b6, .cells [].toArray 9 (0, 0))] ++ ([] ++ ([(x.b16, .cells [].toArray 9 (0, 0))] ++ ([(x.b20, .cells [sv n1].toArray 9 (0, 0))] ++ L)))) (fun x => True) ?_ ?_
              ·rintro ⟨b6, b14, b16, b20, B, c, D, e⟩ h1
               try simp only at h1
               refine d_two 8 14 (by kernel_rfl) ?_ ?_
               ·skip
                refine i_appendB 8 (B := some (b6, [])) (xs := []) (ys := f.map sv) (m := 0) (c := 0) rfl rfl (by intro kk; simp) (by rfl) rfl rfl ⟨rfl, Nat.le_refl _, rfl⟩ (fun _ h => h) (by simp) hfr.reads hfr.none (sv_plain f) (by decide) (by omega) (by decide) .free rfl (fun _ => .inr heldx) ?_
                intro B c h1
                refine d_mem (fun w h => h) (d_env ?_ (k2011 ⟨b6, b14, b16, b20, B, c, D, e⟩ h1))
                exact ⟨rfl, rfl, rfl, rfl, rfl, rfl, rfl, rfl, rfl, rfl, rfl, rfl, trivial⟩
               ·skip
                refine i_lits 14 rfl rfl rfl rfl (by rfl) (by rfl) (by rfl) (by decide) (by decide) (by rfl) .free rfl (.inr heldx) ?_
                intro b14
                refine d_mem (fun w h => Mem.seg2 (A := [(b14, _)]) (B := [(b6, _)]) h) (d_env ?_ (k1111 ⟨b6, b14, b16, b20, B, c, D, e⟩ trivial))
                exact ⟨rfl, rfl, rfl, rfl, rfl, rfl, rfl, rfl, rfl, rfl, rfl, rfl, rfl, trivial⟩
              ·intro k1011
               refine d_state (X := G11) 8 #[true, true, true, true, true, true, true, true, false, true, true, true, true, true, true, false, false, true, false, true, true, false, true, false, false, false] (fun x => [(73, .slice (some ⟨x.b6, 0, none⟩) 0 0), (81, .slice (some ⟨x.b14, 0, none⟩) 1 1), (87, .slice (some ⟨x.b20, 0, none⟩) 1 1)]) (fun x L => [(x.b6, .cells [].toArray 9 (0, 0))] ++ ([(x.b14, .cells [sv z].toArray 9 (0, 0))] ++ ([] ++ ([(x.b20, .cells [sv n1].toArray 9 (0, 0))] ++ L)))) (fun x => True) ?_ ?_
               ·rintro ⟨b6, b14, b16, b20, B, c, D, e⟩ h1
                try simp only at h1
                refine d_two 8 16 (by kernel_rfl) ?_ ?_
                ·skip
                 refine i_appendB 8 (B := some (b6, [])) (xs := []) (ys := f.map sv) (m := 0) (c := 0) rfl rfl (by intro kk; simp) (by rfl) rfl rfl ⟨rfl, Nat.le_refl _, rfl⟩ (fun _ h => h) (by simp) hfr.reads hfr.none (sv_plain f) (by decide) (by omega) (by decide) .free rfl (fun _ => .inr heldx) ?_
                 intro B c h1
                 refine d_mem (fun w h => h) (d_env ?_ (k2101 ⟨b6, b14, b16, b20, B, c, D, e⟩ h1))
                 exact ⟨rfl, rfl, rfl, rfl, rfl, rfl, rfl, rfl, rfl, rfl, rfl, rfl, trivial⟩
                ·skip
                 refine i_lits0 16 rfl rfl .free rfl (.inr heldx) ?_
                 intro b16
                 refine d_mem (fun w h => Mem.ins3 (A := [(b16, _)]) (B := [(b6, _)]) (C := [(b14, _)]) h) (d_env ?_ (k1111 ⟨b6, b14, b16, b20, B, c, D, e⟩ trivial))
                 exact ⟨rfl, rfl, rfl, rfl, rfl, rfl, rfl, rfl, rfl, rfl, rfl, rfl, rfl, trivial⟩
               ·intro k1101
                refine d_state (X := G11) 8 #[true, true, true, true, true, true, true, true, false, true, true, true, true, true, true, false, true, true, false, true, false, false, true, false, false, false] (fun x => [(73, .slice (some ⟨x.b6, 0, none⟩) 0 0), (81, .slice (some ⟨x.b14, 0, none⟩) 1 1), (83, .slice (some ⟨x.b16, 0, none⟩) 0 0)]) (fun x L => [(x.b6, .cells [].toArray 9 (0, 0))] ++ ([(x.b14, .cells [sv z].toArray 9 (0, 0))] ++ ([(x.b16, .cells [].toArray 9 (0, 0))] ++ ([] ++ L)))) (fun x => True) ?_ ?_
                ·rintro ⟨b6, b14, b16, b20, B, c, D, e⟩ h1
                 try simp only at h1
                 refine d_two 8 20 (by kernel_rfl) ?_ ?_
                 ·skip
                  refine i_appendB 8 (B := some (b6, [])) (xs := []) (ys := f.map sv) (m := 0) (c := 0) rfl rfl (by intro kk; simp) (by rfl) rfl rfl ⟨rfl, Nat.le_refl _, rfl⟩ (fun _ h => h) (by simp) hfr.reads hfr.none (sv_plain f) (by decide) (by omega) (by decide) .free rfl (fun _ => .inr heldx) ?_
                  intro B c h1
                  refine d_mem (fun w h => h) (d_env ?_ (k2110 ⟨b6, b14, b16, b20, B, c, D, e⟩ h1))
                  exact ⟨rfl, rfl, rfl, rfl, rfl, rfl, rfl, rfl, rfl, rfl, rfl, rfl, trivial⟩
                 ·skip
                  refine i_lits 20 rfl rfl rfl rfl (by rfl) (by rfl) (by rfl) (by decide) (by decide) (by rfl) .free rfl (.inr heldx) ?_
                  intro b20
                  refine d_mem (fun w h => Mem.ins4 (A := [(b20, _)]) (B := [(b6, _)]) (C := [(b14, _)]) (D := [(b16, _)]) h) (d_env ?_ (k1111 ⟨b6, b14, b16, b20, B, c, D, e⟩ trivial))
                  exact ⟨rfl, rfl, rfl, rfl, rfl, rfl, rfl, rfl, rfl, rfl, rfl, rfl, rfl, trivial⟩
                ·intro k1110
                 refine d_state (X := G11) 8 #[true, true, true, true, true, true, true, true, true, true, true, true, true, true, false, false, false, true, false, true, true, false, true, false, false, false] (fun x => [(75, bufVal (0 + f.length) x.c x.B), (87, .slice (some ⟨x.b20, 0, none⟩) 1 1)]) (fun x L => bufOwn 9 ([] ++ f.map sv) x.B ++ ([] ++ ([] ++ ([(x.b20, .cells [sv n1].toArray 9 (0, 0))] ++ L)))) (fun x => BufOk 1 (0 + f.length) x.c ([] ++ f.map sv) x.B) ?_ ?_
                 ·rintro ⟨b6, b14, b16, b20, B, c, D, e⟩ h1
                  try simp only at h1
                  refine d_two 14 16 (by kernel_rfl) ?_ ?_
                  ·skip
                   refine i_lits 14 rfl rfl rfl rfl (by rfl) (by rfl) (by rfl) (by decide) (by decide) (by rfl) .free rfl (.inr heldx) ?_
                   intro b14
                   refine d_mem (fun w h => Mem.seg2 (A := [(b14, _)]) (B := bufOwn _ _ B) h) (d_env ?_ (k2101 ⟨b6, b14, b16, b20, B, c, D, e⟩ h1))
                   exact ⟨rfl, rfl, rfl, rfl, rfl, rfl, rfl, rfl, rfl, rfl, rfl, rfl, trivial⟩
                  ·skip
                   refine i_lits0 16 rfl rfl .free rfl (.inr heldx) ?_
                   intro b16
                   refine d_mem (fun w h => Mem.ins3 (A := [(b16, _)]) (B := bufOwn _ _ B) (C := []) h) (d_env ?_ (k2011 ⟨b6, b14, b16, b20, B, c, D, e⟩ h1))
                   exact ⟨rfl, rfl, rfl, rfl, rfl, rfl, rfl, rfl, rfl, rfl, rfl, rfl, trivial⟩
                 ·intro k2001
                  refine d_state (X := G11) 8 #[true, true, true, true, true, true, true, true, true, true, true, true, true, true, false, false, true, true, false, true, false, false, true, false, false, false] (fun x => [(75, bufVal (0 + f.length) x.c x.B), (83, .slice (some ⟨x.b16, 0, none⟩) 0 0)]) (fun x L => bufOwn 9 ([] ++ f.map sv) x.B ++ ([] ++ ([(x.b16, .cells [].toArray 9 (0, 0))] ++ ([] ++ L)))) (fun x => BufOk 1 (0 + f.length) x.c ([] ++ f.map sv) x.B) ?_ ?_
                  ·rintro ⟨b6, b14, b16, b20, B, c, D, e⟩ h1
                   try simp only at h1
                   refine d_two 14 20 (by kernel_rfl) ?_ ?_
                   ·skip
                    refine i_lits 14 rfl rfl rfl rfl (by rfl) (by rfl) (by rfl) (by decide) (by decide) (by rfl) .free rfl (.inr heldx) ?_
                    intro b14
                    refine d_mem (fun w h => Mem.seg2 (A := [(b14, _)]) (B := bufOwn _ _ B) h) (d_env ?_ (k2110 ⟨b6, b14, b16, b20, B, c, D, e⟩ h1))
                    exact ⟨rfl, rfl, rfl, rfl, rfl, rfl, rfl, rfl, rfl, rfl, rfl, rfl, trivial⟩
                   ·skip
                    refine i_lits 20 rfl rfl rfl rfl (by rfl) (by rfl) (by rfl) (by decide) (by decide) (by rfl) .free rfl (.inr heldx) ?_
                    intro b20
                    refine d_mem (fun w h => Mem.ins4 (A := [(b20, _)]) (B := bufOwn _ _ B) (C := []) (D := [(b16, _)]) h) (d_env ?_ (k2011 ⟨b6, b14, b16, b20, B, c, D, e⟩ h1))
                    exact ⟨rfl, rfl, rfl, rfl, rfl, rfl, rfl, rfl, rfl, rfl, rfl, rfl, trivial⟩
                  ·intro k2010
                   refine d_state (X := G11) 8 #[true, true, true, true, true, true, true, true, true, true, true, true, true, true, true, false, false, true, false, true, false, false, true, false, false, false] (fun x => [(75, bufVal (0 + f.length) x.c x.B), (81, .slice (some ⟨x.b14, 0, none⟩) 1 1)]) (fun x L => bufOwn 9 ([] ++ f.map sv) x.B ++ ([(x.b14, .cells [sv z].toArray 9 (0, 0))] ++ ([] ++ ([] ++ L)))) (fun x => BufOk 1 (0 + f.length) x.c ([] ++ f.map sv) x.B) ?_ ?_
                   ·rintro ⟨b6, b14, b16, b20, B, c, D, e⟩ h1
                    try simp only at h1
                    refine d_three 15 16 20 (by kernel_rfl) ?_ ?_ ?_
                    ·skip
                     refine i_appendB 15 (B := B) (xs := [] ++ f.map sv) (ys := [sv z]) (m := 0 + f.length) (c := c) rfl rfl (by intro kk; simp) (by rfl) rfl rfl h1 (fun _ h => h) (by rfl) (fun a ha => by cases ha; exact reads_ownL (List.mem_append_left _ (List.mem_singleton.2 rfl)) (by rfl)) (by simp) (by rfl) (by decide) (by omega) (by decide) .free rfl (fun _ => .inr heldx) ?_
                     intro B c h1
                     refine d_mem (fun w h => h) (d_env ?_ (k3100 ⟨b6, b14, b16, b20, B, c, D, e⟩ h1))
                     exact ⟨rfl, rfl, rfl, rfl, rfl, rfl, rfl, rfl, rfl, rfl, trivial⟩
                    ·skip
                     refine i_lits0 16 rfl rfl .free rfl (.inr heldx) ?_
                     intro b16
                     refine d_mem (fun w h => Mem.ins3 (A := [(b16, _)]) (B := bufOwn _ _ B) (C := [(b14, _)]) h) (d_env ?_ (k2110 ⟨b6, b14, b16, b20, B, c, D, e⟩ h1))
                     exact ⟨rfl, rfl, rfl, rfl, rfl, rfl, rfl, rfl, rfl, rfl, rfl, rfl, trivial⟩
                    ·skip
                     refine i_lits 20 rfl rfl rfl rfl (by rfl) (by rfl) (by rfl) (by decide) (by decide) (by rfl) .free rfl (.inr heldx) ?_
                     intro b20
                     refine d_mem (fun w h => Mem.ins4 (A := [(b20, _)]) (B := bufOwn _ _ B) (C := [(b14, _)]) (D := []) h) (d_env ?_ (k2101 ⟨b6, b14, b16, b20, B, c, D, e⟩ h1))
                     exact ⟨rfl, rfl, rfl, rfl, rfl, rfl, rfl, rfl, rfl, rfl, rfl, rfl, trivial⟩
                   ·intro k2100
                    refine d_state (X := G11) 9 #[true, true, true, true, true, true, false, true, false, true, true, true, true, true, false, false, true, true, false, true, true, false, true, false, false, false] (fun x => [(83, .slice (some ⟨x.b16, 0, none⟩) 0 0), (87, .slice (some ⟨x.b20, 0, none⟩) 1 1)]) (fun x L => [] ++ ([] ++ ([(x.b16, .cells [].toArray 9 (0, 0))] ++ ([(x.b20, .cells [sv n1].toArray 9 (0, 0))] ++ L)))) (fun x => True) ?_ ?_
                    ·rintro ⟨b6, b14, b16, b20, B, c, D, e⟩ h1
                     try simp only at h1
                     refine d_two 6 14 (by kernel_rfl) ?_ ?_
                     ·skip
                      refine i_lits0 6 rfl rfl .free rfl (.inr heldx) ?_
                      intro b6
                      refine d_mem (fun w h => h) (d_env ?_ (k1011 ⟨b6, b14, b16, b20, B, c, D, e⟩ trivial))
                      exact ⟨rfl, rfl, rfl, rfl, rfl, rfl, rfl, rfl, rfl, rfl, rfl, rfl, trivial⟩
                     ·skip
                      refine i_lits 14 rfl rfl rfl rfl (by rfl) (by rfl) (by rfl) (by decide) (by decide) (by rfl) .free rfl (.inr heldx) ?_
                      intro b14
                      refine d_mem (fun w h => Mem.seg2 (A := [(b14, _)]) (B := []) h) (d_env ?_ (k0111 ⟨b6, b14, b16, b20, B, c, D, e⟩ trivial))
                      exact ⟨rfl, rfl, rfl, rfl, rfl, rfl, rfl, rfl, rfl, rfl, rfl, rfl, trivial⟩
                    ·intro k0011
                     refine d_state (X := G11) 9 #[true, true, true, true, true, true, false, true, false, true, true, true, true, true, true, false, false, true, false, true, true, false, true, false, false, false] (fun x => [(81, .slice (some ⟨x.b14, 0, none⟩) 1 1), (87, .slice (some ⟨x.b20, 0, none⟩) 1 1)]) (fun x L => [] ++ ([(x.b14, .cells [sv z].toArray 9 (0, 0))] ++ ([] ++ ([(x.b20, .cells [sv n1].toArray 9 (0, 0))] ++ L)))) (fun x => True) ?_ ?_
                     ·rintro ⟨b6, b14, b16, b20, B, c, D, e⟩ h1
                      try simp only at h1
                      refine d_two 6 16 (by kernel_rfl) ?_ ?_
                      ·skip
                       refine i_lits0 6 rfl rfl .free rfl (.inr heldx) ?_
                       intro b6
                       refine d_mem (fun w h => h) (d_env ?_ (k1101 ⟨b6, b14, b16, b20, B, c, D, e⟩ trivial))
                       exact ⟨rfl, rfl, rfl, rfl, rfl, rfl, rfl, rfl, rfl, rfl, rfl, rfl, trivial⟩
                      ·skip
                       refine i_lits0 16 rfl rfl .free rfl (.inr heldx) ?_
                       intro b16
                       refine d_mem (fun w h => Mem.ins3 (A := [(b16, _)]) (B := []) (C := [(b14, _)]) h) (d_env ?_ (k0111 ⟨b6, b14, b16, b20, B, c, D, e⟩ trivial))
                       exact ⟨rfl, rfl, rfl, rfl, rfl, rfl, rfl, rfl, rfl, rfl, rfl, rfl, trivial⟩
                     ·intro k0101
                      refine d_state (X := G11) 9 #[true, true, true, true, true, true, false, true, false, true, true, true, true, true, true, false, true, true, false, true, false, false, true, false, false, false] (fun x => [(81, .slice (some ⟨x.b14, 0, none⟩) 1 1), (83, .slice (some ⟨x.b16, 0, none⟩) 0 0)]) (fun x L => [] ++ ([(x.b14, .cells [sv z].toArray 9 (0, 0))] ++ ([(x.b16, .cells [].toArray 9 (0, 0))] ++ ([] ++ L)))) (fun x => True) ?_ ?_
                      ·rintro ⟨b6, b14, b16, b20, B, c, D, e⟩ h1
                       try simp only at h1
                       refine d_two 6 20 (by kernel_rfl) ?_ ?_
                       ·skip
                        refine i_lits0 6 rfl rfl .free rfl (.inr heldx) ?_
                        intro b6
                        refine d_mem (fun w h => h) (d_env ?_ (k1110 ⟨b6, b14, b16, b20, B, c, D, e⟩ trivial))
                        exact ⟨rfl, rfl, rfl, rfl, rfl, rfl, rfl, rfl, rfl, rfl, rfl, rfl, trivial⟩
                       ·skip
                        refine i_lits 20 rfl rfl rfl rfl (by rfl) (by rfl) (by rfl) (by decide) (by decide) (by rfl) .free rfl (.inr heldx) ?_
                        intro b20
                        refine d_mem (fun w h => Mem.ins4 (A := [(b20, _)]) (B := []) (C := [(b14, _)]) (D := [(b16, _)]) h) (d_env ?_ (k0111 ⟨b6, b14, b16, b20, B, c, D, e⟩ trivial))
                        exact ⟨rfl, rfl, rfl, rfl, rfl, rfl, rfl, rfl, rfl, rfl, rfl, rfl, trivial⟩
                      ·intro k0110
                       refine d_state (X := G11) 9 #[true, true, true, true, true, true, true, true, false, true, true, true, true, true, false, false, false, true, false, true, true, false, true, false, false, false] (fun x => [(73, .slice (some ⟨x.b6, 0, none⟩) 0 0), (87, .slice (some ⟨x.b20, 0, none⟩) 1 1)]) (fun x L => [(x.b6, .cells [].toArray 9 (0, 0))] ++ ([] ++ ([] ++ ([(x.b20, .cells [sv n1].toArray 9 (0, 0))] ++ L)))) (fun x => True) ?_ ?_
                       ·rintro ⟨b6, b14, b16, b20, B, c, D, e⟩ h1
                        try simp only at h1
                        refine d_three 8 14 16 (by kernel_rfl) ?_ ?_ ?_
                        ·skip
                         refine i_appendB 8 (B := some (b6, [])) (xs := []) (ys := f.map sv) (m := 0) (c := 0) rfl rfl (by intro kk; simp) (by rfl) rfl rfl ⟨rfl, Nat.le_refl _, rfl⟩ (fun _ h => h) (by simp) hfr.reads hfr.none (sv_plain f) (by decide) (by omega) (by decide) .free rfl (fun _ => .inr heldx) ?_
                         intro B c h1
                         refine d_mem (fun w h => h) (d_env ?_ (k2001 ⟨b6, b14, b16, b20, B, c, D, e⟩ h1))
                         exact ⟨rfl, rfl, rfl, rfl, rfl, rfl, rfl, rfl, rfl, rfl, rfl, trivial⟩
                        ·skip
                         refine i_lits 14 rfl rfl rfl rfl (by rfl) (by rfl) (by rfl) (by decide) (by decide) (by rfl) .free rfl (.inr heldx) ?_
                         intro b14
                         refine d_mem (fun w h => Mem.seg2 (A := [(b14, _)]) (B := [(b6, _)]) h) (d_env ?_ (k1101 ⟨b6, b14, b16, b20, B, c, D, e⟩ trivial))
                         exact ⟨rfl, rfl, rfl, rfl, rfl, rfl, rfl, rfl, rfl, rfl, rfl, rfl, trivial⟩
                        ·skip
                         refine i_lits0 16 rfl rfl .free rfl (.inr heldx) ?_
                         intro b16
                         refine d_mem (fun w h => Mem.ins3 (A := [(b16, _)]) (B := [(b6, _)]) (C := []) h) (d_env ?_ (k1011 ⟨b6, b14, b16, b20, B, c, D, e⟩ trivial))
                         exact ⟨rfl, rfl, rfl, rfl, rfl, rfl, rfl, rfl, rfl, rfl, rfl, rfl, trivial⟩
                       ·intro k1001
                        refine d_state (X := G11) 9 #[true, true, true, true, true, true, true, true, false, true, true, true, true, true, false, false, true, true, false, true, false, false, true, false, false, false] (fun x => [(73, .slice (some ⟨x.b6, 0, none⟩) 0 0), (83, .slice (some ⟨x.b16, 0, none⟩) 0 0)]) (fun x L => [(x.b6, .cells [].toArray 9 (0, 0))] ++ ([] ++ ([(x.b16, .cells [].toArray 9 (0, 0))] ++ ([] ++ L)))) (fun x => True) ?_ ?_
                        ·rintro ⟨b6, b14, b16, b20, B, c, D, e⟩ h1
                         try simp only at h1
                         refine d_three 8 14 20 (by kernel_rfl) ?_ ?_ ?_
                         ·skip
                          refine i_appendB 8 (B := some (b6, [])) (xs := []) (ys := f.map sv) (m := 0) (c := 0) rfl rfl (by intro kk; simp) (by rfl) rfl rfl ⟨rfl, Nat.le_refl _, rfl⟩ (fun _ h => h) (by simp) hfr.reads hfr.none (sv_plain f) (by decide) (by omega) (by decide) .free rfl (fun _ => .inr heldx) ?_
                          intro B c h1
                          refine d_mem (fun w h => h) (d_env ?_ (k2010 ⟨b6, b14, b16, b20, B, c, D, e⟩ h1))
                          exact ⟨rfl, rfl, rfl, rfl, rfl, rfl, rfl, rfl, rfl, rfl, rfl, trivial⟩
                         ·skip
                          refine i_lits 14 rfl rfl rfl rfl (by rfl) (by rfl) (by rfl) (by decide) (by decide) (by rfl) .free rfl (.inr heldx) ?_
                          intro b14
                          refine d_mem (fun w h => Mem.seg2 (A := [(b14, _)]) (B := [(b6, _)]) h) (d_env ?_ (k1110 ⟨b6, b14, b16, b20, B, c, D, e⟩ trivial))
                          exact ⟨rfl, rfl, rfl, rfl, rfl, rfl, rfl, rfl, rfl, rfl, rfl, rfl, trivial⟩
                         ·skip
                          refine i_lits 20 rfl rfl rfl rfl (by rfl) (by rfl) (by rfl) (by decide) (by decide) (by rfl) .free rfl (.inr heldx) ?_
                          intro b20
                          refine d_mem (fun w h => Mem.ins4 (A := [(b20, _)]) (B := [(b6, _)]) (C := []) (D := [(b16, _)]) h) (d_env ?_ (k1011 ⟨b6, b14, b16, b20, B, c, D, e⟩ trivial))
                          exact ⟨rfl, rfl, rfl, rfl, rfl, rfl, rfl, rfl, rfl, rfl, rfl, rfl, trivial⟩
                        ·intro k1010
                         refine d_state (X := G11) 9 #[true, true, true, true, true, true, true, true, false, true, true, true, true, true, true, false, false, true, false, true, false, false, true, false, false, false] (fun x => [(73, .slice (some ⟨x.b6, 0, none⟩) 0 0), (81, .slice (some ⟨x.b14, 0, none⟩) 1 1)]) (fun x L => [(x.b6, .cells [].toArray 9 (0, 0))] ++ ([(x.b14, .cells [sv z].toArray 9 (0, 0))] ++ ([] ++ ([] ++ L)))) (fun x => True) ?_ ?_
                         ·rintro ⟨b6, b14, b16, b20, B, c, D, e⟩ h1
                          try simp only at h1
                          refine d_three 8 16 20 (by kernel_rfl) ?_ ?_ ?_
                          ·skip
                           refine i_appendB 8 (B := some (b6, [])) (xs := []) (ys := f.map sv) (m := 0) (c := 0) rfl rfl (by intro kk; simp) (by rfl) rfl rfl ⟨rfl, Nat.le_refl _, rfl⟩ (fun _ h => h) (by simp) hfr.reads hfr.none (sv_plain f) (by decide) (by omega) (by decide) .free rfl (fun _ => .inr heldx) ?_
                           intro B c h1
                           refine d_mem (fun w h => h) (d_env ?_ (k2100 ⟨b6, b14, b16, b20, B, c, D, e⟩ h1))
                           exact ⟨rfl, rfl, rfl, rfl, rfl, rfl, rfl, rfl, rfl, rfl, rfl, trivial⟩
                          ·skip
                           refine i_lits0 16 rfl rfl .free rfl (.inr heldx) ?_
                           intro b16
                           refine d_mem (fun w h => Mem.ins3 (A := [(b16, _)]) (B := [(b6, _)]) (C := [(b14, _)]) h) (d_env ?_ (k1110 ⟨b6, b14, b16, b20, B, c, D, e⟩ trivial))
                           exact ⟨rfl, rfl, rfl, rfl, rfl, rfl, rfl, rfl, rfl, rfl, rfl, rfl, trivial⟩
                          ·skip
                           refine i_lits 20 rfl rfl rfl rfl (by rfl) (by rfl) (by rfl) (by decide) (by decide) (by rfl) .free rfl (.inr heldx) ?_
                           intro b20
                           refine d_mem (fun w h => Mem.ins4 (A := [(b20, _)]) (B := [(b6, _)]) (C := [(b14, _)]) (D := []) h) (d_env ?_ (k1101 ⟨b6, b14, b16, b20, B, c, D, e⟩ trivial))
                           exact ⟨rfl, rfl, rfl, rfl, rfl, rfl, rfl, rfl, rfl, rfl, rfl, rfl, trivial⟩
                         ·intro k1100
                          refine d_state (X := G11) 9 #[true, true, true, true, true, true, true, true, true, true, true, true, true, true, false, false, false, true, false, true, false, false, true, false, false, false] (fun x => [(75, bufVal (0 + f.length) x.c x.B)]) (fun x L => bufOwn 9 ([] ++ f.map sv) x.B ++ ([] ++ ([] ++ ([] ++ L)))) (fun x => BufOk 1 (0 + f.length) x.c ([] ++ f.map sv) x.B) ?_ ?_
                          ·rintro ⟨b6, b14, b16, b20, B, c, D, e⟩ h1
                           try simp only at h1
                           refine d_three 14 16 20 (by kernel_rfl) ?_ ?_ ?_
                           ·skip
                            refine i_lits 14 rfl rfl rfl rfl (by rfl) (by rfl) (by rfl) (by decide) (by decide) (by rfl) .free rfl (.inr heldx) ?_
                            intro b14
                            refine d_mem (fun w h => Mem.seg2 (A := [(b14, _)]) (B := bufOwn _ _ B) h) (d_env ?_ (k2100 ⟨b6, b14, b16, b20, B, c, D, e⟩ h1))
                            exact ⟨rfl, rfl, rfl, rfl, rfl, rfl, rfl, rfl, rfl, rfl, rfl, trivial⟩
                           ·skip
                            refine i_lits0 16 rfl rfl .free rfl (.inr heldx) ?_
                            intro b16
                            refine d_mem (fun w h => Mem.ins3 (A := [(b16, _)]) (B := bufOwn _ _ B) (C := []) h) (d_env ?_ (k2010 ⟨b6, b14, b16, b20, B, c, D, e⟩ h1))
                            exact ⟨rfl, rfl, rfl, rfl, rfl, rfl, rfl, rfl, rfl, rfl, rfl, trivial⟩
                           ·skip
                            refine i_lits 20 rfl rfl rfl rfl (by rfl) (by rfl) (by rfl) (by decide) (by decide) (by rfl) .free rfl (.inr heldx) ?_
                            intro b20
                            refine d_mem (fun w h => Mem.ins4 (A := [(b20, _)]) (B := bufOwn _ _ B) (C := []) (D := []) h) (d_env ?_ (k2001 ⟨b6, b14, b16, b20, B, c, D, e⟩ h1))
                            exact ⟨rfl, rfl, rfl, rfl, rfl, rfl, rfl, rfl, rfl, rfl, rfl, trivial⟩
                          ·intro k2000
                           refine d_state (X := G11) 10 #[true, true, true, true, true, true, false, true, false, true, true, true, true, true, false, false, false, true, false, true, true, false, true, false, false, false] (fun x => [(87, .slice (some ⟨x.b20, 0, none⟩) 1 1)]) (fun x L => [] ++ ([] ++ ([] ++ ([(x.b20, .cells [sv n1].toArray 9 (0, 0))] ++ L)))) (fun x => True) ?_ ?_
                           ·rintro ⟨b6, b14, b16, b20, B, c, D, e⟩ h1
                            try simp only at h1
                            refine d_three 6 14 16 (by kernel_rfl) ?_ ?_ ?_
                            ·skip
                             refine i_lits0 6 rfl rfl .free rfl (.inr heldx) ?_
                             intro b6
                             refine d_mem (fun w h => h) (d_env ?_ (k1001 ⟨b6, b14, b16, b20, B, c, D, e⟩ trivial))
                             exact ⟨rfl, rfl, rfl, rfl, rfl, rfl, rfl, rfl, rfl, rfl, rfl, trivial⟩
                            ·skip
                             refine i_lits 14 rfl rfl rfl rfl (by rfl) (by rfl) (by rfl) (by decide) (by decide) (by rfl) .free rfl (.inr heldx) ?_
                             intro b14
                             refine d_mem (fun w h => Mem.seg2 (A := [(b14, _)]) (B := []) h) (d_env ?_ (k0101 ⟨b6, b14, b16, b20, B, c, D, e⟩ trivial))
                             exact ⟨rfl, rfl, rfl, rfl, rfl, rfl, rfl, rfl, rfl, rfl, rfl, trivial⟩
                            ·skip
                             refine i_lits0 16 rfl rfl .free rfl (.inr heldx) ?_
                             intro b16
                             refine d_mem (fun w h => Mem.ins3 (A := [(b16, _)]) (B := []) (C := []) h) (d_env ?_ (k0011 ⟨b6, b14, b16, b20, B, c, D, e⟩ trivial))
                             exact ⟨rfl, rfl, rfl, rfl, rfl, rfl, rfl, rfl, rfl, rfl, rfl, trivial⟩
                           ·intro k0001
                            refine d_state (X := G11) 10 #[true, true, true, true, true, true, false, true, false, true, true, true, true, true, false, false, true, true, false, true, false, false, true, false, false, false] (fun x => [(83, .slice (some ⟨x.b16, 0, none⟩) 0 0)]) (fun x L => [] ++ ([] ++ ([(x.b16, .cells [].toArray 9 (0, 0))] ++ ([] ++ L)))) (fun x => True) ?_ ?_
                            ·rintro ⟨b6, b14, b16, b20, B, c, D, e⟩ h1
                             try simp only at h1
                             refine d_three 6 14 20 (by kernel_rfl) ?_ ?_ ?_
                             ·skip
                              refine i_lits0 6 rfl rfl .free rfl (.inr heldx) ?_
                              intro b6
                              refine d_mem (fun w h => h) (d_env ?_ (k1010 ⟨b6, b14, b16, b20, B, c, D, e⟩ trivial))
                              exact ⟨rfl, rfl, rfl, rfl, rfl, rfl, rfl, rfl, rfl, rfl, rfl, trivial⟩
                             ·skip
                              refine i_lits 14 rfl rfl rfl rfl (by rfl) (by rfl) (by rfl) (by decide) (by decide) (by rfl) .free rfl (.inr heldx) ?_
                              intro b14
                              refine d_mem (fun w h => Mem.seg2 (A := [(b14, _)]) (B := []) h) (d_env ?_ (k0110 ⟨b6, b14, b16, b20, B, c, D, e⟩ trivial))
                              exact ⟨rfl, rfl, rfl, rfl, rfl, rfl, rfl, rfl, rfl, rfl, rfl, trivial⟩
                             ·skip
                              refine i_lits 20 rfl rfl rfl rfl (by rfl) (by rfl) (by rfl) (by decide) (by decide) (by rfl) .free rfl (.inr heldx) ?_
                              intro b20
                              refine d_mem (fun w h => Mem.ins4 (A := [(b20, _)]) (B := []) (C := []) (D := [(b16, _)]) h) (d_env ?_ (k0011 ⟨b6, b14, b16, b20, B, c, D, e⟩ trivial))
                              exact ⟨rfl, rfl, rfl, rfl, rfl, rfl, rfl, rfl, rfl, rfl, rfl, trivial⟩
                            ·intro k0010
                             refine d_state (X := G11) 10 #[true, true, true, true, true, true, false, true, false, true, true, true, true, true, true, false, false, true, false, true, false, false, true, false, false, false] (fun x => [(81, .slice (some ⟨x.b14, 0, none⟩) 1 1)]) (fun x L => [] ++ ([(x.b14, .cells [sv z].toArray 9 (0, 0))] ++ ([] ++ ([] ++ L)))) (fun x => True) ?_ ?_
                             ·rintro ⟨b6, b14, b16, b20, B, c, D, e⟩ h1
                              try simp only at h1
                              refine d_three 6 16 20 (by kernel_rfl) ?_ ?_ ?_
                              ·skip
                               refine i_lits0 6 rfl rfl .free rfl (.inr heldx) ?_
                               intro b6
                               refine d_mem (fun w h => h) (d_env ?_ (k1100 ⟨b6, b14, b16, b20, B, c, D, e⟩ trivial))
                               exact ⟨rfl, rfl, rfl, rfl, rfl, rfl, rfl, rfl, rfl, rfl, rfl, trivial⟩
                              ·skip
                               refine i_lits0 16 rfl rfl .free rfl (.inr heldx) ?_
                               intro b16
                               refine d_mem (fun w h => Mem.ins3 (A := [(b16, _)]) (B := []) (C := [(b14, _)]) h) (d_env ?_ (k0110 ⟨b6, b14, b16, b20, B, c, D, e⟩ trivial))
                               exact ⟨rfl, rfl, rfl, rfl, rfl, rfl, rfl, rfl, rfl, rfl, rfl, trivial⟩
                              ·skip
                               refine i_lits 20 rfl rfl rfl rfl (by rfl) (by rfl) (by rfl) (by decide) (by decide) (by rfl) .free rfl (.inr heldx) ?_
                               intro b20
                               refine d_mem (fun w h => Mem.ins4 (A := [(b20, _)]) (B := []) (C := [(b14, _)]) (D := []) h) (d_env ?_ (k0101 ⟨b6, b14, b16, b20, B, c, D, e⟩ trivial))
                               exact ⟨rfl, rfl, rfl, rfl, rfl, rfl, rfl, rfl, rfl, rfl, rfl, trivial⟩
                             ·intro k0100
                              refine d_state (X := G11) 10 #[true, true, true, true, true, true, true, true, false, true, true, true, true, true, false, false, false, true, false, true, false, false, true, false, false, false] (fun x => [(73, .slice (some ⟨x.b6, 0, none⟩) 0 0)]) (fun x L => [(x.b6, .cells [].toArray 9 (0, 0))] ++ ([] ++ ([] ++ ([] ++ L)))) (fun x => True) ?_ ?_
                              ·rintro ⟨b6, b14, b16, b20, B, c, D, e⟩ h1
                               try simp only at h1
                               refine d_four 8 14 16 20 (by kernel_rfl) ?_ ?_ ?_ ?_
                               ·skip
                                refine i_appendB 8 (B := some (b6, [])) (xs := []) (ys := f.map sv) (m := 0) (c := 0) rfl rfl (by intro kk; simp) (by rfl) rfl rfl ⟨rfl, Nat.le_refl _, rfl⟩ (fun _ h => h) (by simp) hfr.reads hfr.none (sv_plain f) (by decide) (by omega) (by decide) .free rfl (fun _ => .inr heldx) ?_
                                intro B c h1
                                refine d_mem (fun w h => h) (d_env ?_ (k2000 ⟨b6, b14, b16, b20, B, c, D, e⟩ h1))
                                exact ⟨rfl, rfl, rfl, rfl, rfl, rfl, rfl, rfl, rfl, rfl, trivial⟩
                               ·skip
                                refine i_lits 14 rfl rfl rfl rfl (by rfl) (by rfl) (by rfl) (by decide) (by decide) (by rfl) .free rfl (.inr heldx) ?_
                                intro b14
                                refine d_mem (fun w h => Mem.seg2 (A := [(b14, _)]) (B := [(b6, _)]) h) (d_env ?_ (k1100 ⟨b6, b14, b16, b20, B, c, D, e⟩ trivial))
                                exact ⟨rfl, rfl, rfl, rfl, rfl, rfl, rfl, rfl, rfl, rfl, rfl, trivial⟩
                               ·skip
                                refine i_lits0 16 rfl rfl .free rfl (.inr heldx) ?_
                                intro b16
                                refine d_mem (fun w h => Mem.ins3 (A := [(b16, _)]) (B := [(b6, _)]) (C := []) h) (d_env ?_ (k1010 ⟨b6, b14, b16, b20, B, c, D, e⟩ trivial))
                                exact ⟨rfl, rfl, rfl, rfl, rfl, rfl, rfl, rfl, rfl, rfl, rfl, trivial⟩
                               ·skip
                                refine i_lits 20 rfl rfl rfl rfl (by rfl) (by rfl) (by rfl) (by decide) (by decide) (by rfl) .free rfl (.inr heldx) ?_
                                intro b20
                                refine d_mem (fun w h => Mem.ins4 (A := [(b20, _)]) (B := [(b6, _)]) (C := []) (D := []) h) (d_env ?_ (k1001 ⟨b6, b14, b16, b20, B, c, D, e⟩ trivial))
                                exact ⟨rfl, rfl, rfl, rfl, rfl, rfl, rfl, rfl, rfl, rfl, rfl, trivial⟩
                              ·intro k1000
                               refine d_four 6 14 16 20 (by kernel_rfl) ?_ ?_ ?_ ?_
                               ·skip
                                refine i_lits0 6 rfl rfl .free rfl (.inr heldx) ?_
                                intro b6
                                refine d_mem (fun w h => h) (d_env ?_ (k1000 ⟨b6, 0, 0, 0, none, 0, none, 0⟩ trivial))
                                exact ⟨rfl, rfl, rfl, rfl, rfl, rfl, rfl, rfl, rfl, rfl, trivial⟩
                               ·skip
                                refine i_lits 14 rfl rfl rfl rfl (by rfl) (by rfl) (by rfl) (by decide) (by decide) (by rfl) .free rfl (.inr heldx) ?_
                                intro b14
                                refine d_mem (fun w h => Mem.seg2 (A := [(b14, _)]) (B := []) h) (d_env ?_ (k0100 ⟨0, b14, 0, 0, none, 0, none, 0⟩ trivial))
                                exact ⟨rfl, rfl, rfl, rfl, rfl, rfl, rfl, rfl, rfl, rfl, trivial⟩
                               ·skip
                                refine i_lits0 16 rfl rfl .free rfl (.inr heldx) ?_
                                intro b16
                                refine d_mem (fun w h => Mem.ins3 (A := [(b16, _)]) (B := []) (C := []) h) (d_env ?_ (k0010 ⟨0, 0, b16, 0, none, 0, none, 0⟩ trivial))
                                exact ⟨rfl, rfl, rfl, rfl, rfl, rfl, rfl, rfl, rfl, rfl, trivial⟩
                               ·skip
                                refine i_lits 20 rfl rfl rfl rfl (by rfl) (by rfl) (by rfl) (by decide) (by decide) (by rfl) .free rfl (.inr heldx) ?_
                                intro b20
                                refine d_mem (fun w h => Mem.ins4 (A := [(b20, _)]) (B := []) (C := []) (D := []) h) (d_env ?_ (k0001 ⟨0, 0, 0, b20, none, 0, none, 0⟩ trivial))
                                exact ⟨rfl, rfl, rfl, rfl, rfl, rfl, rfl, rfl, rfl, rfl, trivial⟩
set_option maxHeartbeats 2000000 in
theorem plain_fn {n : Nat} (ihn : PlainH n) {h1 z : Txt} {s u : Ty} {b : Ex} {I : Heap} {cs : List Value} (hlt : SizeOf.sizeOf (Ex.fn h1 z s u b) < n + 1) (h : Rep I (Ex.fn h1 z s u b).tree cs) (hok : (Ex.fn h1 z s u b).ok = true) {f t : List Txt} {of ot : Option Addr} {cf ct : Nat} (hfr : Strs I of f cf) (hto : Strs I ot t ct) (hft : f.length = t.length) (hfl : f.length + 2 * (Ex.fn h1 z s u b).size ≤ 100000)
  {ov : Option Addr} {av : List Txt} {cv : Nat} (hav : Strs I ov av cv) (bp k : Nat) (hk : k + (Ex.fn h1 z s u b).nb + av.length ≤ 90 + hits 120 av k) (ha5 : av.length ≤ 500) (L : Own) :
  Fun Tryz.prog 66 [.agg cs.toArray, .slice of f.length cf, .slice ot t.length ct, .pointer (some ⟨bp, 0, none⟩)] I (rn bp ov av cv k :: L) (PR bp ov av cv ((Ex.fn h1 z s u b).pl av f t k) L) := by
 obtain ⟨oa, c, oaf, cf1, rfl, hf, hcl, hcs⟩ := h.cells
 have hle : HLe I I := .refl _
 have ha := hf.alen
 have hh0 := hits_le 120 av k
 refine fun_intro (by simp) ?_
 refine Se rfl ?_
 refine o_box rfl rfl .free rfl ?_
 intro b4
 refine o_alloc .free rfl ?_
 intro b8
 refine o_done (s_seq (Se rfl ?_))
 refine o_fieldAddr rfl .free rfl ?_
 refine o_lO1 rfl .free rfl ?_
 refine o_cmps rfl rfl rfl .free rfl ?_
 refine o_done ?_
 first | refine s_fp rfl (by simp [Ex.tree, Tree.atom]) ?_ | refine s_fn rfl (by simp [Ex.tree, Tree.atom]) ?_ | refine s_false (by simp [look, opd, *]) ?_
 refine s_skip (s_seq ?_)
 have hok0 := hok
 have hb : (Ex.fn h1 z s u b).bare = false := rfl
 have hpos : 0 < (Ex.fn h1 z s u b).tree.parts.length := by
  rw [Ex.bare_parts] at hb
  have : (Ex.fn h1 z s u b).tree.parts ≠ [] := by intro hh; rw [hh] at hb; cases hb
  exact List.length_pos_iff.2 this
 have hhd := head_at hpos
 obtain ⟨xa, rfl⟩ : ∃ xa, oa = some xa := ⟨_, some_oad hf.nil hpos⟩
 have hp := hf.len
 unfold maxN at hp
 refine o_enter rfl ?_
 refine o_lits0 .free rfl ?_
 intro b29
 refine o_fieldAddr rfl .free rfl ?_
 refine o_lO1 rfl .free rfl ?_
 refine o_append (B := some (b29, [])) (xs := []) (ys := cellsF oaf cf1 0 (Ex.fn h1 z s u b).tree.parts) (m := 0) (c := 0) (by intro kk; simp) (by rfl) rfl rfl ⟨rfl, Nat.le_refl _, rfl⟩ (fun _ h => h) (by have := hcl.length; omega) (fun a ha => by cases ha; exact (hcs _ rfl).reads) (by simp) hcl.plain hpos (by decide) (by omega) (by decide) .free rfl ?_
 intro bc sp cc hB'
 have hcc : (Ex.fn h1 z s u b).tree.parts.length ≤ cc := by have := hB'.2.1; omega
 refine o_put (t := 32) (v' := .slice (some ⟨bc, 0, none⟩) (Ex.fn h1 z s u b).tree.parts.length cc) rfl (by rw [Nat.zero_add]) ?_
 simp only [List.nil_append]
 refine o_struct rfl rfl rfl .free rfl ?_
 refine o_alloc .free rfl ?_
 intro b9
 refine o_st rfl rfl rfl rfl .free ?_
 refine o_done (Se rfl ?_)
 refine o_fieldAddr rfl .free rfl ?_
 refine o_lO1 rfl .free rfl ?_
 first | refine o_ixD rfl rfl 0 rfl .free rfl ?_ | refine o_ixP rfl rfl 0 rfl .free rfl ?_
 refine o_fieldAddr' rfl .free rfl ?_
 refine o_lIF rfl .free rfl ?_
 refine o_call rfl .free rfl (g_l2Kids ((Ex.fn h1 z s u b).tree.pt 0).atom _ _) ?_
 rw [← hhd]; rintro _ _ _ _ ⟨rfl, rfl, rfl⟩
 refine Om rfl ?_
 refine o_extract rfl rfl .free rfl ?_
 refine o_extract rfl rfl .free rfl ?_
 refine Oa rfl (Oa rfl (o_done (s_seq (s_seq ?_))))
 have hkr : kidRange (Ex.fn h1 z s u b).tree.head = (5, 6) := rfl
 rw [hkr]
 have hlen : (Ex.fn h1 z s u b).tree.parts.length = 6 := rfl
 have hki := kids_fn h1 z s u b
 have hp0 : ((Ex.fn h1 z s u b).tree.pt 0).atom = tFun := rfl
 simp only [Ex.fn.sizeOf_spec] at hlt
 simp only [Ex.ok, Bool.and_eq_true, decide_eq_true_eq] at hok
 simp only [Ex.nb] at hk
 simp only [Ex.size] at hfl
 simp only [show (Ex.fn h1 z s u b).tree.parts = [.node tFun [], .node h1 [], .node z [], s.tree, u.tree, b.tree] from rfl, cellsF, List.cons_append, List.nil_append]
 refine s_mem (fun w h => h.f4) ?_
 refine o_enter rfl ?_
 refine o_fieldAddr rfl .free rfl ?_
 refine o_lO1 rfl .free rfl ?_
 first | refine o_ixD rfl rfl 0 rfl .free rfl ?_ | refine o_ixP rfl rfl 0 rfl .free rfl ?_
 refine o_fieldAddr' rfl .free rfl ?_
 refine o_lIF rfl .free rfl ?_
 refine o_cmps rfl rfl rfl .free rfl ?_
 refine o_done ?_
 first | refine s_fp rfl (by rw [hp0]; decide) ?_ | refine s_fn rfl (by rw [hp0]; decide) ?_ | refine s_false (by simp [look, opd, *]) ?_
 refine s_skip (s_seq (Se rfl ?_))
 refine o_fieldAddr rfl .free rfl ?_
 refine o_lO1 rfl .free rfl ?_
 first | refine o_ixD rfl rfl 0 rfl .free rfl ?_ | refine o_ixP rfl rfl 0 rfl .free rfl ?_
 refine o_fieldAddr' rfl .free rfl ?_
 refine o_lIF rfl .free rfl ?_
 refine o_cmps rfl rfl rfl .free rfl ?_
 refine o_done ?_
 first | refine s_tp rfl (by rw [hp0]; rfl) ?_ | refine s_tn rfl (by rw [hp0]; rfl) ?_ | refine s_true (by simp [look, opd, *]) ?_
 refine s_seq ?_
 obtain ⟨x1, x2, x3⟩ := fr_facts 120 av k
 have x4 := fr_hits_succ 120 av k
 have x5 := hits_le 120 av (fr 120 av k)
 have x6 := hits_le 120 av (fr 120 av k + 1)
 obtain ⟨y1, y2, y3⟩ := fr_facts 120 av (fr 120 av k + 1)
 have y4 := fr_hits_succ 120 av (fr 120 av k + 1)
 have y5 := hits_le 120 av (fr 120 av (fr 120 av k + 1))
 have y6 := hits_le 120 av (fr 120 av (fr 120 av k + 1) + 1)
 have hhl := Ex.name_len hok.1.1.1.1.1
 have hzl := Ex.name_len hok.1.1.1.1.2
 refine o_enter rfl ?_
 refine Om rfl ?_
 refine o_call rfl .free rfl (g_l2Fresh hav bp k (by omega) _) ?_
 rintro _ _ _ _ ⟨rfl, rfl, rfl⟩
 have hnl1 := nm_len (n := fr 120 av k) (by omega)
 generalize hn1e : nm 120 (fr 120 av k) = n1 at hnl1 ⊢
 refine Oa rfl (o_done (Se rfl (Om rfl ?_)))
 refine o_call rfl .free rfl (g_l2Fresh hav bp (fr 120 av k + 1) (by omega) _) ?_
 rintro _ _ _ _ ⟨rfl, rfl, rfl⟩
 have hnl2 := nm_len (n := fr 120 av (fr 120 av k + 1)) (by omega)
 generalize hn2e : nm 120 (fr 120 av (fr 120 av k + 1)) = n2 at hnl2 ⊢
 refine Oa rfl (o_done (s_seq ?_))
 refine d_all 6 rfl rfl ?_
 refine Da 0 rfl (y_fieldAddr rfl) ?_
 refine Dt 1 [5] rfl (y_lO1 rfl) ?_
 refine Da 2 rfl (y_move rfl) ?_
 refine d_call 3 rfl (by kernel_rfl) rfl rfl .free rfl (g_l1Atom n1 _ _) ?_
 rintro _ _ _ _ ⟨rfl, rfl, rfl⟩
 refine ⟨(.inr heldx), ?_⟩
 first | refine Da 4 rfl (y_ixD rfl rfl 1 rfl) ?_ | refine Da 4 rfl (y_ixP rfl rfl 1 rfl) ?_
 refine d_st 5 rfl (by kernel_rfl) rfl rfl rfl rfl rfl .free (.inl (by kernel_rfl)) ?_
 refine d_done (by kernel_rfl) ?_
 refine s_seq ?_
 refine d_all 6 rfl rfl ?_
 refine Da 0 rfl (y_fieldAddr rfl) ?_
 refine Dt 1 [5] rfl (y_lO1 rfl) ?_
 refine Da 2 rfl (y_move rfl) ?_
 refine d_call 3 rfl (by kernel_rfl) rfl rfl .free rfl (g_l1Atom n2 _ _) ?_
 rintro _ _ _ _ ⟨rfl, rfl, rfl⟩
 refine ⟨(.inr heldx), ?_⟩
 first | refine Da 4 rfl (y_ixD rfl rfl 2 rfl) ?_ | refine Da 4 rfl (y_ixP rfl rfl 2 rfl) ?_
 refine d_st 5 rfl (by kernel_rfl) rfl rfl rfl rfl rfl .free (.inl (by kernel_rfl)) ?_
 refine d_done (by kernel_rfl) ?_
 refine s_seq ?_
 refine d_all 16 rfl rfl ?_
 refine Da 1 rfl (y_move rfl) ?_
 refine Da 3 rfl (y_fieldAddr rfl) ?_
 refine Dt 4 [16] rfl (y_lO1 rfl) ?_
 first | refine Da 5 rfl (y_ixD rfl rfl 1 rfl) ?_ | refine Da 5 rfl (y_ixP rfl rfl 1 rfl) ?_
 refine Da 6 rfl (y_fieldAddr' rfl) ?_
 refine Dt 7 [16] rfl (y_lIF rfl) ?_
 refine Da 8 rfl (y_fieldAddr rfl) ?_
 refine Dt 9 [16] rfl (y_lO1 rfl) ?_
 first | refine Da 10 rfl (y_ixD rfl rfl 2 rfl) ?_ | refine Da 10 rfl (y_ixP rfl rfl 2 rfl) ?_
 refine Da 11 rfl (y_fieldAddr' rfl) ?_
 refine Dt 12 [16] rfl (y_lIF rfl) ?_
 refine d_two 0 13 (by kernel_rfl) ?_ ?_
 ·skip
  refine i_lits0 0 rfl rfl .free rfl (.inr heldx) ?_
  intro b113
  refine d_two 2 13 (by kernel_rfl) ?_ ?_
  ·skip
   refine i_appendB 2 (B := some (b113, [])) (xs := []) (ys := f.map sv) (m := 0) (c := 0) rfl rfl (by intro kk; simp) (by rfl) rfl rfl ⟨rfl, Nat.le_refl _, rfl⟩ (by first | exact fun _ h => h | exact fun _ h => h.f1 | exact fun _ h => h.f2 | exact fun _ h => h.f3) (by simp) hfr.reads hfr.none (sv_plain f) (by decide) (by omega) (by decide) .free rfl (fun _ => .inr heldx) ?_
   intro B1 c1 hB1
   refine d_lits 13 rfl (by kernel_rfl) rfl rfl rfl (by rfl) (by rfl) (by rfl) (by decide) (by decide) (by rfl) .free rfl (.inr heldx) ?_
   intro b126
   refine d_appendB 14 (B := B1) (xs := f.map sv) (ys := [sv h1, sv z]) (m := 0 + f.length) (c := c1) rfl (by kernel_rfl) rfl (by intro kk; simp) (by rfl) rfl rfl hB1 (by first | exact fun _ h => h | exact fun _ h => h.u1 | exact fun _ h => h.u2 | exact fun _ h => h.u3) (by rfl) (fun a ha => by cases ha; exact reads_ownL (by first | exact m0 | exact m1 | exact m2 | exact m3 | exact m4 | exact m5 | exact m6 | exact List.mem_append_right _ m0 | exact List.mem_append_right _ m1 | exact List.mem_append_right _ m2 | exact List.mem_append_right _ m3 | exact .tail _ (List.mem_append_right _ m0) | exact .tail _ (List.mem_append_right _ m1) | exact .tail _ (List.mem_append_right _ m2) | exact .tail _ (List.mem_append_right _ m3)) (by rfl)) (by simp) (by rfl) (by decide) (by omega) (by decide) .free rfl (fun _ => .inr heldx) ?_
   intro B2 c2 hB2
   rw [show f.map sv ++ [sv h1, sv z] = (f ++ [h1, z]).map sv by simp] at hB2 ⊢
   refine d_freezeStrs hB2 (by simp) (by simp [maxN]; omega) (by intro s hs; rcases List.mem_append.1 hs with hs | hs; exact hfr.each s hs; simp only [List.mem_cons, List.not_mem_nil, or_false] at hs; rcases hs with rfl | rfl; exact hhl; exact hzl) ?_
   intro J3 o3 k3 ez hbv hs3
   refine d_put (t := 127) rfl hbv ?_
   have hf := hf.mono ez
   have hfr := hfr.mono ez
   have hto := hto.mono ez
   have hav := hav.mono ez
   have hle := hle.trans ez
   refine Da 15 rfl (y_assign rfl) ?_
   refine d_done (by kernel_rfl) ?_
   refine o_enter rfl ?_
   refine o_lits0 .free rfl ?_
   intro b128
   refine Om rfl ?_
   refine o_appendB (B := some (b128, [])) (xs := []) (ys := t.map sv) (m := 0) (c := 0) (by intro kk; simp) (by rfl) rfl rfl ⟨rfl, Nat.le_refl _, rfl⟩ (by first | exact fun _ h => h | exact fun _ h => h.f1 | exact fun _ h => h.f2 | exact fun _ h => h.f3) (by simp) hto.reads hto.none (sv_plain t) (by decide) (by omega) (by decide) .free rfl ?_
   intro B3 c3 hB3
   refine Om rfl (Om rfl ?_)
   refine o_lits rfl rfl (by rfl) (by rfl) (by rfl) (by decide) (by decide) (by rfl) .free rfl ?_
   intro b133
   refine o_appendB (B := B3) (xs := t.map sv) (ys := [sv n1, sv n2]) (m := 0 + t.length) (c := c3) (by intro kk; simp) (by rfl) rfl rfl hB3 (by first | exact fun _ h => h | exact fun _ h => h.u1 | exact fun _ h => h.u2 | exact fun _ h => h.u3) (by rfl) (fun a ha => by cases ha; exact reads_ownL (by first | exact m0 | exact m1 | exact m2 | exact m3 | exact m4 | exact m5 | exact m6 | exact List.mem_append_right _ m0 | exact List.mem_append_right _ m1 | exact List.mem_append_right _ m2 | exact List.mem_append_right _ m3 | exact .tail _ (List.mem_append_right _ m0) | exact .tail _ (List.mem_append_right _ m1) | exact .tail _ (List.mem_append_right _ m2) | exact .tail _ (List.mem_append_right _ m3)) (by rfl)) (by simp) (by rfl) (by decide) (by omega) (by decide) .free rfl ?_
   intro B4 c4 hB4
   rw [show t.map sv ++ [sv n1, sv n2] = (t ++ [n1, n2]).map sv by simp] at hB4 ⊢
   refine Oa rfl (o_done (s_seq (s_seq ?_)))
   refine s_freezeStrs hB4 (by simp) (by simp [maxN]; omega) (by intro s hs; rcases List.mem_append.1 hs with hs | hs; exact hto.each s hs; simp only [List.mem_cons, List.not_mem_nil, or_false] at hs; rcases hs with rfl | rfl; exact hnl1; exact hnl2) ?_
   intro J4 o4 k4 ey hbv4 hs4
   refine s_put (t := 2) rfl hbv4 ?_
   refine s_mem (fun w h => h.drop.drop) ?_
   have hs3 := hs3.mono ey
   have hf := hf.mono ey
   have hfr := hfr.mono ey
   have hto := hto.mono ey
   have hav := hav.mono ey
   have hle := hle.trans ey
   refine o_enter rfl ?_
   refine Om rfl (Oa rfl (o_done (s_block ?_)))
   refine s_loop ?_
   refine s_seq (Se rfl (Om rfl (Om rfl ?_)))
   refine o_cmp rfl rfl rfl .free rfl ?_
   refine o_done ?_
   refine s_condT rfl (by first | rfl | decide | (simp; done) | omega) ?_
   refine s_skip (s_seq (s_block ?_))
   refine s_here fun hlr => ?_
   have hpl := b.pl_hits av (f ++ [h1, z]) (t ++ [n1, n2]) (fr 120 av (fr 120 av k + 1) + 1)
   refine d_tl 14 rfl rfl ?_
   refine Da 0 rfl (y_fieldAddr rfl) ?_
   refine Dt 1 [13] rfl (y_lO1 rfl) ?_
   refine Da 2 rfl (y_move rfl) ?_
   refine Da 3 rfl (y_fieldAddr rfl) ?_
   refine Dt 4 [13] rfl (y_lO1 rfl) ?_
   refine Da 5 rfl (y_move rfl) ?_
   first | refine Da 6 rfl (y_ixD rfl rfl _ rfl) ?_ | refine Da 6 rfl (y_ixP rfl rfl _ rfl) ?_
   refine Dt 7 [13] rfl (y_lIS rfl) ?_
   refine Da 8 rfl (y_move rfl) ?_
   refine Da 9 rfl (y_move rfl) ?_
   refine Da 10 rfl (y_move rfl) ?_
   refine d_call 11 rfl (by kernel_rfl) rfl rfl .free rfl (ihn (f := f ++ [h1, z]) (t := t ++ [n1, n2]) (by omega) (hf.as 5 b.tree (by omega) rfl) hok.2 hs3 hs4 (by simp [hft]) (by first | omega | (simp only [List.length_append, List.length_cons, List.length_nil]; omega)) hav bp _ (by omega) ha5 _) ?_
   rintro _ J2 _ e2 ⟨cs2, rfl, hr_0, rfl⟩
   obtain ⟨o2, k2, _, rfl, -⟩ := hr_0.open
   have hlr := hlr.trans e2
   have hf := hf.mono e2
   have hfr := hfr.mono e2
   have hto := hto.mono e2
   have hav := hav.mono e2
   have hle := hle.trans e2
   refine ⟨(.inr heldx), ?_⟩
   first | refine Da 12 rfl (y_ixD rfl rfl _ rfl) ?_ | refine Da 12 rfl (y_ixP rfl rfl _ rfl) ?_
   refine d_st 13 rfl (by kernel_rfl) rfl rfl rfl rfl rfl .free (.inl (by kernel_rfl)) ?_
   refine d_done (by kernel_rfl) ?_
   refine s_inBlock ?_
   refine o_enter rfl ?_
   refine Om rfl ?_
   refine o_arith rfl rfl rfl (by omega) .free rfl ?_
   refine Oa rfl (o_done ?_)
   refine s_round ?_
   refine s_seq (Se rfl (Om rfl (Om rfl ?_)))
   refine o_cmp rfl rfl rfl .free rfl ?_
   refine o_done ?_
   refine s_condF rfl (by first | rfl | decide | (simp; done) | omega) ?_
   refine s_exit rfl ?_
   refine Se rfl ?_
   refine o_lOS rfl .free rfl ?_
   refine o_st rfl rfl rfl rfl .free ?_
   refine o_done ?_
   refine s_mem (fun w h => h.f2) (s_freeze ?_)
   intro hz
   have hf := hf.mono hz
   refine s_ret (.c rfl .nil) ?_
   subst hn1e hn2e
   exact ⟨_, _, hle.trans hz, fun w h => Mem.sub (L' := rn bp ov av cv _ :: L) (by repeat (first | exact List.Sublist.refl _ | apply List.Sublist.cons_cons | apply List.Sublist.cons)) h, _, rfl, .mk' rfl (.cons (hf.as 0 (.node tFun []) (by omega) rfl) (.cons (.ofAtom hnl1) (.cons (.ofAtom hnl2) (.cons (hf.as 3 (s.tree) (by omega) rfl) (.cons (hf.as 4 (u.tree) (by omega) rfl) (.cons (hr_0.mono hz) (.nil))))))) (fun y hy => by cases hy; exact still_set (xs := [_, _, _, _, _, _, _, _, _, _, _, _])) (by simp) hcc (by simp [maxN]) (by simp [maxN]), rfl⟩
  ·skip
   refine i_lits 13 rfl rfl rfl rfl (by rfl) (by rfl) (by rfl) (by decide) (by decide) (by rfl) .free rfl (.inr heldx) ?_
   intro b126
   refine d_appendB 2 (B := some (b113, [])) (xs := []) (ys := f.map sv) (m := 0) (c := 0) rfl (by kernel_rfl) rfl (by intro kk; simp) (by rfl) rfl rfl ⟨rfl, Nat.le_refl _, rfl⟩ (by first | exact fun _ h => h | exact fun _ h => h.f1 | exact fun _ h => h.f2 | exact fun _ h => h.f3) (by simp) hfr.reads hfr.none (sv_plain f) (by decide) (by omega) (by decide) .free rfl (fun _ => .inr heldx) ?_
   intro B1 c1 hB1
   refine d_appendB 14 (B := B1) (xs := f.map sv) (ys := [sv h1, sv z]) (m := 0 + f.length) (c := c1) rfl (by kernel_rfl) rfl (by intro kk; simp) (by rfl) rfl rfl hB1 (by first | exact fun _ h => h | exact fun _ h => h.u1 | exact fun _ h => h.u2 | exact fun _ h => h.u3) (by rfl) (fun a ha => by cases ha; exact reads_ownL (by first | exact m0 | exact m1 | exact m2 | exact m3 | exact m4 | exact m5 | exact m6 | exact List.mem_append_right _ m0 | exact List.mem_append_right _ m1 | exact List.mem_append_right _ m2 | exact List.mem_append_right _ m3 | exact .tail _ (List.mem_append_right _ m0) | exact .tail _ (List.mem_append_right _ m1) | exact .tail _ (List.mem_append_right _ m2) | exact .tail _ (List.mem_append_right _ m3)) (by rfl)) (by simp) (by rfl) (by decide) (by omega) (by decide) .free rfl (fun _ => .inr heldx) ?_
   intro B2 c2 hB2
   rw [show f.map sv ++ [sv h1, sv z] = (f ++ [h1, z]).map sv by simp] at hB2 ⊢
   refine d_freezeStrs hB2 (by simp) (by simp [maxN]; omega) (by intro s hs; rcases List.mem_append.1 hs with hs | hs; exact hfr.each s hs; simp only [List.mem_cons, List.not_mem_nil, or_false] at hs; rcases hs with rfl | rfl; exact hhl; exact hzl) ?_
   intro J3 o3 k3 ez hbv hs3
   refine d_put (t := 127) rfl hbv ?_
   have hf := hf.mono ez
   have hfr := hfr.mono ez
   have hto := hto.mono ez
   have hav := hav.mono ez
   have hle := hle.trans ez
   refine Da 15 rfl (y_assign rfl) ?_
   refine d_done (by kernel_rfl) ?_
   refine o_enter rfl ?_
   refine o_lits0 .free rfl ?_
   intro b128
   refine Om rfl ?_
   refine o_appendB (B := some (b128, [])) (xs := []) (ys := t.map sv) (m := 0) (c := 0) (by intro kk; simp) (by rfl) rfl rfl ⟨rfl, Nat.le_refl _, rfl⟩ (by first | exact fun _ h => h | exact fun _ h => h.f1 | exact fun _ h => h.f2 | exact fun _ h => h.f3) (by simp) hto.reads hto.none (sv_plain t) (by decide) (by omega) (by decide) .free rfl ?_
   intro B3 c3 hB3
   refine Om rfl (Om rfl ?_)
   refine o_lits rfl rfl (by rfl) (by rfl) (by rfl) (by decide) (by decide) (by rfl) .free rfl ?_
   intro b133
   refine o_appendB (B := B3) (xs := t.map sv) (ys := [sv n1, sv n2]) (m := 0 + t.length) (c := c3) (by intro kk; simp) (by rfl) rfl rfl hB3 (by first | exact fun _ h => h | exact fun _ h => h.u1 | exact fun _ h => h.u2 | exact fun _ h => h.u3) (by rfl) (fun a ha => by cases ha; exact reads_ownL (by first | exact m0 | exact m1 | exact m2 | exact m3 | exact m4 | exact m5 | exact m6 | exact List.mem_append_right _ m0 | exact List.mem_append_right _ m1 | exact List.mem_append_right _ m2 | exact List.mem_append_right _ m3 | exact .tail _ (List.mem_append_right _ m0) | exact .tail _ (List.mem_append_right _ m1) | exact .tail _ (List.mem_append_right _ m2) | exact .tail _ (List.mem_append_right _ m3)) (by rfl)) (by simp) (by rfl) (by decide) (by omega) (by decide) .free rfl ?_
   intro B4 c4 hB4
   rw [show t.map sv ++ [sv n1, sv n2] = (t ++ [n1, n2]).map sv by simp] at hB4 ⊢
   refine Oa rfl (o_done (s_seq (s_seq ?_)))
   refine s_freezeStrs hB4 (by simp) (by simp [maxN]; omega) (by intro s hs; rcases List.mem_append.1 hs with hs | hs; exact hto.each s hs; simp only [List.mem_cons, List.not_mem_nil, or_false] at hs; rcases hs with rfl | rfl; exact hnl1; exact hnl2) ?_
   intro J4 o4 k4 ey hbv4 hs4
   refine s_put (t := 2) rfl hbv4 ?_
   refine s_mem (fun w h => h.drop.drop) ?_
   have hs3 := hs3.mono ey
   have hf := hf.mono ey
   have hfr := hfr.mono ey
   have hto := hto.mono ey
   have hav := hav.mono ey
   have hle := hle.trans ey
   refine o_enter rfl ?_
   refine Om rfl (Oa rfl (o_done (s_block ?_)))
   refine s_loop ?_
   refine s_seq (Se rfl (Om rfl (Om rfl ?_)))
   refine o_cmp rfl rfl rfl .free rfl ?_
   refine o_done ?_
   refine s_condT rfl (by first | rfl | decide | (simp; done) | omega) ?_
   refine s_skip (s_seq (s_block ?_))
   refine s_here fun hlr => ?_
   have hpl := b.pl_hits av (f ++ [h1, z]) (t ++ [n1, n2]) (fr 120 av (fr 120 av k + 1) + 1)
   refine d_tl 14 rfl rfl ?_
   refine Da 0 rfl (y_fieldAddr rfl) ?_
   refine Dt 1 [13] rfl (y_lO1 rfl) ?_
   refine Da 2 rfl (y_move rfl) ?_
   refine Da 3 rfl (y_fieldAddr rfl) ?_
   refine Dt 4 [13] rfl (y_lO1 rfl) ?_
   refine Da 5 rfl (y_move rfl) ?_
   first | refine Da 6 rfl (y_ixD rfl rfl _ rfl) ?_ | refine Da 6 rfl (y_ixP rfl rfl _ rfl) ?_
   refine Dt 7 [13] rfl (y_lIS rfl) ?_
   refine Da 8 rfl (y_move rfl) ?_
   refine Da 9 rfl (y_move rfl) ?_
   refine Da 10 rfl (y_move rfl) ?_
   refine d_call 11 rfl (by kernel_rfl) rfl rfl .free rfl (ihn (f := f ++ [h1, z]) (t := t ++ [n1, n2]) (by omega) (hf.as 5 b.tree (by omega) rfl) hok.2 hs3 hs4 (by simp [hft]) (by first | omega | (simp only [List.length_append, List.length_cons, List.length_nil]; omega)) hav bp _ (by omega) ha5 _) ?_
   rintro _ J2 _ e2 ⟨cs2, rfl, hr_0, rfl⟩
   obtain ⟨o2, k2, _, rfl, -⟩ := hr_0.open
   have hlr := hlr.trans e2
   have hf := hf.mono e2
   have hfr := hfr.mono e2
   have hto := hto.mono e2
   have hav := hav.mono e2
   have hle := hle.trans e2
   refine ⟨(.inr heldx), ?_⟩
   first | refine Da 12 rfl (y_ixD rfl rfl _ rfl) ?_ | refine Da 12 rfl (y_ixP rfl rfl _ rfl) ?_
   refine d_st 13 rfl (by kernel_rfl) rfl rfl rfl rfl rfl .free (.inl (by kernel_rfl)) ?_
   refine d_done (by kernel_rfl) ?_
   refine s_inBlock ?_
   refine o_enter rfl ?_
   refine Om rfl ?_
   refine o_arith rfl rfl rfl (by omega) .free rfl ?_
   refine Oa rfl (o_done ?_)
   refine s_round ?_
   refine s_seq (Se rfl (Om rfl (Om rfl ?_)))
   refine o_cmp rfl rfl rfl .free rfl ?_
   refine o_done ?_
   refine s_condF rfl (by first | rfl | decide | (simp; done) | omega) ?_
   refine s_exit rfl ?_
   refine Se rfl ?_
   refine o_lOS rfl .free rfl ?_
   refine o_st rfl rfl rfl rfl .free ?_
   refine o_done ?_
   refine s_mem (fun w h => h.f2) (s_freeze ?_)
   intro hz
   have hf := hf.mono hz
   refine s_ret (.c rfl .nil) ?_
   subst hn1e hn2e
   exact ⟨_, _, hle.trans hz, fun w h => Mem.sub (L' := rn bp ov av cv _ :: L) (by repeat (first | exact List.Sublist.refl _ | apply List.Sublist.cons_cons | apply List.Sublist.cons)) h, _, rfl, .mk' rfl (.cons (hf.as 0 (.node tFun []) (by omega) rfl) (.cons (.ofAtom hnl1) (.cons (.ofAtom hnl2) (.cons (hf.as 3 (s.tree) (by omega) rfl) (.cons (hf.as 4 (u.tree) (by omega) rfl) (.cons (hr_0.mono hz) (.nil))))))) (fun y hy => by cases hy; exact still_set (xs := [_, _, _, _, _, _, _, _, _, _, _, _])) (by simp) hcc (by simp [maxN]) (by simp [maxN]), rfl⟩
 ·skip
  refine i_lits 13 rfl rfl rfl rfl (by rfl) (by rfl) (by rfl) (by decide) (by decide) (by rfl) .free rfl (.inr heldx) ?_
  intro b126
  refine d_lits0 0 rfl (by kernel_rfl) rfl .free rfl (.inr heldx) ?_
  intro b113
  refine d_appendB 2 (B := some (b113, [])) (xs := []) (ys := f.map sv) (m := 0) (c := 0) rfl (by kernel_rfl) rfl (by intro kk; simp) (by rfl) rfl rfl ⟨rfl, Nat.le_refl _, rfl⟩ (by first | exact fun _ h => h | exact fun _ h => h.f1 | exact fun _ h => h.f2 | exact fun _ h => h.f3) (by simp) hfr.reads hfr.none (sv_plain f) (by decide) (by omega) (by decide) .free rfl (fun _ => .inr heldx) ?_
  intro B1 c1 hB1
  refine d_appendB 14 (B := B1) (xs := f.map sv) (ys := [sv h1, sv z]) (m := 0 + f.length) (c := c1) rfl (by kernel_rfl) rfl (by intro kk; simp) (by rfl) rfl rfl hB1 (by first | exact fun _ h => h | exact fun _ h => h.u1 | exact fun _ h => h.u2 | exact fun _ h => h.u3) (by rfl) (fun a ha => by cases ha; exact reads_ownL (by first | exact m0 | exact m1 | exact m2 | exact m3 | exact m4 | exact m5 | exact m6 | exact List.mem_append_right _ m0 | exact List.mem_append_right _ m1 | exact List.mem_append_right _ m2 | exact List.mem_append_right _ m3 | exact .tail _ (List.mem_append_right _ m0) | exact .tail _ (List.mem_append_right _ m1) | exact .tail _ (List.mem_append_right _ m2) | exact .tail _ (List.mem_append_right _ m3)) (by rfl)) (by simp) (by rfl) (by decide) (by omega) (by decide) .free rfl (fun _ => .inr heldx) ?_
  intro B2 c2 hB2
  rw [show f.map sv ++ [sv h1, sv z] = (f ++ [h1, z]).map sv by simp] at hB2 ⊢
  refine d_freezeStrs hB2 (by simp) (by simp [maxN]; omega) (by intro s hs; rcases List.mem_append.1 hs with hs | hs; exact hfr.each s hs; simp only [List.mem_cons, List.not_mem_nil, or_false] at hs; rcases hs with rfl | rfl; exact hhl; exact hzl) ?_
  intro J3 o3 k3 ez hbv hs3
  refine d_put (t := 127) rfl hbv ?_
  have hf := hf.mono ez
  have hfr := hfr.mono ez
  have hto := hto.mono ez
  have hav := hav.mono ez
  have hle := hle.trans ez
  refine Da 15 rfl (y_assign rfl) ?_
  refine d_done (by kernel_rfl) ?_
  refine o_enter rfl ?_
  refine o_lits0 .free rfl ?_
  intro b128
  refine Om rfl ?_
  refine o_appendB (B := some (b128, [])) (xs := []) (ys := t.map sv) (m := 0) (c := 0) (by intro kk; simp) (by rfl) rfl rfl ⟨rfl, Nat.le_refl _, rfl⟩ (by first | exact fun _ h => h | exact fun _ h => h.f1 | exact fun _ h => h.f2 | exact fun _ h => h.f3) (by simp) hto.reads hto.none (sv_plain t) (by decide) (by omega) (by decide) .free rfl ?_
  intro B3 c3 hB3
  refine Om rfl (Om rfl ?_)
  refine o_lits rfl rfl (by rfl) (by rfl) (by rfl) (by decide) (by decide) (by rfl) .free rfl ?_
  intro b133
  refine o_appendB (B := B3) (xs := t.map sv) (ys := [sv n1, sv n2]) (m := 0 + t.length) (c := c3) (by intro kk; simp) (by rfl) rfl rfl hB3 (by first | exact fun _ h => h | exact fun _ h => h.u1 | exact fun _ h => h.u2 | exact fun _ h => h.u3) (by rfl) (fun a ha => by cases ha; exact reads_ownL (by first | exact m0 | exact m1 | exact m2 | exact m3 | exact m4 | exact m5 | exact m6 | exact List.mem_append_right _ m0 | exact List.mem_append_right _ m1 | exact List.mem_append_right _ m2 | exact List.mem_append_right _ m3 | exact .tail _ (List.mem_append_right _ m0) | exact .tail _ (List.mem_append_right _ m1) | exact .tail _ (List.mem_append_right _ m2) | exact .tail _ (List.mem_append_right _ m3)) (by rfl)) (by simp) (by rfl) (by decide) (by omega) (by decide) .free rfl ?_
  intro B4 c4 hB4
  rw [show t.map sv ++ [sv n1, sv n2] = (t ++ [n1, n2]).map sv by simp] at hB4 ⊢
  refine Oa rfl (o_done (s_seq (s_seq ?_)))
  refine s_freezeStrs hB4 (by simp) (by simp [maxN]; omega) (by intro s hs; rcases List.mem_append.1 hs with hs | hs; exact hto.each s hs; simp only [List.mem_cons, List.not_mem_nil, or_false] at hs; rcases hs with rfl | rfl; exact hnl1; exact hnl2) ?_
  intro J4 o4 k4 ey hbv4 hs4
  refine s_put (t := 2) rfl hbv4 ?_
  refine s_mem (fun w h => h.drop.drop) ?_
  have hs3 := hs3.mono ey
  have hf := hf.mono ey
  have hfr := hfr.mono ey
  have hto := hto.mono ey
  have hav := hav.mono ey
  have hle := hle.trans ey
  refine o_enter rfl ?_
  refine Om rfl (Oa rfl (o_done (s_block ?_)))
  refine s_loop ?_
  refine s_seq (Se rfl (Om rfl (Om rfl ?_)))
  refine o_cmp rfl rfl rfl .free rfl ?_
  refine o_done ?_
  refine s_condT rfl (by first | rfl | decide | (simp; done) | omega) ?_
  refine s_skip (s_seq (s_block ?_))
  refine s_here fun hlr => ?_
  have hpl := b.pl_hits av (f ++ [h1, z]) (t ++ [n1, n2]) (fr 120 av (fr 120 av k + 1) + 1)
  refine d_tl 14 rfl rfl ?_
  refine Da 0 rfl (y_fieldAddr rfl) ?_
  refine Dt 1 [13] rfl (y_lO1 rfl) ?_
  refine Da 2 rfl (y_move rfl) ?_
  refine Da 3 rfl (y_fieldAddr rfl) ?_
  refine Dt 4 [13] rfl (y_lO1 rfl) ?_
  refine Da 5 rfl (y_move rfl) ?_
  first | refine Da 6 rfl (y_ixD rfl rfl _ rfl) ?_ | refine Da 6 rfl (y_ixP rfl rfl _ rfl) ?_
  refine Dt 7 [13] rfl (y_lIS rfl) ?_
  refine Da 8 rfl (y_move rfl) ?_
  refine Da 9 rfl (y_move rfl) ?_
  refine Da 10 rfl (y_move rfl) ?_
  refine d_call 11 rfl (by kernel_rfl) rfl rfl .free rfl (ihn (f := f ++ [h1, z]) (t := t ++ [n1, n2]) (by omega) (hf.as 5 b.tree (by omega) rfl) hok.2 hs3 hs4 (by simp [hft]) (by first | omega | (simp only [List.length_append, List.length_cons, List.length_nil]; omega)) hav bp _ (by omega) ha5 _) ?_
  rintro _ J2 _ e2 ⟨cs2, rfl, hr_0, rfl⟩
  obtain ⟨o2, k2, _, rfl, -⟩ := hr_0.open
  have hlr := hlr.trans e2
  have hf := hf.mono e2
  have hfr := hfr.mono e2
  have hto := hto.mono e2
  have hav := hav.mono e2
  have hle := hle.trans e2
  refine ⟨(.inr heldx), ?_⟩
  first | refine Da 12 rfl (y_ixD rfl rfl _ rfl) ?_ | refine Da 12 rfl (y_ixP rfl rfl _ rfl) ?_
  refine d_st 13 rfl (by kernel_rfl) rfl rfl rfl rfl rfl .free (.inl (by kernel_rfl)) ?_
  refine d_done (by kernel_rfl) ?_
  refine s_inBlock ?_
  refine o_enter rfl ?_
  refine Om rfl ?_
  refine o_arith rfl rfl rfl (by omega) .free rfl ?_
  refine Oa rfl (o_done ?_)
  refine s_round ?_
  refine s_seq (Se rfl (Om rfl (Om rfl ?_)))
  refine o_cmp rfl rfl rfl .free rfl ?_
  refine o_done ?_
  refine s_condF rfl (by first | rfl | decide | (simp; done) | omega) ?_
  refine s_exit rfl ?_
  refine Se rfl ?_
  refine o_lOS rfl .free rfl ?_
  refine o_st rfl rfl rfl rfl .free ?_
  refine o_done ?_
  refine s_mem (fun w h => h.f2) (s_freeze ?_)
  intro hz
  have hf := hf.mono hz
  refine s_ret (.c rfl .nil) ?_
  subst hn1e hn2e
  exact ⟨_, _, hle.trans hz, fun w h => Mem.sub (L' := rn bp ov av cv _ :: L) (by repeat (first | exact List.Sublist.refl _ | apply List.Sublist.cons_cons | apply List.Sublist.cons)) h, _, rfl, .mk' rfl (.cons (hf.as 0 (.node tFun []) (by omega) rfl) (.cons (.ofAtom hnl1) (.cons (.ofAtom hnl2) (.cons (hf.as 3 (s.tree) (by omega) rfl) (.cons (hf.as 4 (u.tree) (by omega) rfl) (.cons (hr_0.mono hz) (.nil))))))) (fun y hy => by cases hy; exact still_set (xs := [_, _, _, _, _, _, _, _, _, _, _, _])) (by simp) hcc (by simp [maxN]) (by simp [maxN]), rfl⟩
set_option maxHeartbeats 2000000 in
theorem plain_un {n : Nat} (ihn : PlainH n) {o : U2} {a : Ex} {I : Heap} {cs : List Value} (hlt : SizeOf.sizeOf (Ex.un o a) < n + 1) (h : Rep I (Ex.un o a).tree cs) (hok : (Ex.un o a).ok = true) {f t : List Txt} {of ot : Option Addr} {cf ct : Nat} (hfr : Strs I of f cf) (hto : Strs I ot t ct) (hft : f.length = t.length) (hfl : f.length + 2 * (Ex.un o a).size ≤ 100000)
  {ov : Option Addr} {av : List Txt} {cv : Nat} (hav : Strs I ov av cv) (bp k : Nat) (hk : k + (Ex.un o a).nb + av.length ≤ 90 + hits 120 av k) (ha5 : av.length ≤ 500) (L : Own) :
  Fun Tryz.prog 66 [.agg cs.toArray, .slice of f.length cf, .slice ot t.length ct, .pointer (some ⟨bp, 0, none⟩)] I (rn bp ov av cv k :: L) (PR bp ov av cv ((Ex.un o a).pl av f t k) L) := by
 obtain ⟨oa, c, oaf, cf1, rfl, hf, hcl, hcs⟩ := h.cells
 have hle : HLe I I := .refl _
 have ha := hf.alen
 have hh0 := hits_le 120 av k
 refine fun_intro (by simp) ?_
 refine Se rfl ?_
 refine o_box rfl rfl .free rfl ?_
 intro b4
 refine o_alloc .free rfl ?_
 intro b8
 refine o_done (s_seq (Se rfl ?_))
 refine o_fieldAddr rfl .free rfl ?_
 refine o_lO1 rfl .free rfl ?_
 refine o_cmps rfl rfl rfl .free rfl ?_
 refine o_done ?_
 first | refine s_fp rfl (by simp [Ex.tree, Tree.atom]) ?_ | refine s_fn rfl (by simp [Ex.tree, Tree.atom]) ?_ | refine s_false (by simp [look, opd, *]) ?_
 refine s_skip (s_seq ?_)
 have hok0 := hok
 have hb : (Ex.un o a).bare = false := rfl
 have hpos : 0 < (Ex.un o a).tree.parts.length := by
  rw [Ex.bare_parts] at hb
  have : (Ex.un o a).tree.parts ≠ [] := by intro hh; rw [hh] at hb; cases hb
  exact List.length_pos_iff.2 this
 have hhd := head_at hpos
 obtain ⟨xa, rfl⟩ : ∃ xa, oa = some xa := ⟨_, some_oad hf.nil hpos⟩
 have hp := hf.len
 unfold maxN at hp
 refine o_enter rfl ?_
 refine o_lits0 .free rfl ?_
 intro b29
 refine o_fieldAddr rfl .free rfl ?_
 refine o_lO1 rfl .free rfl ?_
 refine o_append (B := some (b29, [])) (xs := []) (ys := cellsF oaf cf1 0 (Ex.un o a).tree.parts) (m := 0) (c := 0) (by intro kk; simp) (by rfl) rfl rfl ⟨rfl, Nat.le_refl _, rfl⟩ (fun _ h => h) (by have := hcl.length; omega) (fun a ha => by cases ha; exact (hcs _ rfl).reads) (by simp) hcl.plain hpos (by decide) (by omega) (by decide) .free rfl ?_
 intro bc sp cc hB'
 have hcc : (Ex.un o a).tree.parts.length ≤ cc := by have := hB'.2.1; omega
 refine o_put (t := 32) (v' := .slice (some ⟨bc, 0, none⟩) (Ex.un o a).tree.parts.length cc) rfl (by rw [Nat.zero_add]) ?_
 simp only [List.nil_append]
 refine o_struct rfl rfl rfl .free rfl ?_
 refine o_alloc .free rfl ?_
 intro b9
 refine o_st rfl rfl rfl rfl .free ?_
 refine o_done (Se rfl ?_)
 refine o_fieldAddr rfl .free rfl ?_
 refine o_lO1 rfl .free rfl ?_
 first | refine o_ixD rfl rfl 0 rfl .free rfl ?_ | refine o_ixP rfl rfl 0 rfl .free rfl ?_
 refine o_fieldAddr' rfl .free rfl ?_
 refine o_lIF rfl .free rfl ?_
 refine o_call rfl .free rfl (g_l2Kids ((Ex.un o a).tree.pt 0).atom _ _) ?_
 rw [← hhd]; rintro _ _ _ _ ⟨rfl, rfl, rfl⟩
 refine Om rfl ?_
 refine o_extract rfl rfl .free rfl ?_
 refine o_extract rfl rfl .free rfl ?_
 refine Oa rfl (Oa rfl (o_done (s_seq (s_seq ?_))))
 have hkr : kidRange (Ex.un o a).tree.head = (1, 2) := by cases o <;> rfl
 rw [hkr]
 have hlen : (Ex.un o a).tree.parts.length = 2 := rfl
 have hki := kids_un o a
 have hp0 : ((Ex.un o a).tree.pt 0).atom = o.txt := rfl
 simp only [Ex.un.sizeOf_spec] at hlt
 simp only [Ex.ok, Bool.and_eq_true, decide_eq_true_eq] at hok
 simp only [Ex.nb] at hk
 simp only [Ex.size] at hfl
 simp only [show (Ex.un o a).tree.parts = [.node o.txt [], a.tree] from rfl, cellsF, List.cons_append, List.nil_append]
 refine s_mem (fun w h => h.f4) ?_
 refine o_enter rfl ?_
 refine o_fieldAddr rfl .free rfl ?_
 refine o_lO1 rfl .free rfl ?_
 first | refine o_ixD rfl rfl 0 rfl .free rfl ?_ | refine o_ixP rfl rfl 0 rfl .free rfl ?_
 refine o_fieldAddr' rfl .free rfl ?_
 refine o_lIF rfl .free rfl ?_
 refine o_cmps rfl rfl rfl .free rfl ?_
 refine o_done ?_
 first | refine s_fp rfl (by rw [hp0]; cases o <;> decide) ?_ | refine s_fn rfl (by rw [hp0]; cases o <;> decide) ?_ | refine s_false (by simp [look, opd, *]) ?_
 refine s_skip (s_seq (Se rfl ?_))
 refine o_fieldAddr rfl .free rfl ?_
 refine o_lO1 rfl .free rfl ?_
 first | refine o_ixD rfl rfl 0 rfl .free rfl ?_ | refine o_ixP rfl rfl 0 rfl .free rfl ?_
 refine o_fieldAddr' rfl .free rfl ?_
 refine o_lIF rfl .free rfl ?_
 refine o_cmps rfl rfl rfl .free rfl ?_
 refine o_done ?_
 first | refine s_fp rfl (by rw [hp0]; cases o <;> decide) ?_ | refine s_fn rfl (by rw [hp0]; cases o <;> decide) ?_ | refine s_false (by simp [look, opd, *]) ?_
 refine s_skip (s_seq (Se rfl (Om rfl (Oa rfl (o_done (s_block ?_))))))
 refine s_loop ?_
 refine s_seq (Se rfl (Om rfl (Om rfl ?_)))
 refine o_cmp rfl rfl rfl .free rfl ?_
 refine o_done ?_
 refine s_condT rfl (by first | rfl | decide | (simp; done) | omega) ?_
 refine s_skip (s_seq (s_block ?_))
 refine s_here fun hlr => ?_
 have hpl := a.pl_hits av (f) (t) k
 refine d_tl 14 rfl rfl ?_
 refine Da 0 rfl (y_fieldAddr rfl) ?_
 refine Dt 1 [13] rfl (y_lO1 rfl) ?_
 refine Da 2 rfl (y_move rfl) ?_
 refine Da 3 rfl (y_fieldAddr rfl) ?_
 refine Dt 4 [13] rfl (y_lO1 rfl) ?_
 refine Da 5 rfl (y_move rfl) ?_
 first | refine Da 6 rfl (y_ixD rfl rfl _ rfl) ?_ | refine Da 6 rfl (y_ixP rfl rfl _ rfl) ?_
 refine Dt 7 [13] rfl (y_lIS rfl) ?_
 refine Da 8 rfl (y_move rfl) ?_
 refine Da 9 rfl (y_move rfl) ?_
 refine Da 10 rfl (y_move rfl) ?_
 refine d_call 11 rfl (by kernel_rfl) rfl rfl .free rfl (ihn (f := f) (t := t) (by omega) (hf.as 1 a.tree (by omega) rfl) hok hfr hto (by simp [hft]) (by first | omega | (simp only [List.length_append, List.length_cons, List.length_nil]; omega)) hav bp _ (by omega) ha5 _) ?_
 rintro _ J2 _ e2 ⟨cs2, rfl, hr_0, rfl⟩
 obtain ⟨o2, k2, _, rfl, -⟩ := hr_0.open
 have hlr := hlr.trans e2
 have hf := hf.mono e2
 have hfr := hfr.mono e2
 have hto := hto.mono e2
 have hav := hav.mono e2
 have hle := hle.trans e2
 refine ⟨(.inr heldx), ?_⟩
 first | refine Da 12 rfl (y_ixD rfl rfl _ rfl) ?_ | refine Da 12 rfl (y_ixP rfl rfl _ rfl) ?_
 refine d_st 13 rfl (by kernel_rfl) rfl rfl rfl rfl rfl .free (.inl (by kernel_rfl)) ?_
 refine d_done (by kernel_rfl) ?_
 refine s_inBlock ?_
 refine o_enter rfl ?_
 refine Om rfl ?_
 refine o_arith rfl rfl rfl (by omega) .free rfl ?_
 refine Oa rfl (o_done ?_)
 refine s_round ?_
 refine s_seq (Se rfl (Om rfl (Om rfl ?_)))
 refine o_cmp rfl rfl rfl .free rfl ?_
 refine o_done ?_
 refine s_condF rfl (by first | rfl | decide | (simp; done) | omega) ?_
 refine s_exit rfl ?_
 refine Se rfl ?_
 refine o_lOS rfl .free rfl ?_
 refine o_st rfl rfl rfl rfl .free ?_
 refine o_done ?_
 refine s_mem (fun w h => h.f2) (s_freeze ?_)
 intro hz
 have hf := hf.mono hz
 refine s_ret (.c rfl .nil) ?_
 exact ⟨_, _, hle.trans hz, fun w h => Mem.sub (L' := rn bp ov av cv _ :: L) (by repeat (first | exact List.Sublist.refl _ | apply List.Sublist.cons_cons | apply List.Sublist.cons)) h, _, rfl, .mk' rfl (.cons (hf.as 0 (.node o.txt []) (by omega) rfl) (.cons (hr_0.mono hz) (.nil))) (fun y hy => by cases hy; exact still_set (xs := [_, _, _, _])) (by simp) hcc (by simp [maxN]) (by simp [maxN]), rfl⟩
set_option maxHeartbeats 2000000 in
theorem plain_atom {e : Ex} {I : Heap} {cs : List Value} (hb : e.bare = true) (h : Rep I e.tree cs) (hok : e.ok = true) {f t : List Txt} {of ot : Option Addr} {cf ct : Nat} (hfr : Strs I of f cf) (hto : Strs I ot t ct) (hft : f.length = t.length)
  {ov : Option Addr} {av : List Txt} {cv : Nat} (hav : Strs I ov av cv) (bp k : Nat) (L : Own) :
  Fun Tryz.prog 66 [.agg cs.toArray, .slice of f.length cf, .slice ot t.length ct, .pointer (some ⟨bp, 0, none⟩)] I (rn bp ov av cv k :: L) (PR bp ov av cv (e.pl av f t k) L) := by
 obtain ⟨oa, c, oaf, cf1, rfl, hf, hcl, hcs⟩ := h.cells
 have hle : HLe I I := .refl _
 have ha := hf.alen
 have hh0 := hits_le 120 av k
 refine fun_intro (by simp) ?_
 refine Se rfl ?_
 refine o_box rfl rfl .free rfl ?_
 intro b4
 refine o_alloc .free rfl ?_
 intro b8
 refine o_done (s_seq (Se rfl ?_))
 refine o_fieldAddr rfl .free rfl ?_
 refine o_lO1 rfl .free rfl ?_
 refine o_cmps rfl rfl rfl .free rfl ?_
 refine o_done ?_
 first | refine s_tp rfl (by exact fun h2 => by have h3 := (Ex.atom_iff hok).1 h2; rw [hb] at h3; cases h3) ?_ | refine s_tn rfl (by exact fun h2 => by have h3 := (Ex.atom_iff hok).1 h2; rw [hb] at h3; cases h3) ?_ | refine s_true (by simp [look, opd, *]) ?_
 refine s_seq (Se rfl ?_)
 refine o_fieldAddr rfl .free rfl ?_
 refine o_lO1 rfl .free rfl ?_
 refine o_call rfl .free rfl (g_l2Name e.tree.atom ha _ _) ?_
 rintro _ _ _ _ ⟨rfl, rfl, rfl⟩
 refine o_done ?_
 refine s_cond rfl ?_ ?_
 ·intro c1
  try simp only [nb] at c1
  refine Se rfl (Om rfl (Om rfl ?_))
  refine o_fieldAddr rfl .free rfl ?_
  refine o_lO1 rfl .free rfl ?_
  refine o_call rfl .free rfl (g_l2Look hfr hto hft e.tree.atom _) ?_
  rintro _ _ _ _ ⟨rfl, rfl, rfl⟩
  refine o_call rfl .free rfl (g_l1Atom (lookOr f t e.tree.atom) _ _) ?_
  rintro _ _ _ _ ⟨rfl, rfl, rfl⟩
  refine o_st rfl rfl rfl rfl .free ?_
  refine o_done ?_
  refine s_ret (.c rfl .nil) ?_
  cases e with
  | name s =>
   refine ⟨I, _, .refl _, fun w h => Mem.sub (L' := rn bp ov av cv k :: L) (by repeat (first | exact List.Sublist.refl _ | apply List.Sublist.cons_cons | apply List.Sublist.cons)) h, _, rfl, .ofAtom ?_, rfl⟩
   show (match lastIdx f s with | some i => t.getD i [] | none => s).length ≤ maxN
   cases hi : lastIdx f s with
   | none => exact ha
   | some i =>
    have hil := (lastAt_lt (show lastAt f s f.length = some i from hi)).1
    have hit : i < t.length := by omega
    show (t.getD i []).length ≤ maxN
    rw [show t.getD i [] = t[i] by simp [hit]]; exact hto.each _ (List.getElem_mem _)
  | num s =>
   have h1 := name_not_num (show isName s = true from c1)
   rw [show isNum s = true from hok] at h1; cases h1
  | _ => cases hb
 intro c1
 try simp only [nb] at c1
 refine s_skip (Se rfl ?_)
 refine o_lOS rfl .free rfl ?_
 refine o_st rfl rfl rfl rfl .free ?_
 refine o_done ?_
 refine s_ret (.c rfl .nil) ?_
 cases e with
 | num s => exact ⟨I, _, .refl _, fun w h => Mem.sub (L' := rn bp ov av cv k :: L) (by repeat (first | exact List.Sublist.refl _ | apply List.Sublist.cons_cons | apply List.Sublist.cons)) h, _, rfl, hf.rep, rfl⟩
 | name s => rw [show isName (Ex.name s).tree.atom = true from hok] at c1; cases c1
 | _ => cases hb
theorem g_l2Plain_all : ∀ n : Nat, PlainH n := by
 intro n
 induction n with
 | zero => intro I e cs h; omega
 | succ n ihn =>
  intro I e cs hlt h hok f t of ot cf ct hfr hto hft hfl ov av cv hav bp k hk ha5 L
  cases hb : e.bare with
  | true => exact plain_atom hb h hok hfr hto hft hav bp k L
  | false =>
   cases e with
   | num s => cases hb
   | name s => cases hb
   | bin o a b => exact plain_bin ihn hlt h hok hfr hto hft hfl hav bp k hk ha5 L
   | ite a b d => exact plain_ite ihn hlt h hok hfr hto hft hfl hav bp k hk ha5 L
   | lt z a b => exact plain_lt ihn hlt h hok hfr hto hft hfl hav bp k hk ha5 L
   | fn h1 z s u b => exact plain_fn ihn hlt h hok hfr hto hft hfl hav bp k hk ha5 L
   | un o a => exact plain_un ihn hlt h hok hfr hto hft hfl hav bp k hk ha5 L
theorem g_l2Plain (n : Nat) {I : Heap} {e : Ex} {cs : List Value} (h1 : SizeOf.sizeOf e < n) (h2 : Rep I e.tree cs) (h3 : e.ok = true) {f t : List Txt} {of ot : Option Addr} {cf ct : Nat} (h4 : Strs I of f cf) (h5 : Strs I ot t ct) (h6 : f.length = t.length) (h7 : f.length + 2 * e.size ≤ 100000)
  {oa : Option Addr} {av : List Txt} {c : Nat} (h8 : Strs I oa av c) (b k : Nat) (h9 : k + e.nb + av.length ≤ 90 + hits 120 av k) (h10 : av.length ≤ 500) (L : Own) :
  Fun Tryz.prog 66 [.agg cs.toArray, .slice of f.length cf, .slice ot t.length ct, .pointer (some ⟨b, 0, none⟩)] I (rn b oa av c k :: L) (PR b oa av c (e.pl av f t k) L) :=
 g_l2Plain_all n h1 h2 h3 h4 h5 h6 h7 h8 b k h9 h10 L
/-- What 'ExprPut' returns. -/
def putOf (s nm by' : Txt) : Option Txt := match exOf s, closedOf by' with
 | some e, some v => if isName nm = true ∧ (e.put nm v).fine = true then some (e.put nm v).tree.text else none
 | _, _ => none
/-- A buffer of texts that is written no more, within a region. -/
theorem o_freezeStrs {P : Program} {f : FuncId} {n : Nat} {I₀ : Heap} {Q : Post} {k : List Item} {E : Env} {I : Heap} {L : Own} {ops : Array Oper} {ol : List Oper} {e : TypeId} {l : List Txt} {B : Buf} {m c : Nat}
  (hB : BufOk 1 m c (l.map sv) B) (hm : m = l.length) (hlen : l.length ≤ maxN) (hs : ∀ s ∈ l, s.length ≤ maxN)
  (h : ∀ I' oa c', HLe I I' → bufVal m c B = .slice oa l.length c' → Strs I' oa l c' → RunO P f n I₀ Q ops ol k E I' L) : RunO P f n I₀ Q ops ol k E I (bufOwn e (l.map sv) B ++ L) := by
 cases B with
 | none =>
  obtain ⟨h1, h2, h3⟩ := hB
  obtain rfl : l = [] := by simpa using h1
  exact h I .none 0 (.refl _) rfl ⟨by simp, by simp, by simp, hlen, hs⟩
 | some p =>
  obtain ⟨b, sp⟩ := p
  refine o_freeze fun hle => h _ (some ⟨b, 0, .none⟩) c hle (by rw [← hm]; rfl) ⟨fun y hy => ?_, by simp, by have := hB.2.1; omega, hlen, hs⟩
  cases hy; exact still_set
/-- The reference's plain one. -/
theorem g_l2Plainly {I : Heap} {e : Ex} {cs : List Value} (h : Rep I e.tree cs) (hfine : e.fine = true) (L : Own) : Fun Tryz.prog 34 [.agg cs.toArray] I L (fun v I' L' => ∃ ds, v = .tuple #[.agg (List.toArray ds), .bool true] ∧ Rep I' e.plain.tree ds ∧ L = L') := by
 obtain ⟨oa, c, oaf, cf, rfl, hf⟩ := h.at'
 have hf2 := hfine
 simp only [Ex.fine, Bool.and_eq_true, decide_eq_true_eq, Tree.fits] at hf2
 have hroom := plain_room hf2.1.2
 have hph := e.pl_hits e.free [] [] 0
 have hh0 : hits 120 e.free 0 = 0 := rfl
 have hh1 := hits_le 120 e.free (e.pl e.free [] [] 0).2
 refine fun_intro (by simp) ?_
 refine Se rfl ?_
 refine o_box rfl rfl .free rfl ?_
 intro b1
 refine o_alloc .free rfl ?_
 intro b2
 refine Oa rfl (o_done (Se rfl ?_))
 refine o_lOS rfl .free rfl ?_
 refine o_lits0 .free rfl ?_
 intro b7
 refine o_lits0 .free rfl ?_
 intro b8
 refine o_mem (L' := bufOwn 9 (([] : List Txt).map sv) (some (b8, [])) ++ _) (fun w h => h) ?_
 refine o_call rfl .free rfl (g_l2Free _ (Nat.lt_succ_self _) hf.rep hf2.1.1 (strs_empty _ _) (by unfold maxN; simp; omega) [] (some (b8, [])) 0 (by simp; omega) ⟨rfl, Nat.le_refl _, rfl⟩ _) ?_
 rintro _ J1 _ e1 ⟨B, cB, rfl, hB, rfl⟩
 have hll := addAll_len [] (e.occ [])
 have hol := e.occ_len []
 simp only [List.length_nil, Nat.zero_add] at hll
 have hnm : ∀ z ∈ addAll [] (e.occ []), isName z = true := fun z hz => Ex.occ_name hf2.1.1 z (by simpa [addAll_mem] using hz)
 refine o_freezeStrs hB rfl (by unfold maxN; omega) (names_strs hnm) ?_
 intro J2 ov cv ez hbv hav
 refine o_put (t := 9) rfl hbv ?_
 have hav : Strs J2 ov e.free cv := hav
 have hf := (hf.mono e1).mono ez
 have hle := e1.trans ez
 refine o_struct rfl rfl rfl .free rfl ?_
 refine o_box rfl rfl .free rfl ?_
 intro b11
 refine Oa rfl (o_done (Se rfl ?_))
 refine o_lOS rfl .free rfl ?_
 refine o_lits0 .free rfl ?_
 intro b13
 refine o_lits0 .free rfl ?_
 intro b14
 refine Om rfl ?_
 refine o_mem (L' := rn b11 ov e.free cv 0 :: _) (fun w h => h.f2) ?_
 refine o_call rfl .free rfl (g_l2Plain _ (Nat.lt_succ_self _) hf.rep hf2.1.1 (strs_empty _ _) (strs_empty _ _) rfl (by simp; omega) hav b11 0 (by omega) (by omega) _) ?_
 rintro _ J3 _ e3 ⟨ds, rfl, hr, rfl⟩
 have hr : Rep J3 e.plain.tree ds := hr
 obtain ⟨od, cd, _, rfl, -⟩ := hr.open
 have hle := hle.trans e3
 unfold rn
 refine o_alloc .free rfl ?_
 intro b5
 refine o_st rfl rfl rfl rfl .free ?_
 refine o_done (s_seq ?_)
 refine d_all 8 rfl rfl ?_
 refine Dt 0 [6] rfl (y_lOS rfl) ?_
 refine Da 1 rfl (y_move rfl) ?_
 refine Da 2 rfl (y_nilCheck rfl) ?_
 first | refine Da 3 rfl (y_fieldAddr rfl) ?_ | refine Da 3 rfl (y_fieldAddr' rfl) ?_
 refine d_two 4 6 (by kernel_rfl) ?_ ?_
 ·skip
  refine i_yld 4 rfl rfl (y_lJ rfl) .free rfl (.inr heldx) ?_
  refine Da 5 rfl (y_cmp rfl rfl rfl) ?_
  refine d_st 6 rfl (by kernel_rfl) rfl rfl rfl rfl rfl .free (.inl (by kernel_rfl)) ?_
  refine d_takeA 7 rfl (by kernel_rfl) rfl (.inl (by kernel_rfl)) (y_assign rfl) .free rfl ?_
  refine d_done (by kernel_rfl) ?_
  refine s_ret (.c rfl (.tmp rfl .nil)) ?_
  refine ⟨J3, L, hle, drops, _, ?_, hr, rfl⟩
  simp [retOne]; omega
 ·skip
  refine i_st 6 rfl rfl rfl rfl rfl rfl .free (.inl (by kernel_rfl)) ?_
  refine d_yld 4 rfl (by kernel_rfl) rfl (y_lJ rfl) .free rfl (.inl (by kernel_rfl)) ?_
  refine d_takeA 5 rfl (by kernel_rfl) rfl (.inl (by kernel_rfl)) (y_cmp rfl rfl rfl) .free rfl ?_
  refine d_takeA 7 rfl (by kernel_rfl) rfl (.inl (by kernel_rfl)) (y_assign rfl) .free rfl ?_
  refine d_done (by kernel_rfl) ?_
  refine s_ret (.c rfl (.tmp rfl .nil)) ?_
  refine ⟨J3, L, hle, drops, _, ?_, hr, rfl⟩
  simp [retOne]; omega
theorem g_ExprPlain (s : Txt) (hs : s.length ≤ maxL) (I : Heap) (L : Own) : Fun Tryz.prog 15 [.string (str s)] I L (EL (plainOf s) L) := by
 refine fun_intro (by simp) ?_
 refine Se rfl (Oa rfl (Oa rfl (o_done (Se rfl (Om rfl ?_)))))
 refine o_call rfl .free rfl (g_l2Parse' s hs _ _) ?_
 rintro _ J _ hleJ ⟨t, cs, ok, rfl, hrep, rfl, hpf⟩
 obtain ⟨oc, cc, _, rfl, -⟩ := hrep.open
 refine Om rfl ?_
 refine o_extract rfl rfl .free rfl ?_
 refine o_extract rfl rfl .free rfl ?_
 refine o_alloc .free rfl ?_
 intro b4
 refine o_st rfl rfl rfl rfl .free ?_
 refine Oa rfl (o_done (s_seq (Se rfl (Om rfl ?_))))
 refine o_not rfl .free rfl ?_
 refine o_done ?_
 refine s_cond rfl ?_ ?_
 ·intro c0
  try simp only [nb] at c0
  refine Se rfl (Oa rfl (Oa rfl (o_done ?_)))
  refine s_ret (.tmp rfl (.tmp rfl .nil)) ?_
  exact ⟨J, L, hleJ, drops, by rw [plainOf_none (RX_none hpf c0)]; rfl, rfl⟩
 intro c0
 try simp only [nb] at c0
 obtain ⟨e, he, rfl, hok, hlen, hfine, htxt⟩ := RX_some hpf c0
 have hpl := plainOf_some he
 have hf3 := plain_fine hfine
 simp only [Ex.fine, Bool.and_eq_true, decide_eq_true_eq, Tree.fits] at hf3
 refine s_skip (Se rfl ?_)
 refine o_lOS rfl .free rfl ?_
 refine o_call rfl .free rfl (g_l2Plainly hrep hfine _) ?_
 rintro _ J2 _ e2 ⟨ds, rfl, hr, rfl⟩
 obtain ⟨od, cd, _, rfl, -⟩ := hr.open
 refine Om rfl ?_
 refine o_extract rfl rfl .free rfl ?_
 refine o_extract rfl rfl .free rfl ?_
 refine o_alloc .free rfl ?_
 intro b6
 refine o_st rfl rfl rfl rfl .free ?_
 refine Oa rfl (o_done (s_seq (Se rfl (Om rfl ?_))))
 refine o_not rfl .free rfl ?_
 refine o_done ?_
 first | refine s_fp rfl (by simp) ?_ | refine s_fn rfl (by simp) ?_ | refine s_false (by simp [look, opd, *]) ?_
 refine s_skip (Se rfl ?_)
 refine o_lOS rfl .free rfl ?_
 refine o_call rfl .free rfl (g_l1Text _ (Nat.lt_succ_self _) hr (Ex.tree_good hf3.1.1).1 (by omega) _) ?_
 rintro _ _ _ _ ⟨rfl, rfl, rfl⟩
 refine Oa rfl (Oa rfl (o_done ?_))
 refine s_ret (.tmp rfl (.tmp rfl .nil)) ?_
 exact ⟨J2, L, hleJ.trans e2, drops, by rw [hpl]; rfl, rfl⟩
theorem plain_out {s : Txt} : ((plainOf s).getD []).length ≤ 400001 := by
 cases h : exOf s with
 | none => rw [plainOf_none h]; decide
 | some e =>
  rw [plainOf_some h]
  have := (exOf_is (exOf_fine (plain_fine (exOf_is h).1))).2.2.2.1
  simp only [Option.getD_some, Tree.text_len]; omega
def DX2 (L : Own) : Post := fun v I' L' => ∃ s t, v = .tuple #[.string (str s), .string (str t)] ∧ List.length s ≤ 400001 ∧ List.length t ≤ 400001 ∧ L = L'
theorem g_DrawExprAlike {I : Heap} {oa : Option Addr} {l : List UInt8} {c : Nat} (h : Bytes I oa l c) (L : Own) : Fun Tryz.prog 4 [.slice oa l.length c] I L (DX2 L) := by
 refine fun_intro (by simp) ?_
 refine Se rfl (Oa rfl (Oa rfl (o_done (Se rfl (Om rfl ?_)))))
 refine o_call rfl .free rfl (g_l6Open h _) ?_
 rintro _ J1 _ e1 ⟨b, oa1, l1, c1, rfl, h1, hl1, rfl⟩
 refine Oa rfl (o_done (Se rfl (Om rfl ?_)))
 refine o_call rfl .free rfl (g_l91Odd h1 hl1 b 0 (by decide) L) ?_
 rintro _ J2 _ e2 ⟨s, p', rfl, hs, hp1, hp2, rfl⟩
 have h1 := h1.mono e2
 refine Oa rfl (o_done (Se rfl (Om rfl ?_)))
 refine o_call rfl .free rfl (g_ExprPlain s (by unfold maxL; omega) _ _) ?_
 rintro _ J3 _ e3 ⟨rfl, rfl⟩
 have h1 := h1.mono e3
 have hle := (e1.trans e2).trans e3
 have hpo := plain_out (s := s)
 refine Om rfl ?_
 refine o_extract rfl rfl .free rfl ?_
 refine o_extract rfl rfl .free rfl ?_
 refine Oa rfl (Oa rfl (o_done (s_seq (Se rfl (Om rfl ?_)))))
 refine o_call rfl .free rfl (g_l6Rd_pick h1 hl1 b _ 4 (by omega) (by decide) _) ?_
 rintro _ _ _ _ ⟨r, rfl, rfl, rfl, hr⟩
 refine o_done (s_block (Se rfl ?_))
 refine o_cmp rfl rfl rfl .free rfl ?_
 refine Oa rfl (o_done ?_)
 refine s_cond rfl ?_ ?_
 ·intro c0
  try simp only [nb] at c0
  refine Se rfl (Om rfl (Om rfl ?_))
  refine o_call rfl .free rfl (g_l91Odd h1 hl1 b _ (by omega) L) ?_
  rintro _ J4 _ e4 ⟨s2, p2, rfl, hs2, hp3, hp4, rfl⟩
  refine Oa rfl (Oa rfl (o_done ?_))
  refine s_ret (.tmp rfl (.tmp rfl .nil)) ?_
  exact ⟨J4, L, hle.trans e4, fun _ h => h.drop, s, s2, rfl, hs, hs2, rfl⟩
 intro c0
 try simp only [nb] at c0
 refine Se rfl ?_
 refine o_cmp rfl rfl rfl .free rfl ?_
 refine Oa rfl (o_done ?_)
 refine s_cond rfl ?_ ?_
 ·intro c1
  try simp only [nb] at c1
  refine Se rfl (Om rfl ?_)
  refine o_call rfl .free rfl (g_FormReplace s [97] [98] (by unfold maxL; omega) (by decide) (by decide) _ _) ?_
  rintro _ J4 _ e4 ⟨rfl, rfl⟩
  have hle := hle.trans e4
  have hol : ((replOf s [97] [98]).getD []).length ≤ 400001 := by
   cases ho : replOf s [97] [98] with
   | none => decide
   | some o => have := repl_out ho; simp only [Option.getD_some]; omega
  refine Om rfl ?_
  refine o_extract rfl rfl .free rfl ?_
  refine o_extract rfl rfl .free rfl ?_
  refine Oa rfl (Oa rfl (o_done (Se rfl (Om rfl (o_done ?_)))))
  refine s_cond rfl ?_ ?_
  ·intro c2
   try simp only [nb] at c2
   refine Se rfl (Om rfl (Om rfl (Oa rfl (Oa rfl (o_done ?_)))))
   refine s_ret (.tmp rfl (.tmp rfl .nil)) ?_
   exact ⟨_, L, hle, fun _ h => h.drop, _, _, rfl, hs, hol, rfl⟩
  intro c2
  try simp only [nb] at c2
  refine s_skip ?_
  refine s_inBlock ?_
  refine s_seq (Se rfl (Om rfl (o_done ?_)))
  refine s_cond rfl ?_ ?_
  ·intro c3
   try simp only [nb] at c3
   refine Se rfl (Om rfl (Om rfl (Oa rfl (Oa rfl (o_done ?_)))))
   refine s_ret (.tmp rfl (.tmp rfl .nil)) ?_
   exact ⟨_, L, hle, fun _ h => h.drop, _, _, rfl, hs, hpo, rfl⟩
  intro c3
  try simp only [nb] at c3
  refine s_skip (Se rfl (Om rfl (Om rfl (Oa rfl (Oa rfl (o_done ?_))))))
  refine s_ret (.tmp rfl (.tmp rfl .nil)) ?_
  exact ⟨_, L, hle, fun _ h => h.drop, _, _, rfl, hs, hs, rfl⟩
 intro c1
 try simp only [nb] at c1
 refine s_skip ?_
 refine s_inBlock ?_
 refine s_seq (Se rfl (Om rfl (o_done ?_)))
 refine s_cond rfl ?_ ?_
 ·intro c3
  try simp only [nb] at c3
  refine Se rfl (Om rfl (Om rfl (Oa rfl (Oa rfl (o_done ?_)))))
  refine s_ret (.tmp rfl (.tmp rfl .nil)) ?_
  exact ⟨_, L, hle, fun _ h => h.drop, _, _, rfl, hs, hpo, rfl⟩
 intro c3
 try simp only [nb] at c3
 refine s_skip (Se rfl (Om rfl (Om rfl (Oa rfl (Oa rfl (o_done ?_))))))
 refine s_ret (.tmp rfl (.tmp rfl .nil)) ?_
 exact ⟨_, L, hle, fun _ h => h.drop, _, _, rfl, hs, hs, rfl⟩
def DX3 (L : Own) : Post := fun v I' L' => ∃ s t u, v = .tuple #[.string (str s), .string (str t), .string (str u)] ∧ List.length s ≤ 400001 ∧ List.length t ≤ 400001 ∧ List.length u ≤ 400001 ∧ L = L'
open Go.Shelf
def lays171_ren : Go.Shelf.Ren := ⟨fun | 171 => 102 | 243 => 115 | 246 => 120 | 283 => 122 | 284 => 123 | 285 => 124 | 286 => 125 | 129 => 127 | 317 => 126 | 318 => 128 | 319 => 129 | 320 => 130 | 337 => 131 | 338 => 132 | n => n, fun | 3 => 3 | 9 => 9 | 2 => 2 | 4 => 4 | 171 => 143 | 0 => 0 | 53 => 144 | 37 => 22 | 5 => 5 | 173 => 147 | 212 => 150 | 51 => 151 | 20 => 20 | 213 => 152 | 46 => 154 | 232 => 157 | 233 => 158 | n => n, fun | 17 => 0 | 18 => 1 | 19 => 2 | n => n⟩
theorem lays171 : Go.Proofs.Lays.n171 Tryz.prog lays171_ren := {
 mixed := by kernel_rfl
 f129 := Tryz.func127.trans (congrArg some (by kernel_rfl))
 f171 := Tryz.func102.trans (congrArg some (by kernel_rfl))
 f243 := Tryz.func115.trans (congrArg some (by kernel_rfl))
 f246 := Tryz.func120.trans (congrArg some (by kernel_rfl))
 f283 := Tryz.func122.trans (congrArg some (by kernel_rfl))
 f284 := Tryz.func123.trans (congrArg some (by kernel_rfl))
 f285 := Tryz.func124.trans (congrArg some (by kernel_rfl))
 f286 := Tryz.func125.trans (congrArg some (by kernel_rfl))
 f317 := Tryz.func126.trans (congrArg some (by kernel_rfl))
 f318 := Tryz.func128.trans (congrArg some (by kernel_rfl))
 f319 := Tryz.func129.trans (congrArg some (by kernel_rfl))
 f320 := Tryz.func130.trans (congrArg some (by kernel_rfl))
 f337 := Tryz.func131.trans (congrArg some (by kernel_rfl))
 f338 := Tryz.func132.trans (congrArg some (by kernel_rfl))
 t0 := Tryz.underlying0
 a0 := Tryz.isAgg0
 z0 := Tryz.sizeOf0
 v0 := Tryz.zeroValue0
 t2 := Tryz.underlying2
 a2 := Tryz.isAgg2
 z2 := Tryz.sizeOf2
 v2 := Tryz.zeroValue2
 t3 := Tryz.underlying3
 a3 := Tryz.isAgg3
 z3 := Tryz.sizeOf3
 v3 := Tryz.zeroValue3
 t4 := Tryz.underlying4
 a4 := Tryz.isAgg4
 z4 := Tryz.sizeOf4
 v4 := Tryz.zeroValue4
 t5 := Tryz.underlying5
 a5 := Tryz.isAgg5
 z5 := Tryz.sizeOf5
 v5 := Tryz.zeroValue5
 t9 := Tryz.underlying9
 a9 := Tryz.isAgg9
 z9 := Tryz.sizeOf9
 v9 := Tryz.zeroValue9
 t20 := Tryz.underlying20
 a20 := Tryz.isAgg20
 z20 := Tryz.sizeOf20
 v20 := Tryz.zeroValue20
 t37 := Tryz.underlying22
 a37 := Tryz.isAgg22
 z37 := Tryz.sizeOf22
 v37 := Tryz.zeroValue22
 t46 := Tryz.underlying154
 a46 := Tryz.isAgg154
 z46 := Tryz.sizeOf154
 v46 := Tryz.zeroValue154
 t51 := Tryz.underlying151
 a51 := Tryz.isAgg151
 z51 := Tryz.sizeOf151
 v51 := Tryz.zeroValue151
 t53 := Tryz.underlying144
 a53 := Tryz.isAgg144
 z53 := Tryz.sizeOf144
 v53 := Tryz.zeroValue144
 t171 := Tryz.underlying143
 a171 := Tryz.isAgg143
 z171 := Tryz.sizeOf143
 v171 := Tryz.zeroValue143
 t173 := Tryz.underlying147
 a173 := Tryz.isAgg147
 z173 := Tryz.sizeOf147
 v173 := Tryz.zeroValue147
 t212 := Tryz.underlying150
 a212 := Tryz.isAgg150
 z212 := Tryz.sizeOf150
 v212 := Tryz.zeroValue150
 t213 := Tryz.underlying152
 a213 := Tryz.isAgg152
 z213 := Tryz.sizeOf152
 t232 := Tryz.underlying157
 a232 := Tryz.isAgg157
 z232 := Tryz.sizeOf157
 v232 := Tryz.zeroValue157
 t233 := Tryz.underlying158
 a233 := Tryz.isAgg158
 z233 := Tryz.sizeOf158
 v233 := Tryz.zeroValue158
 g17 := by kernel_rfl
 g18 := by kernel_rfl
 g19 := by kernel_rfl }
theorem dec_small : ∀ i : Nat, i < 100 → Lib.decDigits i = decT i := by decide +kernel
theorem f_strconv_Itoa (i : Nat) (hi : i < 100) (I : Heap) (L : Own) : Fun Tryz.prog 102 [.int .i64 (i : Nat)] I L (Only (.string (str (decT i))) I L) := by
 refine ⟨fun w hm => (Any.strconv_Itoa_small lays171 i hi w).mono ?_⟩
 rintro e w' ⟨rfl, rfl⟩
 refine ⟨_, I, L, rfl, .refl _, hm, ?_⟩
 rw [dec_small i hi]
 exact ⟨rfl, rfl, rfl⟩
/-- The program's namer. -/
def pn (b : Nat) (oa : Option Addr) (av : List Txt) (c g n : Nat) : Nat × Obj := (b, .cells [.slice oa av.length c, .int .i64 (g : Nat), .int .i64 (n : Nat)].toArray 78 (0, 0))
theorem f_plainer_name {I : Heap} {oa : Option Addr} {av : List Txt} {c : Nat} (hav : Strs I oa av c) (b g n : Nat) (hn : fr 120 av n < 100) (hg : g ≤ 1000000) (L : Own) :
  Fun Tryz.prog 74 [.pointer (some ⟨b, 0, none⟩)] I (pn b oa av c g n :: L) (fun v I' L' => v = .string (str (nm 120 (fr 120 av n))) ∧ I = I' ∧ L' = pn b oa av c (g + 1) (fr 120 av n + 1) :: L) := by
 obtain ⟨f1, f2, f3⟩ := fr_facts 120 av n
 refine fun_intro (by simp) ?_
 refine Se rfl (Oa rfl (o_done (s_block ?_)))
 refine s_while (X := Nat) (fun m => fr 120 av n + 1 - m) (fun m => [(0, .pointer (some ⟨b, 0, none⟩))]) (fun _ => I) (fun m => pn b oa av c g m :: L) (fun m => n ≤ m ∧ m ≤ fr 120 av n ∧ ∀ j, n ≤ j → j < m → nm 120 j ∈ av) n ⟨Nat.le_refl _, f2, fun j h1 h2 => absurd h2 (by omega)⟩ ⟨rfl, trivial⟩ (fun _ h => h) ?_
 rintro m ⟨hm1, hm2, hm3⟩ ih
 unfold pn
 have hdl := decT_len (n := m) (by omega)
 refine s_block (Se rfl (Om rfl ?_))
 refine o_nilCheck rfl .free rfl ?_
 first | refine o_fieldAddr rfl .free rfl ?_ | refine o_fieldAddr' rfl .free rfl ?_
 refine o_lJ rfl .free rfl ?_
 refine o_call rfl .free rfl (f_strconv_Itoa m (by omega) _ _) ?_
 rintro _ _ _ _ ⟨rfl, rfl, rfl⟩
 refine o_concat rfl rfl (by first | omega | (simp only [List.length_append, List.length_cons, List.length_nil]; omega) | (simp; omega)) .free rfl ?_
 refine Oa rfl (o_done (Se rfl (Om rfl ?_)))
 refine o_nilCheck rfl .free rfl ?_
 first | refine o_fieldAddr rfl .free rfl ?_ | refine o_fieldAddr' rfl .free rfl ?_
 refine o_lJ rfl .free rfl ?_
 refine o_arith rfl rfl rfl (by omega) .free rfl ?_
 refine o_nilCheck rfl .free rfl ?_
 first | refine o_fieldAddr rfl .free rfl ?_ | refine o_fieldAddr' rfl .free rfl ?_
 refine o_st rfl rfl rfl rfl .free ?_
 refine o_done (Se rfl (Om rfl ?_))
 refine o_nilCheck rfl .free rfl ?_
 first | refine o_fieldAddr rfl .free rfl ?_ | refine o_fieldAddr' rfl .free rfl ?_
 refine o_lJ rfl .free rfl ?_
 refine Om rfl ?_
 refine o_call rfl .free rfl (f_slices_Contains (hav.rd _) c (nm 120 m)) ?_
 rintro _ _ _ _ ⟨rfl, rfl, rfl⟩
 refine o_not rfl .free rfl ?_
 refine o_done ?_
 refine s_cond rfl ?_ ?_
 ·intro c0
  try simp only [nb] at c0
  refine Se rfl (Om rfl ?_)
  refine o_nilCheck rfl .free rfl ?_
  first | refine o_fieldAddr rfl .free rfl ?_ | refine o_fieldAddr' rfl .free rfl ?_
  refine o_lJ rfl .free rfl ?_
  refine o_arith rfl rfl rfl (by omega) .free rfl ?_
  refine o_nilCheck rfl .free rfl ?_
  first | refine o_fieldAddr rfl .free rfl ?_ | refine o_fieldAddr' rfl .free rfl ?_
  refine o_st rfl rfl rfl rfl .free ?_
  refine o_done (Se rfl (Om rfl (Oa rfl (o_done ?_))))
  refine s_ret (.tmp rfl .nil) ?_
  have hfm : fr 120 av n = m := fr_stop hm3 hm1 c0
  exact ⟨I, _, .refl _, fun _ h => h, by rw [hfm]; rfl, rfl, by rw [hfm]; rfl⟩
 intro c0
 try simp only [nb] at c0
 refine s_skip ?_
 refine s_inBlock ?_
 have hne : m ≠ fr 120 av n := fun e => f1 (e ▸ c0)
 refine s_env (E' := [(0, .pointer (some ⟨b, 0, none⟩))]) ⟨rfl, trivial⟩ (ih (m + 1) ⟨by omega, by omega, fun j h1 h2 => ?_⟩ (by omega))
 by_cases hj : j = m
 ·subst hj; exact c0
 ·exact hm3 j h1 (by omega)
end Go.Proofs.YtplalahnnoeidaaGreatDoor

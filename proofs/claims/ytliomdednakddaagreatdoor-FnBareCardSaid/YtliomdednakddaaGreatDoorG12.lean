/- Expressions with plain names are expressions. No conditions. -/
import Derived.Test.YtliomdednakddaaGreatDoorG11
import Derived.Shelf.Strconv.Itoa3
import Derived.Test.YtliomdednakddaaGreatDoorProg
namespace Go.Proofs.YtliomdednakddaaGreatDoor
set_option maxRecDepth 100000
set_option linter.unusedVariables false
set_option linter.unusedSimpArgs false

theorem digit_of {d : Nat} (h : d < 10) : digit (UInt8.ofNat (48 + d)) = true := by
 have : (UInt8.ofNat (48 + d)).toNat = 48 + d := by simp [UInt8.toNat_ofNat]; omega
 simp only [digit, this, Bool.and_eq_true, decide_eq_true_eq]; omega
theorem decT_digits : ∀ n : Nat, (decT n).all digit = true := by
 intro n
 induction n using Nat.strongRecOn with
 | _ n ih =>
  by_cases h : n < 10
  ·rw [decT_small h]; simp only [List.all_cons, List.all_nil, Bool.and_true]; exact digit_of h
  ·rw [decT_big h, List.all_append, ih (n / 10) (by omega)]
   simp only [List.all_cons, List.all_nil, Bool.and_true, Bool.true_and]; exact digit_of (Nat.mod_lt n (by omega))
theorem decT_len {n : Nat} (h : n < 1000) : (decT n).length ≤ 3 := by
 by_cases h1 : n < 10
 ·rw [decT_small h1]; simp
 ·rw [decT_big h1, List.length_append]
  by_cases h2 : n / 10 < 10
  ·rw [decT_small h2]; simp
  ·rw [decT_big h2, List.length_append, decT_small (show n / 10 / 10 < 10 by omega)]; simp
theorem nm_name {c : UInt8} {n : Nat} (hc : lower c = true) (h : n < 1000) : isName (nm c n) = true := by
 have := decT_len h
 simp [nm, isName, hc, decT_digits n, this]
def namesL (l : List Txt) : Prop := ∀ s ∈ l, isName s = true
theorem namesL.add {l m : List Txt} (h : namesL l) (h' : namesL m) : namesL (l ++ m) := by
 intro s hs
 rcases List.mem_append.1 hs with hs | hs
 ·exact h s hs
 ·exact h' s hs
theorem Ex.pl_ok {av : List Txt} : ∀ {e : Ex} {f t : List Txt} {n : Nat}, e.ok = true → namesL t → f.length = t.length → n + e.nb + av.length ≤ 900 + hits 120 av n → (e.pl av f t n).1.ok = true
 | .num s, f, t, n, h, _, _, _ => h
 | .name s, f, t, n, h, ht, hl, _ => by
  simp only [Ex.pl, Ex.ok]
  cases hi : lastIdx f s with
  | none => exact h
  | some i =>
   have h1 := (lastAt_lt (show lastAt f s f.length = some i from hi)).1
   have h2 : i < t.length := by omega
   show isName (t.getD i []) = true
   rw [show t.getD i [] = t[i] by simp [h2]]
   exact ht _ (List.getElem_mem h2)
 | .bin o a b, f, t, n, h, ht, hl, hn => by
  simp only [Ex.ok, Bool.and_eq_true] at h
  simp only [Ex.nb] at hn
  have h1 := a.pl_hits av f t n
  have h2 := hits_le 120 av (a.pl av f t n).2
  simp only [Ex.pl, Ex.ok, Bool.and_eq_true]
  exact ⟨Ex.pl_ok h.1 ht hl (by omega), Ex.pl_ok h.2 ht hl (by omega)⟩
 | .ite a b c, f, t, n, h, ht, hl, hn => by
  simp only [Ex.ok, Bool.and_eq_true] at h
  simp only [Ex.nb] at hn
  have h1 := a.pl_hits av f t n
  have h2 := b.pl_hits av f t (a.pl av f t n).2
  have h3 := hits_le 120 av (a.pl av f t n).2
  have h4 := hits_le 120 av (b.pl av f t (a.pl av f t n).2).2
  simp only [Ex.pl, Ex.ok, Bool.and_eq_true]
  exact ⟨⟨Ex.pl_ok h.1.1 ht hl (by omega), Ex.pl_ok h.1.2 ht hl (by omega)⟩, Ex.pl_ok h.2 ht hl (by omega)⟩
 | .lt x a b, f, t, n, h, ht, hl, hn => by
  simp only [Ex.ok, Bool.and_eq_true] at h
  simp only [Ex.nb] at hn
  have h0 := fr_hits_succ 120 av n
  have h1 := a.pl_hits av f t (fr 120 av n + 1)
  have h2 := hits_le 120 av (fr 120 av n + 1)
  have h3 := hits_le 120 av (a.pl av f t (fr 120 av n + 1)).2
  have h4 := hits_le 120 av n
  have hz : isName (nm 120 (fr 120 av n)) = true := nm_name (by decide) (by omega)
  simp only [Ex.pl, Ex.ok, Bool.and_eq_true]
  exact ⟨⟨hz, Ex.pl_ok h.1.2 ht hl (by omega)⟩, Ex.pl_ok h.2 (ht.add fun s hs => by rw [List.mem_singleton.1 hs]; exact hz) (by simp [hl]) (by omega)⟩
 | .fn g x s u b, f, t, n, h, ht, hl, hn => by
  simp only [Ex.ok, Bool.and_eq_true, decide_eq_true_eq] at h
  obtain ⟨⟨⟨⟨⟨h1, h2⟩, h3⟩, h4⟩, h5⟩, h6⟩ := h
  simp only [Ex.nb] at hn
  have k0 := fr_hits_succ 120 av n
  have k1 := fr_hits_succ 120 av (fr 120 av n + 1)
  have k2 := hits_le 120 av (fr 120 av n + 1)
  have k3 := hits_le 120 av (fr 120 av (fr 120 av n + 1) + 1)
  have k5 := hits_le 120 av n
  have k4 := (fr_facts 120 av (fr 120 av n + 1)).2.1
  have hz1 : isName (nm 120 (fr 120 av n)) = true := nm_name (by decide) (by omega)
  have hz2 : isName (nm 120 (fr 120 av (fr 120 av n + 1))) = true := nm_name (by decide) (by omega)
  simp only [Ex.pl, Ex.ok, Bool.and_eq_true, decide_eq_true_eq]
  refine ⟨⟨⟨⟨⟨hz1, hz2⟩, fun e => ?_⟩, h4⟩, h5⟩, Ex.pl_ok h6 (ht.add fun s hs => ?_) (by simp [hl]) (by omega)⟩
  ·have := nm_inj e; omega
  ·simp only [List.mem_cons, List.not_mem_nil, or_false] at hs
   rcases hs with rfl | rfl
   ·exact hz1
   ·exact hz2
 | .un o a, f, t, n, h, ht, hl, hn => by
  simp only [Ex.pl, Ex.ok]
  exact Ex.pl_ok (e := a) h ht hl (by simpa [Ex.nb] using hn)
theorem B5.txt_len (o : B5) : o.txt.length ≤ 4 := by cases o <;> decide
theorem U2.txt_len (o : U2) : o.txt.length ≤ 3 := by cases o <;> decide
/-- An expression's text is short. -/
theorem Ex.len_size : ∀ {e : Ex}, e.ok = true → e.tree.len + 1 ≤ 8 * e.size
 | .num s, h => by
  have h : isNum s = true := h
  have : s.length ≤ 4 := by
   simp only [isNum, Bool.or_eq_true, Bool.and_eq_true, decide_eq_true_eq] at h
   rcases h with h | h
   ·rw [h]; decide
   ·have h1 := h.1.1.2
    unfold unsign at h1
    split at h1
    ·simp only [List.length_drop] at h1; omega
    ·omega
  simp only [Ex.tree, Tree.len, List.isEmpty_nil, cond_true, Ex.size]; omega
 | .name s, h => by
  have := isName_len (show isName s = true from h)
  simp only [Ex.tree, Tree.len, List.isEmpty_nil, cond_true, Ex.size]; omega
 | .bin o a b, h => by
  simp only [Ex.ok, Bool.and_eq_true] at h
  have h1 := Ex.len_size h.1; have h2 := Ex.len_size h.2; have h3 := o.txt_len
  simp only [Ex.tree, Tree.len, lenL, List.isEmpty_nil, List.isEmpty_cons, cond_true, cond_false, Ex.size]; omega
 | .ite a b c, h => by
  simp only [Ex.ok, Bool.and_eq_true] at h
  have h1 := Ex.len_size h.1.1; have h2 := Ex.len_size h.1.2; have h3 := Ex.len_size h.2
  simp only [Ex.tree, Tree.len, lenL, List.isEmpty_nil, List.isEmpty_cons, cond_true, cond_false, Ex.size, tIf, List.length_cons, List.length_nil]; omega
 | .lt x a b, h => by
  simp only [Ex.ok, Bool.and_eq_true] at h
  have h1 := Ex.len_size h.1.2; have h2 := Ex.len_size h.2; have h3 := isName_len h.1.1
  simp only [Ex.tree, Tree.len, lenL, List.isEmpty_nil, List.isEmpty_cons, cond_true, cond_false, Ex.size, tLet, List.length_cons, List.length_nil]; omega
 | .fn f x s t b, h => by
  simp only [Ex.ok, Bool.and_eq_true, decide_eq_true_eq] at h
  obtain ⟨⟨⟨⟨⟨h1, h2⟩, h3⟩, h4⟩, h5⟩, h6⟩ := h
  have k1 := Ex.len_size h6; have k2 := isName_len h1; have k3 := isName_len h2
  have k4 := s.tree_small; have k5 := t.tree_small; have k6 := s.size_pos; have k7 := t.size_pos
  simp only [Ex.tree, Tree.len, lenL, List.isEmpty_nil, List.isEmpty_cons, cond_true, cond_false, Ex.size, tFun, List.length_cons, List.length_nil]; omega
 | .un o a, h => by
  have h1 := Ex.len_size (e := a) h; have h3 := o.txt_len
  simp only [Ex.tree, Tree.len, lenL, List.isEmpty_nil, List.isEmpty_cons, cond_true, cond_false, Ex.size]; omega
/-- The plain one of an expression. -/
def Ex.plain (e : Ex) : Ex := (e.pl e.free [] [] 0).1
theorem addAll_len' (l m : List Txt) : (addAll l m).length ≤ l.length + m.length := by
 induction m generalizing l with
 | nil => exact Nat.le_refl _
 | cons s m ih =>
  have h1 : (addOnce l s).length ≤ l.length + 1 := by unfold addOnce; split <;> simp
  have h2 := ih (addOnce l s)
  simp only [addAll, List.foldl_cons, List.length_cons] at *
  omega
theorem plain_room {e : Ex} (h : e.size ≤ 120) : e.nb + e.free.length ≤ 80 := by
 have h1 := e.nb_occ []
 have h2 := addAll_len' [] (e.occ [])
 simp only [List.length_nil, Nat.zero_add] at h2
 have h3 : e.free.length ≤ (e.occ []).length := h2
 omega
theorem plain_fine {e : Ex} (h : e.fine = true) : e.plain.fine = true := by
 simp only [Ex.fine, Bool.and_eq_true, decide_eq_true_eq, Tree.fits] at h
 obtain ⟨h1, h2, h3⟩ := e.pl_size e.free [] [] 0
 have hr := plain_room h.1.2
 have hok : e.plain.ok = true := Ex.pl_ok h.1.1 (fun s hs => by cases hs) rfl (by omega)
 have hl := Ex.len_size hok
 have h4 : e.plain.size = e.size := h1
 have h5 : e.plain.tree.depth = e.tree.depth := h2
 simp only [Ex.fine, Bool.and_eq_true, decide_eq_true_eq, Tree.fits]
 exact ⟨⟨hok, by omega⟩, by omega, by omega⟩
def plainOf (s : Txt) : Option Txt := (exOf s).map fun e => e.plain.tree.text
def lookOr (l m : List Txt) (s : Txt) : Txt := match lastIdx l s with
 | some i => m.getD i []
 | none => s
theorem nm_len {n : Nat} (h : n < 1000) : (nm 120 n).length ≤ maxN := Ex.name_len (nm_name (by decide) h)
section
variable {I : Heap} {A B C D L : Own} {w : World}
end
/-- What a state of many orders has. -/
structure G11 where
 b6 : Nat
 b14 : Nat
 b16 : Nat
 b20 : Nat
 B : Buf
 c : Nat
 D : Buf
 e : Nat
/-- What 'ExprPut' returns. -/
def putOf (s nm by' : Txt) : Option Txt := match exOf s, closedOf by' with
 | some e, some v => if isName nm = true ∧ (e.put nm v).fine = true then some (e.put nm v).tree.text else none
 | _, _ => none
theorem g_l91Atom {I : Heap} {oa : Option Addr} {l : List UInt8} {c : Nat} (h : Bytes I oa l c) (hl : l.length ≤ 2000) (b p : Nat) (hp : p + 10 ≤ 1099511627776) (L : Own) :
  Fun Tryz.prog 14 [.pointer (some ⟨b, 0, none⟩)] I (rd b oa l c p :: L) (DT b oa l c p 10 400001 L) := by
 refine fun_intro (by simp) ?_
 refine Se rfl (Oa rfl (o_done (Se rfl (Om rfl ?_))))
 refine o_lits rfl rfl (by rfl) (by rfl) (by rfl) (by decide) (by decide) (by rfl) .free rfl ?_
 intro b4
 refine o_freezeLit [[97], [98], [120, 48], [102, 49], [105], [108, 101, 116], [49, 50], [45, 51], [43], [48], [62], [118]] (by decide) (by decide) ?_
 intro J5 e5 k5
 refine o_call rfl .free rfl (g_l6Rd_of (h.mono e5) hl b _ (by omega) k5 (by simp) _) ?_
 rintro _ _ _ _ ⟨z, rfl, hz, rfl, rfl⟩
 have hzl : z.length ≤ 3 := by revert z; decide
 refine Oa rfl (o_done ?_)
 refine s_ret (.tmp rfl .nil) ?_
 exact ⟨J5, _, e5, fun _ h => h, _, _, rfl, by omega, by omega, by omega, rfl⟩
theorem g_DrawBareIs {I : Heap} {oa : Option Addr} {l : List UInt8} {c : Nat} (h : Bytes I oa l c) (L : Own) : Fun Tryz.prog 4 [.slice oa l.length c] I L (DX L) := by
 refine fun_intro (by simp) ?_
 refine Se rfl (Oa rfl (o_done (Se rfl (Om rfl ?_))))
 refine o_call rfl .free rfl (g_l6Open h _) ?_
 rintro _ J1 _ e1 ⟨b, oa1, l1, c1, rfl, h1, hl1, rfl⟩
 refine Oa rfl (o_done (s_seq (Se rfl (Om rfl ?_))))
 refine o_call rfl .free rfl (g_l6Rd_pick h1 hl1 b _ 3 (by omega) (by decide) _) ?_
 rintro _ _ _ _ ⟨r, rfl, rfl, rfl, hr⟩
 refine o_cmp rfl rfl rfl .free rfl ?_
 refine o_done ?_
 refine s_cond rfl ?_ ?_
 ·intro c0
  try simp only [nb] at c0
  refine Se rfl (Om rfl ?_)
  refine o_call rfl .free rfl (g_l91Odd h1 hl1 b _ (by omega) _) ?_
  rintro _ J2 _ e2 ⟨s, p', rfl, hs, hp1, hp2, rfl⟩
  refine Oa rfl (o_done ?_)
  refine s_ret (.tmp rfl .nil) ?_
  exact ⟨J2, L, e1.trans e2, fun _ h => h.drop, s, rfl, hs, rfl⟩
 intro c0
 try simp only [nb] at c0
 refine s_skip (Se rfl (Om rfl ?_))
 refine o_call rfl .free rfl (g_l91Atom h1 hl1 b _ (by omega) _) ?_
 rintro _ J2 _ e2 ⟨s, p', rfl, hs, hp1, hp2, rfl⟩
 refine Oa rfl (o_done ?_)
 refine s_ret (.tmp rfl .nil) ?_
 exact ⟨J2, L, e1.trans e2, fun _ h => h.drop, s, rfl, hs, rfl⟩
def DX2 (L : Own) : Post := fun v I' L' => ∃ s t, v = .tuple #[.string (str s), .string (str t)] ∧ List.length s ≤ 400001 ∧ List.length t ≤ 400001 ∧ L = L'
def DX3 (L : Own) : Post := fun v I' L' => ∃ s t u, v = .tuple #[.string (str s), .string (str t), .string (str u)] ∧ List.length s ≤ 400001 ∧ List.length t ≤ 400001 ∧ List.length u ≤ 400001 ∧ L = L'
def Ex.one : Ex → Nat
 | .lt _ _ _ => 1
 | _ => 0
/-- How many 'let'. -/
def Ex.nl : Ex → Nat
 | .num _ => 0
 | .name _ => 0
 | .bin _ a b => a.nl + b.nl
 | .ite a b c => a.nl + b.nl + c.nl
 | .lt _ a b => 1 + a.nl + b.nl
 | .fn _ _ _ _ b => b.nl
 | .un _ a => a.nl
mutual
def Tree.nl : Tree → Nat
 | .node _ ps => (if (match ps with | [] => [] | p :: _ => p.atom) = tLet then 1 else 0) + nlL ps
def nlL : List Tree → Nat
 | [] => 0
 | t :: ts => t.nl + nlL ts
end
mutual
theorem Tree.nl_len : ∀ t : Tree, t.nl ≤ t.len
 | .node a [] => by simp [Tree.nl, nlL, tLet]
 | .node a (p :: ps) => by
  have h1 := nlL_len (p :: ps)
  simp only [Tree.nl, Tree.len, List.isEmpty_cons, cond_false]
  split <;> omega
theorem nlL_len : ∀ ts : List Tree, nlL ts ≤ lenL ts
 | [] => Nat.le_refl _
 | t :: ts => by have h1 := t.nl_len; have h2 := nlL_len ts; simp only [nlL, lenL]; omega
end
/-- The names of the 'let' at the beginning, and what they stand ahead of. -/
def Ex.path : Ex → List Txt
 | .lt x _ b => x :: b.path
 | _ => []
def Ex.last : Ex → Ex
 | .lt _ _ b => b.last
 | e => e
def netsOf (s : Txt) : Int := match normOf true s with
 | some e => (e.nl : Nat)
 | none => -1
def pathOf (s : Txt) : Option (List Txt × Txt) := (normOf true s).map fun e => (e.path, e.last.tree.text)
theorem netsOf_some {s : Txt} {e : Ex} (h : normOf true s = some e) : netsOf s = (e.nl : Nat) := by unfold netsOf; rw [h]
theorem headOf_some {s : Txt} {e : Ex} (h : exOf s = some e) : headOf s = e.hd := by unfold headOf; rw [h]
/-- What a loop over the kids has gathered. -/
structure GK where
 i : Nat
 B : Buf
 c : Nat
def Ex.ks (e : Ex) : List Txt := e.sub.map fun a => a.tree.text
theorem f_ExprHead (s : Txt) (hs : s.length ≤ maxN) (I : Heap) (L : Own) : Fun Tryz.prog 7 [.string (str s)] I L (fun v I' L' => v = .string (str (headOf s)) ∧ L = L') := by
 refine fun_intro (by simp) ?_
 refine Se rfl (Oa rfl (o_done (Se rfl (Om rfl ?_))))
 refine o_call rfl .free rfl (f_readExpr s hs _ _) ?_
 rintro _ J _ hleJ ⟨t, cs, ok, rfl, hrep, rfl, hpf⟩
 obtain ⟨oc, cc, oaf, cf, rfl, hf⟩ := hrep.at'
 refine Om rfl ?_
 refine o_extract rfl rfl .free rfl ?_
 refine o_extract rfl rfl .free rfl ?_
 refine o_alloc .free rfl ?_
 intro b3
 refine o_st rfl rfl rfl rfl .free ?_
 refine Oa rfl (o_done (s_seq (s_block (Se rfl (Om rfl ?_)))))
 refine o_not rfl .free rfl ?_
 refine Oa rfl (o_done ?_)
 refine s_cond rfl ?_ ?_
 ·intro c0
  try simp only [nb] at c0
  refine Se rfl (Oa rfl (o_done ?_))
  refine s_ret (.tmp rfl .nil) ?_
  refine ⟨J, L, hleJ, drops, ?_, rfl⟩
  have : exOf s = none := RX_none hpf c0
  rw [headOf, this]; rfl
 intro c0
 try simp only [nb] at c0
 obtain ⟨e, he, rfl, hok, hlen, hfine, htxt⟩ := RX_some hpf c0
 have hhe := headOf_some he
 refine Se rfl ?_
 refine o_lOS rfl .free rfl ?_
 refine o_call rfl .free rfl (f_form_isAtom hf.rep _) ?_
 rintro _ _ _ _ ⟨rfl, rfl, rfl⟩
 refine o_not rfl .free rfl ?_
 refine Oa rfl (o_done ?_)
 refine s_cond rfl ?_ ?_
 ·intro c1
  try simp only [nb] at c1
  refine Se rfl ?_
  refine o_lOS rfl .free rfl ?_
  refine o_call rfl .free rfl (f_form_head hf.rep _) ?_
  rintro _ _ _ _ ⟨rfl, rfl, rfl⟩
  refine Oa rfl (o_done ?_)
  refine s_ret (.tmp rfl .nil) ?_
  refine ⟨J, L, hleJ, drops, ?_, rfl⟩
  rw [hhe]
  cases e <;> first | rfl | cases c1
 intro c1
 try simp only [nb] at c1
 refine Se rfl ?_
 refine o_fieldAddr rfl .free rfl ?_
 refine o_lO1 rfl .free rfl ?_
 refine o_call rfl .free rfl (f_isName e.tree.atom (by have := e.tree.text_len; have := hf.rep.atom_le; exact this) _ _) ?_
 rintro _ _ _ _ ⟨rfl, rfl, rfl⟩
 refine Oa rfl (o_done ?_)
 refine s_cond rfl ?_ ?_
 ·intro c2
  try simp only [nb] at c2
  refine Se rfl (Oa rfl (o_done ?_))
  refine s_ret (.tmp rfl .nil) ?_
  refine ⟨J, L, hleJ, drops, ?_, rfl⟩
  rw [hhe]
  cases e with
  | name t => rfl
  | num t =>
   have h1 : isName t = true := c2
   have h2 := name_not_num h1
   rw [show isNum t = true from hok] at h2; cases h2
  | _ => cases c1
 intro c2
 try simp only [nb] at c2
 refine s_skip ?_
 refine s_inBlock ?_
 refine Se rfl (Oa rfl (o_done ?_))
 refine s_ret (.tmp rfl .nil) ?_
 refine ⟨J, L, hleJ, drops, ?_, rfl⟩
 rw [hhe]
 cases e with
 | num t => rfl
 | name t =>
  have h1 : isName t = true := hok
  rw [show isName (Ex.name t).tree.atom = isName t from rfl, h1] at c2; cases c2
 | _ => cases c1
/-- How far a count has come. -/
structure GM where
 i : Nat
 J : Heap
theorem exNorm_some {b : Bool} {s : Txt} {e : Ex} (h : exOf s = some e) : exNorm b s = e.norm b := by
 unfold exNorm normOf; rw [h]; cases hn : e.norm b <;> simp [hn]
theorem exNorm_none {b : Bool} {s : Txt} (h : exOf s = none) : exNorm b s = false := by unfold exNorm normOf; rw [h]; rfl
theorem f_SimpleIs (s : Txt) (hs : s.length ≤ maxN) (I : Heap) (L : Own) : Fun Tryz.prog 9 [.string (str s)] I L (fun v I' L' => v = .bool (exNorm false s) ∧ L = L') := by
 refine fun_intro (by simp) ?_
 refine Se rfl (Oa rfl (o_done (Se rfl (Om rfl ?_))))
 refine o_call rfl .free rfl (f_readExpr s hs _ _) ?_
 rintro _ J _ hleJ ⟨t, cs, ok, rfl, hrep, rfl, hpf⟩
 obtain ⟨oc, cc, _, rfl, -⟩ := hrep.open
 have g1 := RX_get hpf
 refine Om rfl ?_
 refine o_extract rfl rfl .free rfl ?_
 refine o_extract rfl rfl .free rfl ?_
 refine o_alloc .free rfl ?_
 intro b3
 refine o_st rfl rfl rfl rfl .free ?_
 refine Oa rfl (o_done (Se rfl (Om rfl (Om rfl ?_))))
 first | refine g_if rfl rfl ?_ ?_ | refine g_ifn rfl rfl ?_ ?_ | refine g_b rfl rfl ?_ ?_
 ·intro g2_2
  obtain ⟨e, he, rfl⟩ := g1.2 g2_2
  refine o_lOS rfl (.met rfl rfl) rfl ?_
  refine o_call rfl (.met rfl rfl) rfl (f_form_isSimple hrep (exOf_is he).2.1 _) ?_
  rintro _ _ _ _ ⟨rfl, rfl, rfl⟩
  refine o_pick_true rfl rfl .free rfl ?_
  refine Oa rfl (o_done ?_)
  refine s_ret (.tmp rfl .nil) ?_
  refine ⟨J, L, hleJ, drops, ?_, rfl⟩
  first
   | (rw [exNorm_some he]; rfl)
   | (rw [exNorm_none (g1.1 (by simpa using g2_2))]; rfl)
 intro g2_2
 refine o_skip rfl rfl rfl ?_
 refine o_skip rfl rfl rfl ?_
 refine o_pick_false rfl rfl .free rfl ?_
 refine Oa rfl (o_done ?_)
 refine s_ret (.tmp rfl .nil) ?_
 refine ⟨J, L, hleJ, drops, ?_, rfl⟩
 first
  | (rw [exNorm_some he]; rfl)
  | (rw [exNorm_none (g1.1 (by simpa using g2_2))]; rfl)
theorem f_NormalIs (s : Txt) (hs : s.length ≤ maxN) (I : Heap) (L : Own) : Fun Tryz.prog 10 [.string (str s)] I L (fun v I' L' => v = .bool (exNorm true s) ∧ L = L') := by
 refine fun_intro (by simp) ?_
 refine Se rfl (Oa rfl (o_done (Se rfl (Om rfl ?_))))
 refine o_call rfl .free rfl (f_readExpr s hs _ _) ?_
 rintro _ J _ hleJ ⟨t, cs, ok, rfl, hrep, rfl, hpf⟩
 obtain ⟨oc, cc, _, rfl, -⟩ := hrep.open
 have g1 := RX_get hpf
 refine Om rfl ?_
 refine o_extract rfl rfl .free rfl ?_
 refine o_extract rfl rfl .free rfl ?_
 refine o_alloc .free rfl ?_
 intro b3
 refine o_st rfl rfl rfl rfl .free ?_
 refine Oa rfl (o_done (Se rfl (Om rfl (Om rfl ?_))))
 first | refine g_if rfl rfl ?_ ?_ | refine g_ifn rfl rfl ?_ ?_ | refine g_b rfl rfl ?_ ?_
 ·intro g2_2
  obtain ⟨e, he, rfl⟩ := g1.2 g2_2
  refine o_lOS rfl (.met rfl rfl) rfl ?_
  refine o_call rfl (.met rfl rfl) rfl (f_form_isNormal hrep (exOf_is he).2.1 _) ?_
  rintro _ _ _ _ ⟨rfl, rfl, rfl⟩
  refine o_pick_true rfl rfl .free rfl ?_
  refine Oa rfl (o_done ?_)
  refine s_ret (.tmp rfl .nil) ?_
  refine ⟨J, L, hleJ, drops, ?_, rfl⟩
  first
   | (rw [exNorm_some he]; rfl)
   | (rw [exNorm_none (g1.1 (by simpa using g2_2))]; rfl)
 intro g2_2
 refine o_skip rfl rfl rfl ?_
 refine o_skip rfl rfl rfl ?_
 refine o_pick_false rfl rfl .free rfl ?_
 refine Oa rfl (o_done ?_)
 refine s_ret (.tmp rfl .nil) ?_
 refine ⟨J, L, hleJ, drops, ?_, rfl⟩
 first
  | (rw [exNorm_some he]; rfl)
  | (rw [exNorm_none (g1.1 (by simpa using g2_2))]; rfl)
open Go.Shelf
def laysM171_ren : Go.Shelf.Ren := ⟨fun | 171 => 99 | 243 => 108 | 246 => 110 | 283 => 111 | 284 => 112 | 285 => 113 | 286 => 114 | 129 => 116 | 317 => 115 | 318 => 117 | 319 => 118 | 320 => 119 | 337 => 120 | 338 => 121 | n => n, fun | 3 => 3 | 9 => 9 | 2 => 2 | 4 => 4 | 171 => 127 | 0 => 0 | 53 => 128 | 37 => 22 | 5 => 5 | 173 => 131 | 212 => 134 | 51 => 135 | 20 => 20 | 213 => 136 | 46 => 138 | 232 => 141 | 233 => 142 | n => n, fun | 17 => 0 | 18 => 1 | 19 => 2 | n => n⟩
theorem laysM171 : Go.Proofs.LaysM.n171 Tryz.prog laysM171_ren := {
 mixed := by kernel_rfl
 f129 := Tryz.func116.trans (congrArg some (by kernel_rfl))
 f171 := Tryz.func99.trans (congrArg some (by kernel_rfl))
 f243 := Tryz.func108.trans (congrArg some (by kernel_rfl))
 f246 := Tryz.func110.trans (congrArg some (by kernel_rfl))
 f283 := Tryz.func111.trans (congrArg some (by kernel_rfl))
 f284 := Tryz.func112.trans (congrArg some (by kernel_rfl))
 f285 := Tryz.func113.trans (congrArg some (by kernel_rfl))
 f286 := Tryz.func114.trans (congrArg some (by kernel_rfl))
 f317 := Tryz.func115.trans (congrArg some (by kernel_rfl))
 f318 := Tryz.func117.trans (congrArg some (by kernel_rfl))
 f319 := Tryz.func118.trans (congrArg some (by kernel_rfl))
 f320 := Tryz.func119.trans (congrArg some (by kernel_rfl))
 f337 := Tryz.func120.trans (congrArg some (by kernel_rfl))
 f338 := Tryz.func121.trans (congrArg some (by kernel_rfl))
 t0 := Tryz.underlying0
 a0 := Tryz.isAgg0
 z0 := Tryz.sizeOf0
 v0 := Tryz.zeroValue0
 t2 := Tryz.underlying2
 a2 := Tryz.isAgg2
 z2 := Tryz.sizeOf2
 v2 := Tryz.zeroValue2
 t3 := Tryz.underlying3
 a3 := Tryz.isAgg3
 z3 := Tryz.sizeOf3
 v3 := Tryz.zeroValue3
 t4 := Tryz.underlying4
 a4 := Tryz.isAgg4
 z4 := Tryz.sizeOf4
 v4 := Tryz.zeroValue4
 t5 := Tryz.underlying5
 a5 := Tryz.isAgg5
 z5 := Tryz.sizeOf5
 v5 := Tryz.zeroValue5
 t9 := Tryz.underlying9
 a9 := Tryz.isAgg9
 z9 := Tryz.sizeOf9
 v9 := Tryz.zeroValue9
 t20 := Tryz.underlying20
 a20 := Tryz.isAgg20
 z20 := Tryz.sizeOf20
 v20 := Tryz.zeroValue20
 t37 := Tryz.underlying22
 a37 := Tryz.isAgg22
 z37 := Tryz.sizeOf22
 v37 := Tryz.zeroValue22
 t46 := Tryz.underlying138
 a46 := Tryz.isAgg138
 z46 := Tryz.sizeOf138
 v46 := Tryz.zeroValue138
 t51 := Tryz.underlying135
 a51 := Tryz.isAgg135
 z51 := Tryz.sizeOf135
 v51 := Tryz.zeroValue135
 t53 := Tryz.underlying128
 a53 := Tryz.isAgg128
 z53 := Tryz.sizeOf128
 v53 := Tryz.zeroValue128
 t171 := Tryz.underlying127
 a171 := Tryz.isAgg127
 z171 := Tryz.sizeOf127
 v171 := Tryz.zeroValue127
 t173 := Tryz.underlying131
 a173 := Tryz.isAgg131
 z173 := Tryz.sizeOf131
 v173 := Tryz.zeroValue131
 t212 := Tryz.underlying134
 a212 := Tryz.isAgg134
 z212 := Tryz.sizeOf134
 v212 := Tryz.zeroValue134
 t213 := Tryz.underlying136
 a213 := Tryz.isAgg136
 z213 := Tryz.sizeOf136
 t232 := Tryz.underlying141
 a232 := Tryz.isAgg141
 z232 := Tryz.sizeOf141
 v232 := Tryz.zeroValue141
 t233 := Tryz.underlying142
 a233 := Tryz.isAgg142
 z233 := Tryz.sizeOf142
 v233 := Tryz.zeroValue142
 g17 := by kernel_rfl
 g18 := by kernel_rfl
 g19 := by kernel_rfl
 i0 := by kernel_rfl
 i2 := by kernel_rfl
 i3 := by kernel_rfl
 i4 := by kernel_rfl
 i5 := by kernel_rfl
 i9 := by kernel_rfl
 i20 := by kernel_rfl
 i37 := by kernel_rfl
 i46 := by kernel_rfl
 i51 := by kernel_rfl
 i53 := by kernel_rfl
 i171 := by kernel_rfl
 i173 := by kernel_rfl
 i212 := by kernel_rfl
 i232 := by kernel_rfl
 i233 := by kernel_rfl
 m17 := by kernel_rfl
 m18 := by kernel_rfl
 m19 := by kernel_rfl }
open Go.Shelf
def lays171_ren : Go.Shelf.Ren := ⟨fun | 171 => 99 | 243 => 108 | 246 => 110 | 283 => 111 | 284 => 112 | 285 => 113 | 286 => 114 | 129 => 116 | 317 => 115 | 318 => 117 | 319 => 118 | 320 => 119 | 337 => 120 | 338 => 121 | n => n, fun | 3 => 3 | 9 => 9 | 2 => 2 | 4 => 4 | 171 => 127 | 0 => 0 | 53 => 128 | 37 => 22 | 5 => 5 | 173 => 131 | 212 => 134 | 51 => 135 | 20 => 20 | 213 => 136 | 46 => 138 | 232 => 141 | 233 => 142 | n => n, fun | 17 => 0 | 18 => 1 | 19 => 2 | n => n⟩
theorem lays171 : Go.Proofs.Lays.n171 Tryz.prog lays171_ren := {
 mixed := by kernel_rfl
 f129 := Tryz.func116.trans (congrArg some (by kernel_rfl))
 f171 := Tryz.func99.trans (congrArg some (by kernel_rfl))
 f243 := Tryz.func108.trans (congrArg some (by kernel_rfl))
 f246 := Tryz.func110.trans (congrArg some (by kernel_rfl))
 f283 := Tryz.func111.trans (congrArg some (by kernel_rfl))
 f284 := Tryz.func112.trans (congrArg some (by kernel_rfl))
 f285 := Tryz.func113.trans (congrArg some (by kernel_rfl))
 f286 := Tryz.func114.trans (congrArg some (by kernel_rfl))
 f317 := Tryz.func115.trans (congrArg some (by kernel_rfl))
 f318 := Tryz.func117.trans (congrArg some (by kernel_rfl))
 f319 := Tryz.func118.trans (congrArg some (by kernel_rfl))
 f320 := Tryz.func119.trans (congrArg some (by kernel_rfl))
 f337 := Tryz.func120.trans (congrArg some (by kernel_rfl))
 f338 := Tryz.func121.trans (congrArg some (by kernel_rfl))
 t0 := Tryz.underlying0
 a0 := Tryz.isAgg0
 z0 := Tryz.sizeOf0
 v0 := Tryz.zeroValue0
 t2 := Tryz.underlying2
 a2 := Tryz.isAgg2
 z2 := Tryz.sizeOf2
 v2 := Tryz.zeroValue2
 t3 := Tryz.underlying3
 a3 := Tryz.isAgg3
 z3 := Tryz.sizeOf3
 v3 := Tryz.zeroValue3
 t4 := Tryz.underlying4
 a4 := Tryz.isAgg4
 z4 := Tryz.sizeOf4
 v4 := Tryz.zeroValue4
 t5 := Tryz.underlying5
 a5 := Tryz.isAgg5
 z5 := Tryz.sizeOf5
 v5 := Tryz.zeroValue5
 t9 := Tryz.underlying9
 a9 := Tryz.isAgg9
 z9 := Tryz.sizeOf9
 v9 := Tryz.zeroValue9
 t20 := Tryz.underlying20
 a20 := Tryz.isAgg20
 z20 := Tryz.sizeOf20
 v20 := Tryz.zeroValue20
 t37 := Tryz.underlying22
 a37 := Tryz.isAgg22
 z37 := Tryz.sizeOf22
 v37 := Tryz.zeroValue22
 t46 := Tryz.underlying138
 a46 := Tryz.isAgg138
 z46 := Tryz.sizeOf138
 v46 := Tryz.zeroValue138
 t51 := Tryz.underlying135
 a51 := Tryz.isAgg135
 z51 := Tryz.sizeOf135
 v51 := Tryz.zeroValue135
 t53 := Tryz.underlying128
 a53 := Tryz.isAgg128
 z53 := Tryz.sizeOf128
 v53 := Tryz.zeroValue128
 t171 := Tryz.underlying127
 a171 := Tryz.isAgg127
 z171 := Tryz.sizeOf127
 v171 := Tryz.zeroValue127
 t173 := Tryz.underlying131
 a173 := Tryz.isAgg131
 z173 := Tryz.sizeOf131
 v173 := Tryz.zeroValue131
 t212 := Tryz.underlying134
 a212 := Tryz.isAgg134
 z212 := Tryz.sizeOf134
 v212 := Tryz.zeroValue134
 t213 := Tryz.underlying136
 a213 := Tryz.isAgg136
 z213 := Tryz.sizeOf136
 t232 := Tryz.underlying141
 a232 := Tryz.isAgg141
 z232 := Tryz.sizeOf141
 v232 := Tryz.zeroValue141
 t233 := Tryz.underlying142
 a233 := Tryz.isAgg142
 z233 := Tryz.sizeOf142
 v233 := Tryz.zeroValue142
 g17 := by kernel_rfl
 g18 := by kernel_rfl
 g19 := by kernel_rfl }
theorem dec_small : ∀ i : Nat, i < 100 → Lib.decDigits i = decT i := by decide +kernel
theorem f_strconv_Itoa (i : Nat) (hi : i < 100) (I : Heap) (L : Own) : Fun Tryz.prog 99 [.int .i64 (i : Nat)] I L (Only (.string (str (decT i))) I L) := by
 refine ⟨fun w hm => (Any.strconv_Itoa_small lays171 i hi w).mono ?_⟩
 rintro e w' ⟨rfl, rfl⟩
 refine ⟨_, I, L, rfl, .refl _, hm, ?_⟩
 rw [dec_small i hi]
 exact ⟨rfl, rfl, rfl⟩
/-- The library's table of powers of ten stands as the program's text lays it. -/
def Tab (I : Heap) : Prop := ∀ L w, Mem I L w → Lib.TabIs Tryz.prog w "internal/strconv.uint64pow10" .u64 Lib.pow10Tab
theorem Tab.mono {I I' : Heap} (h : Tab I) (hle : HLe I I') : Tab I' := fun L w hm => h L w (hm.le hle)
theorem dec_all (n : Nat) : Lib.decDigits n = decT n := by
 induction n using Nat.strongRecOn with
 | _ n ih =>
  rw [Lib.decDigits]
  by_cases h : n < 10
  ·rw [dif_pos h, decT_small h]
  ·rw [dif_neg h, decT_big h, ih (n / 10) (by omega)]
/-- A number in decimals. -/
def intT (n : Int) : Txt := if n < 0 then 45 :: decT n.natAbs else decT n.toNat
theorem intT_nat (n : Nat) : intT (n : Nat) = decT n := by unfold intT; rw [if_neg (by omega)]; rfl
theorem itoa_intT (n : Int) : Lib.itoa n = intT n := by unfold Lib.itoa intT; rw [dec_all, dec_all]
theorem Mem.grow {I : Heap} {L : Own} {w : World} (h : Mem I L w) (k : Nat) (os : Array Obj) : Mem I L (Sort.grow (w.drewN k) os) := by
 have hk : ∀ b o, w.heap[b]? = some o → (w.heap ++ os)[b]? = some o := fun b o hb => by
  have hlt : b < w.heap.size := by
   rcases Nat.lt_or_ge b w.heap.size with g | g
   ·exact g
   ·rw [Array.getElem?_eq_none g] at hb; cases hb
  rw [Array.getElem?_append_left hlt]; exact hb
 exact ⟨⟨fun b o hb => hk b o (h.1.1 b o hb), h.1.2⟩, fun p hp => ⟨hk _ _ (h.2.1 p hp).1, (h.2.1 p hp).2⟩, h.2.2⟩
theorem f_strconv_ItoaT {I : Heap} (ht : Tab I) (n : Int) (h0 : -9223372036854775808 ≤ n) (h1 : n ≤ 9223372036854775807) (L : Own) : Fun Tryz.prog 99 [.int .i64 n] I L (Only (.string (str (intT n))) I L) := by
 refine ⟨fun w hm => (Any.strconv_Itoa laysM171 n h0 h1 w (ht L w hm)).mono ?_⟩
 rintro e w' ⟨rfl, k, os, rfl⟩
 refine ⟨_, I, L, rfl, .refl _, hm.grow k os, ?_⟩
 rw [itoa_intT]
 exact ⟨rfl, rfl, rfl⟩
/-- The entries of a map that has met these texts, in this order. -/
def ents : List Txt → Nat → List MapEntry
 | [], _ => []
 | s :: l, i => ⟨.string (str s), .bool true, i⟩ :: ents l (i + 1)
def metObj (l : List Txt) : Obj := .map (ents l 0).toArray l.length
theorem ents_push (s : Txt) : ∀ (l : List Txt) (i : Nat), ents (l ++ [s]) i = ents l i ++ [⟨.string (str s), .bool true, i + l.length⟩]
 | [], i => rfl
 | x :: l, i => by simp only [List.cons_append, ents, ents_push s l (i + 1), List.length_cons]; rw [show i + 1 + l.length = i + (l.length + 1) by omega]
theorem same_str (s x : Txt) : Instr.sameNow .string (.string (str s)) (.string (str x)) = some (decide (s = x)) := by
 simp only [Instr.sameNow, Option.some.injEq]
 show (s.toArray == x.toArray) = _
 rw [Bool.eq_iff_iff, beq_iff_eq, decide_eq_true_eq]
 constructor
 ·intro h; simpa using congrArg Array.toList h
 ·intro h; rw [h]
theorem find_in (s : Txt) : ∀ (l : List Txt) (i j : Nat), s ∈ l → ∃ k, Instr.findNow .string (.string (str s)) (ents l i) j = some (some (k, .bool true))
 | [], i, j, h => by cases h
 | x :: l, i, j, h => by
  simp only [ents, Instr.findNow, same_str]
  by_cases e : s = x
  ·simp [e]
  ·simp only [e, decide_false]
   rcases List.mem_cons.1 h with h | h
   ·exact absurd h e
   ·exact find_in s l (i + 1) (j + 1) h
theorem find_out (s : Txt) : ∀ (l : List Txt) (i j : Nat), s ∉ l → Instr.findNow .string (.string (str s)) (ents l i) j = some none
 | [], i, j, h => rfl
 | x :: l, i, j, h => by
  simp only [ents, Instr.findNow, same_str]
  have e : s ≠ x := fun e => h (e ▸ .head _)
  simp only [e, decide_false]
  exact find_out s l (i + 1) (j + 1) fun hh => h (.tail _ hh)
section
variable {P : Program} {f : FuncId} {n : Nat} {I₀ : Heap} {Q : Post} {k : List Item} {E : Env} {I : Heap} {L : Own} {ops : Array Oper} {d : Nat} {ty : TypeId} {pos : String} {af : Array Edge} {g : Option (Nat × Bool)} {l : List Oper}
theorem run_getObj {w : World} {r c : Nat} {es : Array MapEntry} (h : w.heap[r]? = some (.map es c)) : (getObj r).run P w = .ok (.map es c) w := by simp [getObj, Sem.run, h]
theorem run_setObj {w : World} {r c : Nat} {es : Array MapEntry} {o' : Obj} (h : w.heap[r]? = some (.map es c)) : (setObj r o').run P w = .ok () { w with heap := w.heap.setIfInBounds r o' } := by simp [setObj, Sem.run, h]
theorem run_checkKey {T : TypeId} {sz bb : Nat} {z : List Value} (ht : TyIs P T .string sz bb z) (e : Bool) (s : Txt) (w : World) : (Instr.checkKey e 10000 T (.string (str s))).run P w = .ok () w := by
 rw [show (10000 : Nat) = 9999 + 1 from rfl]
 unfold Instr.checkKey
 rw [run_bind_ok (run_underlying ht.und w)]
 rfl
theorem run_findKey {T : TypeId} {sz bb : Nat} {z : List Value} (ht : TyIs P T .string sz bb z) {v : Value} {es : List MapEntry} {r : Option (Nat × Value)} (h : Instr.findNow .string v es 0 = some r) (w : World) : (Instr.findKey T v es).run P w = .ok r w := by
 unfold Instr.findKey
 rw [run_bind_ok (run_underlying ht.und w), h]
 rfl
theorem o_makeMap {T K V : TypeId} {sz bb : Nat} {z : List Value} [ht : TyIs P T (.map K V) sz bb z] (hg : Wants ops E g) (hdn : Nat.blt d n = true)
  (h : ∀ b, RunO P f n I₀ Q ops l k ((d, .map (some b)) :: E) I ((b, metObj []) :: L)) : RunO P f n I₀ Q ops (⟨some d, .makeMap T none, ty, pos, af, g⟩ :: l) k E I L := by
 refine o_stepX rfl hdn (fun a he => hg.wanted a he) fun a w he hm => ?_
 refine ⟨_, _, I, (w.heap.size, metObj []) :: L, ?_, hm.alloc _, h _⟩
 rfl
theorem o_lookup {T K V : TypeId} {sz bb ks kb vs vb : Nat} {z kz vz : List Value} [ht : TyIs P T (.map K V) sz bb z] [hk : TyIs P K .string ks kb kz] [hv : TyIs P V .bool vs vb vz] {x y : Operand} {b : Nat} {m : List Txt} {s : Txt}
  (hx : opd E x = some (.map (some b))) (hy : opd E y = some (.string (str s))) (hz : ∃ i, P.info? V = some i ∧ i.zero = some (.bool false)) (hm : ∀ w, Mem I L w → w.heap[b]? = some (metObj m)) (hg : Wants ops E g) (hdn : Nat.blt d n = true)
  (h : RunO P f n I₀ Q ops l k ((d, .bool (decide (s ∈ m))) :: E) I L) : RunO P f n I₀ Q ops (⟨some d, .lookup T x y false, ty, pos, af, g⟩ :: l) k E I L := by
 refine o_step rfl hdn (fun a he => hg.wanted a he) (fun a w he hM => ⟨w, ?_, hM⟩) h
 simp only [execOp, he.eval hx, he.eval hy, Instr.lookup]
 refine run_bind_ok (a := .bool (decide (s ∈ m))) (w' := w) ?_ |>.trans rfl
 rw [run_bind_ok (run_underlying ht.und w)]
 simp only
 rw [run_bind_ok (run_getObj (hm w hM))]
 simp only [pure_bind]
 rw [run_bind_ok (run_checkKey hk _ s w)]
 by_cases hs : s ∈ m
 ·obtain ⟨j, hj⟩ := find_in s m 0 0 hs
  rw [run_bind_ok (run_findKey hk (show Instr.findNow .string (.string (str s)) (ents m 0).toArray.toList 0 = _ from hj) w)]
  simp [hs]
 ·rw [run_bind_ok (run_findKey hk (show Instr.findNow .string (.string (str s)) (ents m 0).toArray.toList 0 = _ from find_out s m 0 0 hs) w)]
  obtain ⟨i, hi1, hi2⟩ := hz
  have hv1 : (zeroValue V).run P w = .ok (.bool false) w := by
   unfold zeroValue
   rw [run_bind_ok (run_typeInfo hi1 w), hi2]; rfl
  simp only
  rw [run_bind_ok hv1]
  simp [hs]
theorem o_mapUpdate {T K V : TypeId} {sz bb ks kb : Nat} {z kz : List Value} [ht : TyIs P T (.map K V) sz bb z] [hk : TyIs P K .string ks kb kz] {x y u : Operand} {b : Nat} {m : List Txt} {s : Txt} {L' : Own}
  (hx : opd E x = some (.map (some b))) (hy : opd E y = some (.string (str s))) (hv : opd E u = some (.bool true)) (hs : s ∉ m) (hu : Upd b (metObj (m ++ [s])) (metObj m) L L') (hg : Wants ops E g)
  (h : RunO P f n I₀ Q ops l k E I L') : RunO P f n I₀ Q ops (⟨none, .mapUpdate T x y u, ty, pos, af, g⟩ :: l) k E I L := by
 refine o_step_none rfl (fun a he => hg.wanted a he) (fun a w he hM => ⟨_, .inl ?_, hM.upd hu⟩) h
 simp only [execOp, he.eval hx, he.eval hy, he.eval hv, Instr.mapUpdate]
 refine run_bind_ok (a := ()) (w' := { w with heap := w.heap.setIfInBounds b (metObj (m ++ [s])) }) ?_ |>.trans rfl
 rw [run_bind_ok (run_underlying ht.und w)]
 simp only
 rw [run_bind_ok (run_getObj (hM.2.1 _ hu.mem.1).1)]
 simp only [metObj]
 rw [run_bind_ok (run_checkKey hk _ s w)]
 rw [run_bind_ok (run_findKey hk (show Instr.findNow .string (.string (str s)) (ents m 0).toArray.toList 0 = _ from find_out s m 0 0 hs) w)]
 simp only
 rw [run_setObj (hM.2.1 _ hu.mem.1).1]
 simp [ents_push]
end
theorem find_at (s : Txt) : ∀ (l : List Txt) (i j : Nat), s ∈ l → ∃ k, Instr.findNow .string (.string (str s)) (ents l i) j = some (some (j + k, .bool true)) ∧ (ents l i)[k]? = some ⟨.string (str s), .bool true, i + k⟩
 | [], i, j, h => by cases h
 | x :: l, i, j, h => by
  simp only [ents, Instr.findNow, same_str]
  by_cases e : s = x
  ·subst e; exact ⟨0, by simp, by simp⟩
  ·simp only [e, decide_false]
   rcases List.mem_cons.1 h with h | h
   ·exact absurd h e
   ·obtain ⟨k, h1, h2⟩ := find_at s l (i + 1) (j + 1) h
    exact ⟨k + 1, by rw [h1]; simp; omega, by rw [List.getElem?_cons_succ, h2]; congr 2; omega⟩
theorem run_stays (s : Txt) {P : Program} (w : World) : (Instr.keyThatStays (.string (str s)) (.string (str s))).run P w = .ok (.string (str s)) w := by
 have h : Instr.sameBits 10000 (.string (str s)) (.string (str s)) = true := by
  show (str s == str s) = true
  show (s.toArray == s.toArray) = true
  simp
 unfold Instr.keyThatStays
 rw [if_pos h]; rfl
section
variable {P : Program} {f : FuncId} {n : Nat} {I₀ : Heap} {Q : Post} {k : List Item} {E : Env} {I : Heap} {L : Own} {ops : Array Oper} {d : Nat} {ty : TypeId} {pos : String} {af : Array Edge} {g : Option (Nat × Bool)} {l : List Oper}
theorem o_mapAdd {T K V : TypeId} {sz bb ks kb : Nat} {z kz : List Value} [ht : TyIs P T (.map K V) sz bb z] [hk : TyIs P K .string ks kb kz] {x y u : Operand} {b : Nat} {m : List Txt} {s : Txt} {L' : Own}
  (hx : opd E x = some (.map (some b))) (hy : opd E y = some (.string (str s))) (hv : opd E u = some (.bool true)) (hu : Upd b (metObj (addOnce m s)) (metObj m) L L') (hg : Wants ops E g)
  (h : RunO P f n I₀ Q ops l k E I L') : RunO P f n I₀ Q ops (⟨none, .mapUpdate T x y u, ty, pos, af, g⟩ :: l) k E I L := by
 by_cases hs : s ∈ m
 ·refine o_step_none rfl (fun a he => hg.wanted a he) (fun a w he hM => ⟨_, .inl ?_, hM.upd hu⟩) h
  simp only [execOp, he.eval hx, he.eval hy, he.eval hv, Instr.mapUpdate]
  refine run_bind_ok (a := ()) (w' := { w with heap := w.heap.setIfInBounds b (metObj (addOnce m s)) }) ?_ |>.trans rfl
  rw [run_bind_ok (run_underlying ht.und w)]
  simp only
  rw [run_bind_ok (run_getObj (hM.2.1 _ hu.mem.1).1)]
  simp only [metObj]
  rw [run_bind_ok (run_checkKey hk _ s w)]
  obtain ⟨i, hi1, hi2⟩ := find_at s m 0 0 hs
  rw [Nat.zero_add] at hi1 hi2
  rw [run_bind_ok (run_findKey hk (show Instr.findNow .string (.string (str s)) (ents m 0).toArray.toList 0 = _ from hi1) w)]
  simp only [List.getElem?_toArray, hi2, Option.map_some, Option.getD_some]
  rw [run_bind_ok (run_stays s w), run_setObj (hM.2.1 _ hu.mem.1).1]
  have e1 : addOnce m s = m := by simp [addOnce, hs]
  have e2 : (ents m 0).toArray.modify i (fun e => { e with key := .string (str s), val := .bool true }) = (ents m 0).toArray := by
   apply Array.ext
   ·simp
   ·intro j h1 h2
    rw [Array.getElem_modify]
    split
    ·rename_i hij
     subst hij
     have h3 : (ents m 0)[i]? = some ((ents m 0)[i]'(by simpa using h2)) := List.getElem?_eq_getElem _
     rw [hi2] at h3
     simp only [Option.some.injEq] at h3
     simp only [List.getElem_toArray, ← h3]
    ·rfl
  rw [e1, e2]
 ·have e1 : addOnce m s = m ++ [s] := by simp [addOnce, hs]
  rw [e1] at hu
  exact o_mapUpdate hx hy hv hs hu hg h
end
section
variable {P : Program} {f : FuncId} {n : Nat} {I₀ : Heap} {Q : Post} {k : List Item} {E : Env} {I : Heap} {id : Nat} {ops : Array Oper} {a b c p q r s t u v : Nat × Obj} {X A B L R : Own} {w : World}
theorem bufIs {z m c : Nat} {xs : List Value} {B : Buf} (h : BufOk z m c xs B) : ∃ a j, bufVal m c B = .slice a m j := by
 cases B with
 | none => obtain ⟨_, rfl, rfl⟩ := h; exact ⟨_, _, rfl⟩
 | some p => exact ⟨_, _, rfl⟩
theorem upd7 {b : Nat} {o o' : Obj} {p p1 p2 p3 p4 p5 p6 : Nat × Obj} : Upd b o' o (p :: p1 :: p2 :: p3 :: p4 :: p5 :: p6 :: (b, o) :: L) (p :: p1 :: p2 :: p3 :: p4 :: p5 :: p6 :: (b, o') :: L) := .there u6
theorem Mem.nq3 (h : Mem I (p :: q :: r :: a :: b :: R) w) : Mem I (a :: b :: p :: q :: r :: R) w := h.perm (List.perm_append_comm_assoc [p, q, r] [a, b] R)
theorem Mem.nq4 (h : Mem I (p :: q :: r :: s :: a :: b :: R) w) : Mem I (a :: b :: p :: q :: r :: s :: R) w := h.perm (List.perm_append_comm_assoc [p, q, r, s] [a, b] R)
theorem Mem.qn4 (h : Mem I (a :: b :: p :: q :: r :: s :: R) w) : Mem I (p :: q :: r :: s :: a :: b :: R) w := h.perm (List.perm_append_comm_assoc [a, b] [p, q, r, s] R)
/-- What stands ahead of three and a list goes behind them. -/
theorem Mem.kv (h : Mem I (X ++ (a :: b :: c :: (A ++ L))) w) : Mem I (a :: b :: c :: (A ++ (X ++ L))) w := h.perm (List.perm_append_comm_assoc X (a :: b :: c :: A) L)
theorem Mem.vk (h : Mem I (a :: b :: c :: (A ++ (X ++ L))) w) : Mem I (X ++ (a :: b :: c :: (A ++ L))) w := h.perm (List.perm_append_comm_assoc (a :: b :: c :: A) X L)
theorem Mem.kv2 (h : Mem I (p :: q :: a :: b :: c :: (A ++ L)) w) : Mem I (a :: b :: c :: (A ++ (p :: q :: L))) w := Mem.kv (X := [p, q]) h
theorem Mem.vk2 (h : Mem I (a :: b :: c :: (A ++ (p :: q :: L))) w) : Mem I (p :: q :: a :: b :: c :: (A ++ L)) w := Mem.vk (X := [p, q]) h
theorem Mem.kv4 (h : Mem I (p :: q :: r :: s :: a :: b :: c :: (A ++ L)) w) : Mem I (a :: b :: c :: (A ++ (p :: q :: r :: s :: L))) w := Mem.kv (X := [p, q, r, s]) h
theorem Mem.vk4 (h : Mem I (a :: b :: c :: (A ++ (p :: q :: r :: s :: L))) w) : Mem I (p :: q :: r :: s :: a :: b :: c :: (A ++ L)) w := Mem.vk (X := [p, q, r, s]) h
theorem Mem.w3 (h : Mem I (p :: a :: b :: c :: L) w) : Mem I (a :: b :: c :: p :: L) w := h.perm (List.perm_append_comm_assoc [p] [a, b, c] L)
theorem Mem.uu7 (h : Mem I (a :: b :: c :: p :: q :: r :: s :: (X ++ L)) w) : Mem I (X ++ a :: b :: c :: p :: q :: r :: s :: L) w := h.perm (List.perm_append_comm_assoc [a, b, c, p, q, r, s] X L)
theorem d_o6 (N : Nat) (hN : ops.size = N) (hm : P.follows .mixedOrders = true) (h : RunW P f n I₀ Q ops (Mem I (a :: p :: q :: r :: s :: t :: L)) N (Array.replicate N false) k E I (a :: p :: q :: r :: s :: t :: (A ++ L))) :
  RunS P f n I₀ Q (.code (.region id ops true) :: k) E I (a :: p :: q :: r :: s :: t :: (A ++ L)) := d_with I (a :: p :: q :: r :: s :: t :: L) N hN hm h
theorem d_o4 (N : Nat) (hN : ops.size = N) (hm : P.follows .mixedOrders = true) (h : RunW P f n I₀ Q ops (Mem I (p :: q :: r :: s :: R)) N (Array.replicate N false) k E I (p :: q :: r :: s :: a :: b :: R)) :
  RunS P f n I₀ Q (.code (.region id ops true) :: k) E I (p :: q :: r :: s :: a :: b :: R) := d_with I (p :: q :: r :: s :: R) N hN hm h
theorem d_q4 (N : Nat) (hN : ops.size = N) (hm : P.follows .mixedOrders = true) (h : RunW P f n I₀ Q ops (Mem I (p :: q :: r :: s :: L)) N (Array.replicate N false) k E I (p :: q :: r :: s :: a :: b :: c :: (A ++ L))) :
  RunS P f n I₀ Q (.code (.region id ops true) :: k) E I (p :: q :: r :: s :: a :: b :: c :: (A ++ L)) := d_with I (p :: q :: r :: s :: L) N hN hm h
end
/-- What makes an expression simple gives: the expression, the bindings ahead of it, the next number, how many names were given. -/
structure MK where
 e : Ex
 ns : List (Txt × Ex)
 n : Nat
 g : Nat
def MK.pt (tk : List Txt) (p : MK) : MK := if p.e.bare = true then p else ⟨.name (nm 121 (fr 121 tk p.n)), p.ns ++ [(nm 121 (fr 121 tk p.n), p.e)], fr 121 tk p.n + 1, p.g + 1⟩
def MK.all (p : MK) : Ex := lets p.ns p.e
def Ex.mk (tk : List Txt) : Ex → Nat → MK
 | .num s, n => ⟨.num s, [], n, 0⟩
 | .name s, n => ⟨.name s, [], n, 0⟩
 | .lt x a b, n => let p := a.mk tk n; let q := b.mk tk p.n; ⟨q.e, p.ns ++ (x, p.e) :: q.ns, q.n, p.g + q.g⟩
 | .fn f x s t b, n => let p := b.mk tk n; ⟨.fn f x s t p.all, [], p.n, p.g⟩
 | .ite a b c, n => let p := (a.mk tk n).pt tk; let q := b.mk tk p.n; let r := c.mk tk q.n; ⟨.ite p.e q.all r.all, p.ns, r.n, p.g + q.g + r.g⟩
 | .bin o a b, n => let p := (a.mk tk n).pt tk; let q := (b.mk tk p.n).pt tk; ⟨.bin o p.e q.e, p.ns ++ q.ns, q.n, p.g + q.g⟩
 | .un o a, n => let p := (a.mk tk n).pt tk; ⟨.un o p.e, p.ns, p.n, p.g⟩
def nsz : List (Txt × Ex) → Nat
 | [] => 0
 | p :: ps => 2 + p.2.size + nsz ps
theorem nsz_app : ∀ (a b : List (Txt × Ex)), nsz (a ++ b) = nsz a + nsz b
 | [], b => by simp [nsz]
 | p :: a, b => by simp only [List.cons_append, nsz, nsz_app a b]; omega
theorem letsN_size : ∀ (l : List (Txt × Ex)) (e : Ex), (lets l e).size = nsz l + e.size
 | [], e => by simp [lets, nsz]
 | p :: l, e => by simp only [lets, Ex.size, letsN_size l e, nsz]; omega
theorem MK.all_size (p : MK) : p.all.size = nsz p.ns + p.e.size := letsN_size _ _
theorem MK.pt_size (tk : List Txt) (p : MK) {s : Nat} (h : nsz p.ns + p.e.size = s + 3 * p.g) : nsz (p.pt tk).ns + (p.pt tk).e.size = s + 3 * (p.pt tk).g := by
 unfold MK.pt
 split
 ·exact h
 ·simp only [nsz_app, nsz, Ex.size]; omega
/-- Each name given costs three atoms. -/
theorem Ex.mk_size (tk : List Txt) : ∀ (e : Ex) (n : Nat), nsz (e.mk tk n).ns + (e.mk tk n).e.size = e.size + 3 * (e.mk tk n).g
 | .num s, n => by simp [Ex.mk, nsz, Ex.size]
 | .name s, n => by simp [Ex.mk, nsz, Ex.size]
 | .lt x a b, n => by
  have h1 := a.mk_size tk n; have h2 := b.mk_size tk (a.mk tk n).n
  simp only [Ex.mk, nsz_app, nsz, Ex.size]; omega
 | .fn f x s t b, n => by
  have h1 := b.mk_size tk n
  simp only [Ex.mk, nsz, Ex.size, MK.all_size]; omega
 | .ite a b c, n => by
  have h1 := MK.pt_size tk _ (a.mk_size tk n)
  have h2 := b.mk_size tk ((a.mk tk n).pt tk).n
  have h3 := c.mk_size tk (b.mk tk ((a.mk tk n).pt tk).n).n
  simp only [Ex.mk, Ex.size, MK.all_size]; omega
 | .bin o a b, n => by
  have h1 := MK.pt_size tk _ (a.mk_size tk n)
  have h2 := MK.pt_size tk _ (b.mk_size tk ((a.mk tk n).pt tk).n)
  simp only [Ex.mk, nsz_app, Ex.size]; omega
 | .un o a, n => by
  have h1 := MK.pt_size tk _ (a.mk_size tk n)
  simp only [Ex.mk, Ex.size]; omega
theorem MK.pt_hits (tk : List Txt) (p : MK) {n : Nat} (h : n ≤ p.n ∧ p.n + hits 121 tk n = n + p.g + hits 121 tk p.n) : n ≤ (p.pt tk).n ∧ (p.pt tk).n + hits 121 tk n = n + (p.pt tk).g + hits 121 tk (p.pt tk).n := by
 unfold MK.pt
 split
 ·exact h
 ·have h1 := fr_hits_succ 121 tk p.n
  have h2 := (fr_facts 121 tk p.n).2.1
  simp only; omega
theorem Ex.mk_hits (tk : List Txt) : ∀ (e : Ex) (n : Nat), n ≤ (e.mk tk n).n ∧ (e.mk tk n).n + hits 121 tk n = n + (e.mk tk n).g + hits 121 tk (e.mk tk n).n
 | .num s, n => ⟨Nat.le_refl _, by simp [Ex.mk]⟩
 | .name s, n => ⟨Nat.le_refl _, by simp [Ex.mk]⟩
 | .lt x a b, n => by
  have h1 := a.mk_hits tk n; have h2 := b.mk_hits tk (a.mk tk n).n
  simp only [Ex.mk]; omega
 | .fn f x s t b, n => by
  have h1 := b.mk_hits tk n
  simp only [Ex.mk]; omega
 | .ite a b c, n => by
  have h1 := MK.pt_hits tk _ (a.mk_hits tk n)
  have h2 := b.mk_hits tk ((a.mk tk n).pt tk).n
  have h3 := c.mk_hits tk (b.mk tk ((a.mk tk n).pt tk).n).n
  simp only [Ex.mk]; omega
 | .bin o a b, n => by
  have h1 := MK.pt_hits tk _ (a.mk_hits tk n)
  have h2 := MK.pt_hits tk _ (b.mk_hits tk ((a.mk tk n).pt tk).n)
  simp only [Ex.mk]; omega
 | .un o a, n => by
  have h1 := MK.pt_hits tk _ (a.mk_hits tk n)
  simp only [Ex.mk]; omega
theorem MK.pt_g (tk : List Txt) (p : MK) {s : Nat} (h : p.g + 1 ≤ s) (hb : p.e.bare = false → p.g + 2 ≤ s) : (p.pt tk).g + 1 ≤ s := by
 unfold MK.pt
 split
 ·exact h
 ·rename_i hx; simp only; have := hb (by simpa using hx); omega
/-- Fewer names are given than there are atoms. -/
theorem Ex.mk_g (tk : List Txt) : ∀ (e : Ex) (n : Nat), (e.mk tk n).g + 1 ≤ e.size ∧ ((e.mk tk n).e.bare = false → (e.mk tk n).g + 2 ≤ e.size)
 | .num s, n => ⟨Nat.le_refl _, fun h => by cases h⟩
 | .name s, n => ⟨Nat.le_refl _, fun h => by cases h⟩
 | .lt x a b, n => by
  have h1 := a.mk_g tk n; have h2 := b.mk_g tk (a.mk tk n).n
  simp only [Ex.mk, Ex.size]; omega
 | .fn f x s t b, n => by
  have h1 := b.mk_g tk n; have := s.size_pos
  simp only [Ex.mk, Ex.size]; omega
 | .ite a b c, n => by
  have h0 := a.mk_g tk n
  have h1 := MK.pt_g tk _ h0.1 h0.2
  have h2 := b.mk_g tk ((a.mk tk n).pt tk).n
  have h3 := c.mk_g tk (b.mk tk ((a.mk tk n).pt tk).n).n
  simp only [Ex.mk, Ex.size]; omega
 | .bin o a b, n => by
  have h0 := a.mk_g tk n
  have h1 := MK.pt_g tk _ h0.1 h0.2
  have h00 := b.mk_g tk ((a.mk tk n).pt tk).n
  have h2 := MK.pt_g tk _ h00.1 h00.2
  simp only [Ex.mk, Ex.size]; omega
 | .un o a, n => by
  have h0 := a.mk_g tk n
  have h1 := MK.pt_g tk _ h0.1 h0.2
  simp only [Ex.mk, Ex.size]; omega
theorem MK.pt_len (tk : List Txt) (p : MK) {s : Nat} (h : p.ns.length + 1 ≤ s) : (p.pt tk).ns.length ≤ s := by
 unfold MK.pt
 split
 ·omega
 ·simp only [List.length_append, List.length_cons, List.length_nil]; omega
/-- Fewer bindings than atoms. -/
theorem Ex.mk_len (tk : List Txt) : ∀ (e : Ex) (n : Nat), (e.mk tk n).ns.length + 1 ≤ e.size
 | .num s, n => Nat.le_refl _
 | .name s, n => Nat.le_refl _
 | .lt x a b, n => by
  have h1 := a.mk_len tk n; have h2 := b.mk_len tk (a.mk tk n).n
  simp only [Ex.mk, Ex.size, List.length_append, List.length_cons]; omega
 | .fn f x s t b, n => by simp only [Ex.mk, Ex.size, List.length_nil]; omega
 | .ite a b c, n => by
  have h1 := MK.pt_len tk _ (a.mk_len tk n)
  simp only [Ex.mk, Ex.size]; omega
 | .bin o a b, n => by
  have h1 := MK.pt_len tk _ (a.mk_len tk n)
  have h2 := MK.pt_len tk _ (b.mk_len tk ((a.mk tk n).pt tk).n)
  simp only [Ex.mk, Ex.size, List.length_append]; omega
 | .un o a, n => by
  have h1 := MK.pt_len tk _ (a.mk_len tk n)
  simp only [Ex.mk, Ex.size]; omega
/-- The bindings' names are names, their expressions are expressions. -/
def okNs (l : List (Txt × Ex)) : Prop := ∀ p ∈ l, isName p.1 = true ∧ p.2.ok = true
theorem okNs.add {l m : List (Txt × Ex)} (h : okNs l) (h' : okNs m) : okNs (l ++ m) := by
 intro p hp
 rcases List.mem_append.1 hp with hp | hp
 ·exact h p hp
 ·exact h' p hp
theorem letsN_ok : ∀ {l : List (Txt × Ex)} {e : Ex}, okNs l → e.ok = true → (lets l e).ok = true
 | [], e, _, h => h
 | p :: l, e, hl, h => by
  have h1 := hl p (.head _)
  simp only [lets, Ex.ok, Bool.and_eq_true]
  exact ⟨⟨h1.1, h1.2⟩, letsN_ok (fun q hq => hl q (.tail _ hq)) h⟩
theorem MK.pt_ok {tk : List Txt} {p : MK} (h : okNs p.ns ∧ p.e.ok = true) (hn : p.n + tk.length < 1000 + hits 121 tk p.n) : okNs (p.pt tk).ns ∧ (p.pt tk).e.ok = true := by
 unfold MK.pt
 split
 ·exact h
 ·have h1 := (fr_facts 121 tk p.n).2.2
  have h2 := hits_le 121 tk (fr 121 tk p.n)
  have hz : isName (nm 121 (fr 121 tk p.n)) = true := nm_name (by decide) (by omega)
  exact ⟨h.1.add fun q hq => by rw [List.mem_singleton.1 hq]; exact ⟨hz, h.2⟩, hz⟩
theorem MK.n_le {tk : List Txt} {p : MK} {n : Nat} (h : n ≤ p.n ∧ p.n + hits 121 tk n = n + p.g + hits 121 tk p.n) : p.n ≤ n + p.g + tk.length := by
 have := hits_le 121 tk p.n; omega
theorem Ex.mk_ok {tk : List Txt} : ∀ {e : Ex} {n : Nat}, e.ok = true → n + e.size + tk.length ≤ 900 + hits 121 tk n → okNs (e.mk tk n).ns ∧ (e.mk tk n).e.ok = true
 | .num s, n, h, _ => ⟨fun p hp => (by cases hp), h⟩
 | .name s, n, h, _ => ⟨fun p hp => (by cases hp), h⟩
 | .lt x a b, n, h, hn => by
  simp only [Ex.ok, Bool.and_eq_true] at h
  simp only [Ex.size] at hn
  have g1 := a.mk_g tk n; have m1 := a.mk_hits tk n
  have h1 := Ex.mk_ok (tk := tk) (n := n) h.1.2 (by omega)
  have h2 := Ex.mk_ok (tk := tk) (n := (a.mk tk n).n) h.2 (by omega)
  simp only [Ex.mk]
  refine ⟨h1.1.add fun p hp => ?_, h2.2⟩
  rcases List.mem_cons.1 hp with rfl | hp
  ·exact ⟨h.1.1, h1.2⟩
  ·exact h2.1 p hp
 | .fn f x s t b, n, h, hn => by
  simp only [Ex.ok, Bool.and_eq_true, decide_eq_true_eq] at h
  simp only [Ex.size] at hn
  have h1 := Ex.mk_ok (tk := tk) (n := n) h.2 (by omega)
  simp only [Ex.mk, Ex.ok, Bool.and_eq_true, decide_eq_true_eq]
  exact ⟨fun p hp => (by cases hp), h.1, letsN_ok h1.1 h1.2⟩
 | .ite a b c, n, h, hn => by
  simp only [Ex.ok, Bool.and_eq_true] at h
  simp only [Ex.size] at hn
  have g1 := a.mk_g tk n; have m1 := a.mk_hits tk n; have k0 := hits_le 121 tk (a.mk tk n).n; have k00 := hits_le 121 tk n
  have gp := MK.pt_g tk _ g1.1 g1.2; have mp := MK.pt_hits tk _ m1
  have h1 := MK.pt_ok (tk := tk) (Ex.mk_ok (tk := tk) (n := n) h.1.1 (by omega)) (by omega)
  have g2 := b.mk_g tk ((a.mk tk n).pt tk).n; have m2 := b.mk_hits tk ((a.mk tk n).pt tk).n
  have h2 := Ex.mk_ok (tk := tk) (n := ((a.mk tk n).pt tk).n) h.1.2 (by omega)
  have h3 := Ex.mk_ok (tk := tk) (n := (b.mk tk ((a.mk tk n).pt tk).n).n) h.2 (by omega)
  simp only [Ex.mk, Ex.ok, Bool.and_eq_true]
  exact ⟨h1.1, ⟨h1.2, letsN_ok h2.1 h2.2⟩, letsN_ok h3.1 h3.2⟩
 | .bin o a b, n, h, hn => by
  simp only [Ex.ok, Bool.and_eq_true] at h
  simp only [Ex.size] at hn
  have g1 := a.mk_g tk n; have m1 := a.mk_hits tk n; have k0 := hits_le 121 tk (a.mk tk n).n; have k00 := hits_le 121 tk n
  have gp := MK.pt_g tk _ g1.1 g1.2; have mp := MK.pt_hits tk _ m1
  have h1 := MK.pt_ok (tk := tk) (Ex.mk_ok (tk := tk) (n := n) h.1 (by omega)) (by omega)
  have g2 := b.mk_g tk ((a.mk tk n).pt tk).n; have m2 := b.mk_hits tk ((a.mk tk n).pt tk).n; have k2 := hits_le 121 tk (b.mk tk ((a.mk tk n).pt tk).n).n
  have h2 := MK.pt_ok (tk := tk) (Ex.mk_ok (tk := tk) (n := ((a.mk tk n).pt tk).n) h.2 (by omega)) (by omega)
  simp only [Ex.mk, Ex.ok, Bool.and_eq_true]
  exact ⟨h1.1.add h2.1, h1.2, h2.2⟩
 | .un o a, n, h, hn => by
  have h : a.ok = true := h
  simp only [Ex.size] at hn
  have g1 := a.mk_g tk n; have m1 := a.mk_hits tk n; have k0 := hits_le 121 tk (a.mk tk n).n; have k00 := hits_le 121 tk n
  have h1 := MK.pt_ok (tk := tk) (Ex.mk_ok (tk := tk) (n := n) h (by omega)) (by omega)
  exact ⟨h1.1, h1.2⟩
theorem hits_sub {c : UInt8} {av av' : List Txt} (h : ∀ j, nm c j ∈ av → nm c j ∈ av') : ∀ n, hits c av n ≤ hits c av' n
 | 0 => Nat.le_refl _
 | n + 1 => by
  rw [hits_succ, hits_succ]
  have := hits_sub h n
  by_cases h1 : nm c n ∈ av
  ·rw [if_pos h1, if_pos (h n h1)]; omega
  ·rw [if_neg h1]; omega
/-- The names that stand as expressions. -/
def Ex.lv : Ex → List Txt
 | .num _ => []
 | .name s => [s]
 | .bin _ a b => a.lv ++ b.lv
 | .ite a b c => a.lv ++ b.lv ++ c.lv
 | .lt _ a b => a.lv ++ b.lv
 | .fn _ _ _ _ b => b.lv
 | .un _ a => a.lv
theorem Ex.lv_size : ∀ e : Ex, 3 * e.lv.length ≤ 2 * e.size + 1
 | .num _ => by simp [Ex.lv]
 | .name _ => by simp [Ex.lv, Ex.size]
 | .bin _ a b => by have := a.lv_size; have := b.lv_size; simp only [Ex.lv, List.length_append, Ex.size]; omega
 | .ite a b c => by have := a.lv_size; have := b.lv_size; have := c.lv_size; simp only [Ex.lv, List.length_append, Ex.size]; omega
 | .lt _ a b => by have := a.lv_size; have := b.lv_size; simp only [Ex.lv, List.length_append, Ex.size]; omega
 | .fn _ _ _ _ b => by have := b.lv_size; simp only [Ex.lv, Ex.size]; omega
 | .un _ a => by have := a.lv_size; simp only [Ex.lv, Ex.size]; omega
/-- No bound name begins with a y. -/
def Ex.bx : Ex → Bool
 | .num _ => true
 | .name _ => true
 | .bin _ a b => a.bx && b.bx
 | .ite a b c => a.bx && b.bx && c.bx
 | .lt x a b => decide (x.head? ≠ some 121) && a.bx && b.bx
 | .fn f x _ _ b => decide (f.head? ≠ some 121) && decide (x.head? ≠ some 121) && b.bx
 | .un _ a => a.bx
theorem Ex.pl_bx (av : List Txt) : ∀ (e : Ex) (f t : List Txt) (n : Nat), (e.pl av f t n).1.bx = true
 | .num s, f, t, n => rfl
 | .name s, f, t, n => rfl
 | .bin o a b, f, t, n => by simp only [Ex.pl, Ex.bx, a.pl_bx, b.pl_bx, Bool.and_self]
 | .ite a b c, f, t, n => by simp only [Ex.pl, Ex.bx, a.pl_bx, b.pl_bx, c.pl_bx, Bool.and_self]
 | .lt x a b, f, t, n => by simp only [Ex.pl, Ex.bx, a.pl_bx, b.pl_bx, nm, List.head?_cons, Bool.and_true]; rfl
 | .fn g x s u b, f, t, n => by simp only [Ex.pl, Ex.bx, b.pl_bx, nm, List.head?_cons, Bool.and_true]; rfl
 | .un o a, f, t, n => by simp only [Ex.pl, Ex.bx, a.pl_bx]
theorem Ty.atom_y : ∀ {t : Ty} {s : Txt}, s ∈ t.tree.atomL → s.head? ≠ some 121
 | .i, s, h => by simp only [Ty.tree, Tree.atomL, List.mem_singleton] at h; subst h; decide
 | .fn a b, s, h => by
  simp only [Ty.tree, Tree.atomL, atomsL, List.mem_append, List.mem_singleton, List.append_nil] at h
  rcases h with h | h | h
  ·subst h; decide
  ·exact Ty.atom_y h
  ·exact Ty.atom_y h
 | .pr a b, s, h => by
  simp only [Ty.tree, Tree.atomL, atomsL, List.mem_append, List.mem_singleton, List.append_nil] at h
  rcases h with h | h | h
  ·subst h; decide
  ·exact Ty.atom_y h
  ·exact Ty.atom_y h
theorem B5.head_y (o : B5) : o.txt.head? ≠ some 121 := by cases o <;> decide
theorem U2.head_y (o : U2) : o.txt.head? ≠ some 121 := by cases o <;> decide
theorem num_head {s : Txt} (h : isNum s = true) : s.head? ≠ some 121 := by
 cases s with
 | nil => simp
 | cons c r =>
  intro e
  simp only [List.head?_cons, Option.some.injEq] at e
  subst e
  have e : unsign (121 :: r) = 121 :: r := by simp [unsign]
  simp only [isNum, e] at h
  simp [digit] at h
theorem Ex.atom_lv : ∀ {e : Ex} {s : Txt}, e.ok = true → e.bx = true → s ∈ e.tree.atomL → s.head? = some 121 → s ∈ e.lv
 | .num a, s, h, _, hs, hy => by
  simp only [Ex.tree, Tree.atomL, List.mem_singleton] at hs; subst hs
  exact absurd hy (num_head h)
 | .name a, s, h, _, hs, hy => by simpa only [Ex.tree, Tree.atomL, Ex.lv] using hs
 | .bin o a b, s, h, hb, hs, hy => by
  simp only [Ex.ok, Ex.bx, Bool.and_eq_true] at h hb
  simp only [Ex.tree, Tree.atomL, atomsL, List.mem_append, List.mem_singleton, List.append_nil] at hs
  simp only [Ex.lv, List.mem_append]
  rcases hs with hs | hs | hs
  ·subst hs; exact absurd hy o.head_y
  ·exact .inl (Ex.atom_lv h.1 hb.1 hs hy)
  ·exact .inr (Ex.atom_lv h.2 hb.2 hs hy)
 | .ite a b c, s, h, hb, hs, hy => by
  simp only [Ex.ok, Ex.bx, Bool.and_eq_true] at h hb
  simp only [Ex.tree, Tree.atomL, atomsL, List.mem_append, List.mem_singleton, List.append_nil] at hs
  simp only [Ex.lv, List.mem_append]
  rcases hs with hs | hs | hs | hs
  ·subst hs; exact absurd hy (by decide)
  ·exact .inl (.inl (Ex.atom_lv h.1.1 hb.1.1 hs hy))
  ·exact .inl (.inr (Ex.atom_lv h.1.2 hb.1.2 hs hy))
  ·exact .inr (Ex.atom_lv h.2 hb.2 hs hy)
 | .lt x a b, s, h, hb, hs, hy => by
  simp only [Ex.ok, Ex.bx, Bool.and_eq_true, decide_eq_true_eq] at h hb
  simp only [Ex.tree, Tree.atomL, atomsL, List.mem_append, List.mem_singleton, List.append_nil] at hs
  simp only [Ex.lv, List.mem_append]
  rcases hs with hs | hs | hs | hs
  ·subst hs; exact absurd hy (by decide)
  ·subst hs; exact absurd hy hb.1.1
  ·exact .inl (Ex.atom_lv h.1.2 hb.1.2 hs hy)
  ·exact .inr (Ex.atom_lv h.2 hb.2 hs hy)
 | .fn f x t u b, s, h, hb, hs, hy => by
  simp only [Ex.ok, Ex.bx, Bool.and_eq_true, decide_eq_true_eq] at h hb
  simp only [Ex.tree, Tree.atomL, atomsL, List.mem_append, List.mem_singleton, List.append_nil] at hs
  simp only [Ex.lv]
  rcases hs with hs | hs | hs | hs | hs | hs
  ·subst hs; exact absurd hy (by decide)
  ·subst hs; exact absurd hy hb.1.1
  ·subst hs; exact absurd hy hb.1.2
  ·exact absurd hy (Ty.atom_y hs)
  ·exact absurd hy (Ty.atom_y hs)
  ·exact Ex.atom_lv h.2 hb.2 hs hy
 | .un o a, s, h, hb, hs, hy => by
  simp only [Ex.tree, Tree.atomL, atomsL, List.mem_append, List.mem_singleton, List.append_nil] at hs
  rcases hs with hs | hs
  ·subst hs; exact absurd hy o.head_y
  ·exact Ex.atom_lv (e := a) h hb hs hy
/-- The atoms of the plain one. -/
def Ex.tk (e : Ex) : List Txt := addAll [] e.plain.tree.atomL
def Ex.made (e : Ex) : MK := e.plain.mk e.tk 0
def Ex.normal (e : Ex) : Ex := e.made.all
theorem plain_size (e : Ex) : e.plain.size = e.size := (e.pl_size e.free [] [] 0).1
theorem tk_len (e : Ex) : e.tk.length ≤ e.size := by
 have h := addAll_len' [] e.plain.tree.atomL
 rw [Tree.atomL_len, Ex.tree_size, plain_size] at h
 simpa [Ex.tk] using h
theorem made_room {e : Ex} (h : e.fine = true) : e.made.g ≤ 119 ∧ e.made.n ≤ 240 ∧ e.tk.length ≤ 120 := by
 have hf := plain_fine h
 simp only [Ex.fine, Bool.and_eq_true, decide_eq_true_eq, Tree.fits] at h
 have h1 := tk_len e
 have h2 := e.plain.mk_g e.tk 0
 have h3 := e.plain.mk_hits e.tk 0
 have h4 := MK.n_le h3
 rw [plain_size] at h2
 unfold Ex.made
 omega
theorem normal_ok {e : Ex} (h : e.fine = true) : e.normal.ok = true := by
 have hf := plain_fine h
 have h0 := made_room h
 simp only [Ex.fine, Bool.and_eq_true, decide_eq_true_eq, Tree.fits] at hf
 have h1 := Ex.mk_ok (tk := e.tk) (n := 0) hf.1.1 (by omega)
 exact letsN_ok h1.1 h1.2
theorem normal_size (e : Ex) : e.normal.size = e.size + 3 * e.made.g := by
 unfold Ex.normal
 rw [MK.all_size]
 unfold Ex.made
 rw [Ex.mk_size, plain_size]
theorem normal_next {e : Ex} (h : e.fine = true) (hn : e.normal.fine = true) : e.made.g ≤ 100 ∧ e.made.n ≤ 100 := by
 have hf := plain_fine h
 have hs := normal_size e
 simp only [Ex.fine, Bool.and_eq_true, decide_eq_true_eq, Tree.fits] at hf hn
 have h3 := e.plain.mk_hits e.tk 0
 have h4 : hits 121 e.tk (e.plain.mk e.tk 0).n ≤ hits 121 e.plain.lv (e.plain.mk e.tk 0).n := hits_sub (fun j hj => by
  have hj : nm 121 j ∈ addAll [] e.plain.tree.atomL := hj
  rw [addAll_mem] at hj
  rcases hj with hj | hj
  ·cases hj
  ·exact Ex.atom_lv hf.1.1 (Ex.pl_bx _ _ _ _ _) hj rfl) _
 have h5 := hits_le 121 e.plain.lv (e.plain.mk e.tk 0).n
 have h6 := e.plain.lv_size
 rw [plain_size] at h6
 have h7 : hits 121 e.tk 0 = 0 := rfl
 unfold Ex.made at *
 omega
theorem normal_len {e : Ex} (h : e.fine = true) : e.normal.tree.len ≤ 12000 := by
 have h1 := Ex.len_size (normal_ok h)
 have h2 := normal_size e
 have h3 := made_room h
 simp only [Ex.fine, Bool.and_eq_true, decide_eq_true_eq] at h
 omega
def nfOf (s : Txt) : Option Txt := (exOf s).bind fun e => if e.normal.fine = true then some e.normal.tree.text else none
theorem nfOf_none {s : Txt} (h : exOf s = none) : nfOf s = none := by unfold nfOf; rw [h]; rfl
theorem nfOf_some {s : Txt} {e : Ex} (h : exOf s = some e) : nfOf s = if e.normal.fine = true then some e.normal.tree.text else none := by unfold nfOf; rw [h]; rfl
/-- A function value that is told of atoms. -/
structure ATeller (P : Program) (kf : FuncId) (cap : List Value) (X : Type) (own : X → Own) (R : X → List Txt → Heap → Prop) : Prop where
 tell : ∀ x seen s I L, R x seen I → s.length ≤ maxN → seen.length < 4294967296 → Fun P kf (.string (str s) :: cap) I (own x ++ L) (fun v I' L' => v = .tuple #[] ∧ ∃ y, R y (seen ++ [s]) I' ∧ L' = own y ++ L)
 mono : ∀ x seen I I', HLe I I' → R x seen I → R x seen I'
/-- How far a walk over the parts has come. -/
structure GX (X : Type) where
 i : Nat
 x : X
 J : Heap
theorem f_form_atoms {kf : FuncId} {cap : List Value} {X : Type} {own : X → Own} {R : X → List Txt → Heap → Prop} {c0 : Code} {m0' : Nat} {rs0 : List ResultVar} [hfi : FnIs Tryz.prog kf c0 m0' rs0] (T : ATeller Tryz.prog kf cap X own R) :
  ∀ (n : Nat) {I : Heap} {t : Tree} {cs : List Value} (_ : SizeOf.sizeOf t < n) (_ : Rep I t cs) (x : X) (seen : List Txt) (_ : seen.length + t.size ≤ 4294967296) (_ : R x seen I) (L : Own),
  Fun Tryz.prog 37 [.agg cs.toArray, .func (.func kf) #[] cap.toArray] I (own x ++ L) (TP own R (seen ++ t.atomL) L) := by
 intro n
 induction n with
 | zero => intro I t cs h; omega
 | succ n ihn =>
  intro I t cs hlt h x seen hsl hx L
  obtain ⟨oa, c, oaf, cf, rfl, hf⟩ := h.at'
  have ha := hf.alen
  have hp := hf.len
  unfold maxN at hp
  refine fun_intro (by simp) ?_
  refine Se rfl ?_
  refine o_box rfl rfl .free rfl ?_
  intro b2
  refine o_done (s_seq (Se rfl ?_))
  refine o_lOS rfl .free rfl ?_
  refine o_call rfl .free rfl (f_form_isAtom hf.rep _) ?_
  rintro _ _ _ _ ⟨rfl, rfl, rfl⟩
  refine o_done ?_
  refine s_cond rfl ?_ ?_
  ·intro c0
   try simp only [nb] at c0
   have hps : t.parts = [] := by simpa using c0
   refine o_enter rfl ?_
   refine Om rfl ?_
   refine o_fieldAddr rfl .free rfl ?_
   refine o_lO1 rfl .free rfl ?_
   refine o_mem (fun w h => h.u1) ?_
   refine o_callv rfl rfl .free rfl (T.tell x seen t.atom _ _ hx ha (by have := t.size_one; omega)) ?_
   rintro _ J _ e1 ⟨rfl, x, hx, rfl⟩
   refine o_mem (fun w h => h.w1) ?_
   obtain ⟨s0, hs0, hx⟩ : ∃ s0, s0 ++ atomsL t.parts = t.atomL ∧ R x (seen ++ s0) J := ⟨[t.atom], by rw [hps, atomL_atom t hps]; rfl, hx⟩
   have hf := hf.mono e1
   have hle := e1
   refine o_done (s_seq ?_)
   have hsz : s0.length + (atomsL t.parts).length = t.size := by rw [← t.atomL_len, ← hs0, List.length_append]
   refine o_enter rfl ?_
   refine o_fieldAddr rfl .free rfl ?_
   refine o_lO1 rfl .free rfl ?_
   refine o_len_slice rfl .free rfl ?_
   refine Om rfl (o_done (s_block ?_))
   refine s_while (X := GX X) (fun y => t.parts.length - y.i) (fun y => [(1, .func (.func kf) #[] cap.toArray), (13, .slice oa t.parts.length c), (14, .int .i64 (t.parts.length : Nat)), (15, .int .i64 (y.i : Nat))]) (fun y => y.J) (fun y => (b2, .cells [.string (str t.atom), .slice oa t.parts.length c].toArray 37 (0, 0)) :: (own y.x ++ L)) (fun y => y.i ≤ t.parts.length ∧ HLe I y.J ∧ R y.x (seen ++ s0 ++ atomsL (t.parts.take y.i)) y.J) ⟨0, x, _⟩ ⟨Nat.zero_le _, hle, by simpa [atomsL] using hx⟩ ⟨rfl, rfl, rfl, rfl, trivial⟩ (by intro _ h; exact h) ?_
   rintro ⟨i, x1, J1⟩ ⟨hi, hle1, hx1⟩ ih
   simp only at hi hle1 hx1 ih ⊢
   have hf1 := h.mono hle1
   refine Se rfl ?_
   refine o_cmp rfl rfl rfl .free rfl ?_
   refine o_done (s_seq ?_)
   refine s_cond rfl ?_ ?_
   ·intro c1
    try simp only [nb] at c1
    have hi1 : i < t.parts.length := by omega
    have hall := atomsL_take t.parts i hi1
    have hle3 : (atomsL (t.parts.take i)).length + (t.pt i).size ≤ (atomsL t.parts).length := by
     rw [Tree.pt_at hi1]
     have h1 := sizeL_append (t.parts.take i) (t.parts.drop i)
     rw [List.take_append_drop, List.drop_eq_getElem_cons hi1] at h1
     simp only [sizeL] at h1
     rw [atomsL_len, atomsL_len]; omega
    obtain ⟨oa2, c2, oaf2, cf2, he2, hf2⟩ := hf1.at'
    simp only [List.cons.injEq, Value.slice.injEq, and_true, true_and] at he2
    obtain ⟨rfl, rfl⟩ := he2
    refine s_skip (s_seq (s_block (Se rfl ?_)))
    first | refine o_ixD rfl rfl _ rfl .free rfl ?_ | refine o_ixP rfl rfl _ rfl .free rfl ?_
    refine o_lIS rfl .free rfl ?_
    refine o_alloc .free rfl ?_
    intro b5
    refine o_st rfl rfl rfl rfl .free ?_
    refine o_done ?_
    refine o_enter rfl ?_
    refine o_lOS rfl .free rfl ?_
    refine Om rfl ?_
    refine o_mem (fun w h => h.u2) ?_
    refine o_call rfl .free rfl (ihn (t := t.pt i) (by have := t.pt_lt i hi1; omega) (hf2.rp i hi1) x1 _ (by simp only [List.length_append]; omega) hx1 _) ?_
    rintro _ J2 _ e2 ⟨rfl, x2, hx2, rfl⟩
    refine o_mem (fun w h => h.w1.drop.w1) ?_
    refine o_done ?_
    refine s_inBlock ?_
    refine o_enter rfl ?_
    refine o_arith rfl rfl rfl (by omega) .free rfl ?_
    refine Om rfl (o_done ?_)
    refine s_env (E' := [(1, .func (.func kf) #[] cap.toArray), (13, .slice oa t.parts.length c), (14, .int .i64 (t.parts.length : Nat)), (15, .int .i64 ((i + 1 : Nat)))]) ⟨rfl, rfl, rfl, rfl, trivial⟩ (ih ⟨i + 1, x2, J2⟩ ⟨by simp only; omega, hle1.trans e2, by simp only; rw [hall, ← List.append_assoc, ← Tree.pt_at hi1]; exact hx2⟩ (by simp only; omega))
   intro c1
   try simp only [nb] at c1
   refine s_exit rfl ?_
   refine s_end .nil ?_
   have hi0 : i = t.parts.length := by omega
   subst hi0
   rw [List.take_length, List.append_assoc, hs0] at hx1
   exact ⟨J1, _, hle1, fun w h => h.drop, rfl, x1, hx1, rfl⟩
  intro c0
  try simp only [nb] at c0
  have hne : t.parts ≠ [] := by simpa using c0
  obtain ⟨s0, hs0, hx⟩ : ∃ s0, s0 ++ atomsL t.parts = t.atomL ∧ R x (seen ++ s0) I := ⟨[], by rw [atomsL_eq t hne]; rfl, by rw [List.append_nil]; exact hx⟩
  have hle : HLe I I := .refl _
  refine s_skip (s_seq ?_)
  have hsz : s0.length + (atomsL t.parts).length = t.size := by rw [← t.atomL_len, ← hs0, List.length_append]
  refine o_enter rfl ?_
  refine o_fieldAddr rfl .free rfl ?_
  refine o_lO1 rfl .free rfl ?_
  refine o_len_slice rfl .free rfl ?_
  refine Om rfl (o_done (s_block ?_))
  refine s_while (X := GX X) (fun y => t.parts.length - y.i) (fun y => [(1, .func (.func kf) #[] cap.toArray), (13, .slice oa t.parts.length c), (14, .int .i64 (t.parts.length : Nat)), (15, .int .i64 (y.i : Nat))]) (fun y => y.J) (fun y => (b2, .cells [.string (str t.atom), .slice oa t.parts.length c].toArray 37 (0, 0)) :: (own y.x ++ L)) (fun y => y.i ≤ t.parts.length ∧ HLe I y.J ∧ R y.x (seen ++ s0 ++ atomsL (t.parts.take y.i)) y.J) ⟨0, x, _⟩ ⟨Nat.zero_le _, hle, by simpa [atomsL] using hx⟩ ⟨rfl, rfl, rfl, rfl, trivial⟩ (by intro _ h; exact h) ?_
  rintro ⟨i, x1, J1⟩ ⟨hi, hle1, hx1⟩ ih
  simp only at hi hle1 hx1 ih ⊢
  have hf1 := h.mono hle1
  refine Se rfl ?_
  refine o_cmp rfl rfl rfl .free rfl ?_
  refine o_done (s_seq ?_)
  refine s_cond rfl ?_ ?_
  ·intro c1
   try simp only [nb] at c1
   have hi1 : i < t.parts.length := by omega
   have hall := atomsL_take t.parts i hi1
   have hle3 : (atomsL (t.parts.take i)).length + (t.pt i).size ≤ (atomsL t.parts).length := by
    rw [Tree.pt_at hi1]
    have h1 := sizeL_append (t.parts.take i) (t.parts.drop i)
    rw [List.take_append_drop, List.drop_eq_getElem_cons hi1] at h1
    simp only [sizeL] at h1
    rw [atomsL_len, atomsL_len]; omega
   obtain ⟨oa2, c2, oaf2, cf2, he2, hf2⟩ := hf1.at'
   simp only [List.cons.injEq, Value.slice.injEq, and_true, true_and] at he2
   obtain ⟨rfl, rfl⟩ := he2
   refine s_skip (s_seq (s_block (Se rfl ?_)))
   first | refine o_ixD rfl rfl _ rfl .free rfl ?_ | refine o_ixP rfl rfl _ rfl .free rfl ?_
   refine o_lIS rfl .free rfl ?_
   refine o_alloc .free rfl ?_
   intro b5
   refine o_st rfl rfl rfl rfl .free ?_
   refine o_done ?_
   refine o_enter rfl ?_
   refine o_lOS rfl .free rfl ?_
   refine Om rfl ?_
   refine o_mem (fun w h => h.u2) ?_
   refine o_call rfl .free rfl (ihn (t := t.pt i) (by have := t.pt_lt i hi1; omega) (hf2.rp i hi1) x1 _ (by simp only [List.length_append]; omega) hx1 _) ?_
   rintro _ J2 _ e2 ⟨rfl, x2, hx2, rfl⟩
   refine o_mem (fun w h => h.w1.drop.w1) ?_
   refine o_done ?_
   refine s_inBlock ?_
   refine o_enter rfl ?_
   refine o_arith rfl rfl rfl (by omega) .free rfl ?_
   refine Om rfl (o_done ?_)
   refine s_env (E' := [(1, .func (.func kf) #[] cap.toArray), (13, .slice oa t.parts.length c), (14, .int .i64 (t.parts.length : Nat)), (15, .int .i64 ((i + 1 : Nat)))]) ⟨rfl, rfl, rfl, rfl, trivial⟩ (ih ⟨i + 1, x2, J2⟩ ⟨by simp only; omega, hle1.trans e2, by simp only; rw [hall, ← List.append_assoc, ← Tree.pt_at hi1]; exact hx2⟩ (by simp only; omega))
  intro c1
  try simp only [nb] at c1
  refine s_exit rfl ?_
  refine s_end .nil ?_
  have hi0 : i = t.parts.length := by omega
  subst hi0
  rw [List.take_length, List.append_assoc, hs0] at hx1
  exact ⟨J1, _, hle1, fun w h => h.drop, rfl, x1, hx1, rfl⟩
/-- The atoms that 'FormAtoms' has met, and the list of them. -/
def FB.met (bm bq bo : Nat) (x : FB) : Own := (bm, .cells [.map (some bq)].toArray 53 (0, 0)) :: (bq, metObj x.l) :: (bo, .cells [bufVal x.l.length x.c x.B].toArray 45 (0, 0)) :: bufOwn 9 (x.l.map sv) x.B
def FB.ats (x : FB) (seen : List Txt) (I : Heap) : Prop := x.l = addAll [] seen ∧ BufOk 1 x.l.length x.c (x.l.map sv) x.B ∧ ∀ s ∈ x.l, s.length ≤ maxN
/-- The program's maker. -/
def nz (b bq g n : Nat) : Nat × Obj := (b, .cells [.map (some bq), .int .i64 (g : Nat), .int .i64 (n : Nat)].toArray 55 (0, 0))
/-- The bindings that it has noted. -/
structure NZ where
 ns : Bds
 B : Buf
 c : Nat
 xs : List Value
structure NZ.ok (I : Heap) (x : NZ) : Prop where
 buf : BufOk 3 x.ns.length x.c x.xs x.B
 rep : BindL I x.ns x.xs
theorem NZ.ok.mono {I I' : Heap} {x : NZ} (hle : HLe I I') (h : x.ok I) : x.ok I' := ⟨h.buf, h.rep.mono hle⟩
def NZ.own (b bq : Nat) (tk : List Txt) (g n bn : Nat) (x : NZ) (L : Own) : Own :=
 nz b bq g n :: (bq, metObj tk) :: (bn, .cells [bufVal x.ns.length x.c x.B].toArray 85 (0, 0)) :: (bufOwn 109 x.xs x.B ++ L)
def NP (b bq : Nat) (tk : List Txt) (g bn : Nat) (x : NZ) (p : MK) (L : Own) : Post := fun v I' L' => ∃ cs y, v = .agg (List.toArray cs) ∧ Rep I' p.e.tree cs ∧ NZ.ok I' y ∧ y.ns = x.ns ++ p.ns ∧ L' = y.own b bq tk (g + p.g) p.n bn L
theorem f_normalizing_name {I : Heap} (ht : Tab I) (tk : List Txt) (b bq g n : Nat) (hn : n + tk.length ≤ 1000 + hits 121 tk n) (h3 : n ≤ 1000) (hg : g ≤ 1000) (L : Own) :
  Fun Tryz.prog 101 [.pointer (some ⟨b, 0, none⟩)] I (nz b bq g n :: (bq, metObj tk) :: L) (fun v I' L' => v = .string (str (nm 121 (fr 121 tk n))) ∧ I = I' ∧ L' = nz b bq (g + 1) (fr 121 tk n + 1) :: (bq, metObj tk) :: L) := by
 obtain ⟨f1, f2, f3⟩ := fr_facts 121 tk n
 have f4 := hits_le 121 tk (fr 121 tk n)
 refine fun_intro (by simp) ?_
 refine Se rfl (Oa rfl (o_done (s_block ?_)))
 refine s_while (X := Nat) (fun m => fr 121 tk n + 1 - m) (fun m => [(0, .pointer (some ⟨b, 0, none⟩))]) (fun _ => I) (fun m => nz b bq g m :: (bq, metObj tk) :: L) (fun m => n ≤ m ∧ m ≤ fr 121 tk n ∧ ∀ j, n ≤ j → j < m → nm 121 j ∈ tk) n ⟨Nat.le_refl _, f2, fun j h1 h2 => absurd h2 (by omega)⟩ ⟨rfl, trivial⟩ (fun _ h => h) ?_
 rintro m ⟨hm1, hm2, hm3⟩ ih
 unfold nz
 have hdl := decT_le (n := m) (by omega)
 refine s_block (Se rfl (Om rfl ?_))
 refine o_nilCheck rfl .free rfl ?_
 first | refine o_fieldAddr rfl .free rfl ?_ | refine o_fieldAddr' rfl .free rfl ?_
 refine o_lJ rfl .free rfl ?_
 refine o_call rfl .free rfl (f_strconv_ItoaT ht (m : Nat) (by omega) (by omega) _) ?_
 rintro _ _ _ _ ⟨rfl, rfl, rfl⟩
 rw [intT_nat]
 refine o_concat rfl rfl (by first | omega | (simp only [List.length_append, List.length_cons, List.length_nil]; omega) | (simp; omega)) .free rfl ?_
 refine Oa rfl (o_done (Se rfl (Om rfl ?_)))
 refine o_nilCheck rfl .free rfl ?_
 first | refine o_fieldAddr rfl .free rfl ?_ | refine o_fieldAddr' rfl .free rfl ?_
 refine o_lJ rfl .free rfl ?_
 refine o_arith rfl rfl rfl (by omega) .free rfl ?_
 refine o_nilCheck rfl .free rfl ?_
 first | refine o_fieldAddr rfl .free rfl ?_ | refine o_fieldAddr' rfl .free rfl ?_
 refine o_st rfl rfl rfl rfl .free ?_
 refine o_done (Se rfl (Om rfl ?_))
 refine o_nilCheck rfl .free rfl ?_
 first | refine o_fieldAddr rfl .free rfl ?_ | refine o_fieldAddr' rfl .free rfl ?_
 refine o_load rfl (loads_own1 (cs := [.map (some bq), .int .i64 (g : Nat), .int .i64 ((m : Int) + 1)]) m0 (by rfl) rfl) .free rfl ?_
 refine Om rfl ?_
 refine o_lookup (s := nm 121 m) (m := tk) rfl rfl ⟨_, rfl, rfl⟩ (fun w h => (h.2.1 _ m1).1) .free rfl ?_
 refine o_not rfl .free rfl ?_
 refine o_done ?_
 refine s_cond rfl ?_ ?_
 ·intro c0
  try simp only [nb] at c0
  refine Se rfl (Om rfl ?_)
  refine o_nilCheck rfl .free rfl ?_
  first | refine o_fieldAddr rfl .free rfl ?_ | refine o_fieldAddr' rfl .free rfl ?_
  refine o_lJ rfl .free rfl ?_
  refine o_arith rfl rfl rfl (by omega) .free rfl ?_
  refine o_nilCheck rfl .free rfl ?_
  first | refine o_fieldAddr rfl .free rfl ?_ | refine o_fieldAddr' rfl .free rfl ?_
  refine o_st rfl rfl rfl rfl .free ?_
  refine o_done (Se rfl (Om rfl (Oa rfl (o_done ?_))))
  refine s_ret (.tmp rfl .nil) ?_
  have hfm : fr 121 tk n = m := fr_stop hm3 hm1 c0
  exact ⟨I, _, .refl _, fun _ h => h, by rw [hfm]; rfl, rfl, by rw [hfm]; rfl⟩
 intro c0
 try simp only [nb] at c0
 refine s_skip ?_
 refine s_inBlock ?_
 have hne : m ≠ fr 121 tk n := fun e => f1 (e ▸ c0)
 refine s_env (E' := [(0, .pointer (some ⟨b, 0, none⟩))]) ⟨rfl, trivial⟩ (ih (m + 1) ⟨by omega, by omega, fun j h1 h2 => ?_⟩ (by omega))
 by_cases hj : j = m
 ·subst hj; exact c0
 ·exact hm3 j h1 (by omega)
def NMakeH (N : Nat) : Prop := ∀ {I : Heap} (_ : Tab I) {e : Ex} {cs : List Value} (_ : SizeOf.sizeOf e < N) (_ : Rep I e.tree cs) (_ : e.ok = true) (tk : List Txt) (b bq bn g n : Nat) (_ : n + e.size + tk.length ≤ 900 + hits 121 tk n) (_ : g + e.size ≤ 1000) (x : NZ) (_ : x.ok I) (_ : x.ns.length + e.size ≤ 100000) (L : Own),
 Fun Tryz.prog 59 [.pointer (some ⟨b, 0, none⟩), .agg cs.toArray, .pointer (some ⟨bn, 0, none⟩)] I (x.own b bq tk g n bn L) (NP b bq tk g bn x (e.mk tk n) L)
theorem nbare_of {N : Nat} (ih : NMakeH N) {I : Heap} (ht : Tab I) {e : Ex} {cs : List Value} (hlt : SizeOf.sizeOf e < N) (h : Rep I e.tree cs) (hok : e.ok = true) (tk : List Txt) (b bq bn g n : Nat) (hn : n + e.size + tk.length ≤ 900 + hits 121 tk n) (hg : g + e.size ≤ 1000) (x : NZ) (hx : x.ok I) (hxl : x.ns.length + e.size ≤ 100000) (L : Own) :
  Fun Tryz.prog 85 [.pointer (some ⟨b, 0, none⟩), .agg cs.toArray, .pointer (some ⟨bn, 0, none⟩)] I (x.own b bq tk g n bn L) (NP b bq tk g bn x ((e.mk tk n).pt tk) L) := by
 obtain ⟨oa, c, oaf, cf, rfl, hf⟩ := h.at'
 have hmo := Ex.mk_ok (tk := tk) (n := n) hok hn
 have hmh := e.mk_hits tk n
 have hmg := e.mk_g tk n
 have hml := e.mk_len tk n
 have hh0 := hits_le 121 tk n
 have hh1 := hits_le 121 tk (e.mk tk n).n
 generalize hp : e.mk tk n = p at *
 unfold NZ.own
 refine fun_intro (by simp) ?_
 refine Se rfl ?_
 refine o_box rfl rfl .free rfl ?_
 intro b4
 refine o_alloc .free rfl ?_
 intro b6
 refine o_done (Se rfl (Om rfl ?_))
 refine o_lOS rfl .free rfl ?_
 refine Om rfl ?_
 refine o_mem (fun w h => Mem.kv2 h) ?_
 refine o_call rfl .free rfl (ih ht hlt hf.rep hok tk b bq bn g n hn hg x hx hxl _) ?_
 rw [hp]; rintro _ J1 _ e1 ⟨cs1, y, rfl, hr, hy, hyn, rfl⟩
 obtain ⟨o1, k1, _, rfl, -⟩ := hr.open
 have hyl : y.ns.length = x.ns.length + p.ns.length := by rw [hyn]; simp
 obtain ⟨a1, k2, hu1⟩ := bufIs hy.buf
 unfold NZ.own
 refine o_mem (fun w h => Mem.vk2 h) ?_
 rw [hu1]
 refine o_alloc .free rfl ?_
 intro b7
 refine o_st rfl rfl rfl rfl .free ?_
 refine o_done (s_seq (Se rfl ?_))
 refine o_lOS rfl .free rfl ?_
 refine o_call rfl .free rfl (f_form_isAtom hr _) ?_
 rintro _ _ _ _ ⟨rfl, rfl, rfl⟩
 refine o_done ?_
 refine s_cond rfl ?_ ?_
 ·intro c0
  try simp only [nb] at c0
  have hb : p.e.bare = true := by rw [Ex.bare_parts]; simpa using c0
  refine Se rfl ?_
  refine o_lOS rfl .free rfl ?_
  refine o_st rfl rfl rfl rfl .free ?_
  refine o_done ?_
  refine s_ret (.c rfl .nil) ?_
  refine ⟨J1, _, e1, fun w h => Mem.sub (L' := nz _ _ _ _ :: _ :: _ :: (bufOwn 109 y.xs y.B ++ L)) (by repeat (first | exact List.Sublist.refl _ | apply List.Sublist.cons_cons | apply List.Sublist.cons)) h, _, y, rfl, by unfold MK.pt; rw [if_pos hb]; exact hr, hy, by unfold MK.pt; rw [if_pos hb]; exact hyn, ?_⟩
  unfold MK.pt NZ.own; rw [if_pos hb, hu1]
 intro c0
 try simp only [nb] at c0
 have hb : p.e.bare = false := by rw [Ex.bare_parts]; simpa using c0
 have ht := ht.mono e1
 refine s_skip (Se rfl (Om rfl ?_))
 refine o_mem (fun w h => Mem.nq3 h) ?_
 refine o_call rfl .free rfl (f_normalizing_name ht tk b bq (g + p.g) p.n (by omega) (by omega) (by omega) _) ?_
 rintro _ _ _ _ ⟨rfl, rfl, rfl⟩
 have hfr := fr_facts 121 tk p.n
 have hfr2 := hits_le 121 tk (fr 121 tk p.n)
 have hnl : (nm 121 (fr 121 tk p.n)).length ≤ maxN := Ex.name_len (nm_name (by decide) (by omega))
 generalize hn1e : nm 121 (fr 121 tk p.n) = n1 at hnl ⊢
 have hpt : p.pt tk = ⟨.name n1, p.ns ++ [(n1, p.e)], fr 121 tk p.n + 1, p.g + 1⟩ := by unfold MK.pt; rw [if_neg (by rw [hb]; simp), hn1e]
 rw [hpt]
 refine Oa rfl (o_done (s_seq ?_))
 refine d_o6 11 rfl rfl ?_
 refine Da 0 rfl (y_move rfl) ?_
 refine Da 1 rfl (y_move rfl) ?_
 refine Da 2 rfl (y_nilCheck rfl) ?_
 refine Dt 3 [10] rfl (y_lJ rfl) ?_
 refine Da 4 rfl (y_move rfl) ?_
 refine Dt 5 [10] rfl (y_lOS rfl) ?_
 refine Da 6 rfl (y_struct rfl rfl rfl) ?_
 refine d_lits 7 rfl (by kernel_rfl) rfl rfl rfl (by rfl) (by rfl) (by rfl) (by decide) (by decide) (by rfl) .free rfl (.inr heldx) ?_
 intro b25
 refine d_appendB 8 (B := y.B) (xs := y.xs) (ys := [.string (str n1), .string (str p.e.tree.atom), .slice o1 p.e.tree.parts.length k1]) (m := y.ns.length) (c := y.c) rfl (by kernel_rfl) rfl (by intro kk; simp) (by rfl) (by rw [hu1]; rfl) rfl hy.buf (fun _ h => h.uu7) (by rfl) (fun a ha => by cases ha; exact reads_ownL (.head _) (by rfl)) (by simp) (by rfl) (by decide) (by omega) (by decide) .free rfl (fun _ => .inr heldx) ?_
 intro B2 c3 hB2
 obtain ⟨bq2, sq, rfl⟩ : ∃ bq sq, B2 = some (bq, sq) := by
  cases B2 with
  | none => exact absurd hB2.1 (by simp)
  | some z => exact ⟨z.1, z.2, rfl⟩
 simp only [bufOwn, List.cons_append, List.nil_append]
 refine Da 9 rfl (y_nilCheck rfl) ?_
 refine d_st 10 rfl (by kernel_rfl) rfl rfl rfl rfl rfl .free (.inl (by kernel_rfl)) ?_ (hu := upd7)
 refine d_done (by kernel_rfl) ?_
 refine Se rfl (Om rfl ?_)
 refine o_call rfl .free rfl (f_atom n1 hnl _ _) ?_
 rintro _ _ _ _ ⟨rfl, rfl, rfl⟩
 refine o_st rfl rfl rfl rfl .free ?_
 refine o_done ?_
 refine s_ret (.c rfl .nil) ?_
 refine ⟨J1, _, e1, fun w h => Mem.w3 (Mem.sub (L' := (bq2, _) :: nz _ _ _ _ :: _ :: (bn, _) :: L) (by repeat (first | exact List.Sublist.refl _ | apply List.Sublist.cons_cons | apply List.Sublist.cons)) h), _, ⟨y.ns ++ [(n1, p.e)], some (bq2, sq), c3, y.xs ++ [.string (str n1), .string (str p.e.tree.atom), .slice o1 p.e.tree.parts.length k1]⟩, rfl, .ofAtom hnl, ⟨by simpa using hB2, hy.rep.append (.cons hnl hr .nil)⟩, ?_, ?_⟩
 ·simp only [hyn, List.append_assoc]
 ·simp only [NZ.own, nz, bufOwn, bufVal, List.append_assoc, List.length_append, List.length_cons, List.length_nil, List.cons_append, List.nil_append, Nat.add_assoc]
section
variable {I : Heap} {a b c d q s x u v : Nat × Obj} {X L R : Own} {w : World}
theorem Mem.let5 (h : Mem I (q :: s :: x :: u :: v :: a :: b :: c :: L) w) : Mem I (a :: b :: c :: q :: s :: x :: u :: v :: L) w := h.perm (List.perm_append_comm_assoc [q, s, x, u, v] [a, b, c] L)
theorem Mem.uu4 (h : Mem I (a :: b :: c :: d :: (X ++ L)) w) : Mem I (X ++ a :: b :: c :: d :: L) w := h.perm (List.perm_append_comm_assoc [a, b, c, d] X L)
end
/-- What makes a whole expression normal leaves. -/
def NW (b bq : Nat) (tk : List Txt) (g : Nat) (p : MK) (L : Own) : Post := fun v I' L' => ∃ cs, v = .agg (List.toArray cs) ∧ Rep I' p.all.tree cs ∧ L' = nz b bq (g + p.g) p.n :: (bq, metObj tk) :: L
theorem nnormal_of {N : Nat} (ih : NMakeH N) {I : Heap} (ht : Tab I) {e : Ex} {cs : List Value} (hlt : SizeOf.sizeOf e < N) (h : Rep I e.tree cs) (hok : e.ok = true) (tk : List Txt) (b bq g n : Nat) (hn : n + e.size + tk.length ≤ 900 + hits 121 tk n) (hg : g + e.size ≤ 1000) (hz : e.size ≤ 1000) (L : Own) :
  Fun Tryz.prog 39 [.pointer (some ⟨b, 0, none⟩), .agg cs.toArray] I (nz b bq g n :: (bq, metObj tk) :: L) (NW b bq tk g (e.mk tk n) L) := by
 obtain ⟨oa, c, oaf, cf, rfl, hf⟩ := h.at'
 have hml := e.mk_len tk n
 refine fun_intro (by simp) ?_
 refine Se rfl ?_
 refine o_box rfl rfl .free rfl ?_
 intro b3
 refine o_alloc .free rfl ?_
 intro b4
 refine o_done (Se rfl ?_)
 refine o_alloc .free rfl ?_
 intro b5
 refine o_done (Se rfl (Om rfl ?_))
 refine o_lOS rfl .free rfl ?_
 refine o_mem (fun w h => Mem.nq3 h) ?_
 refine o_call rfl .free rfl (ih ht hlt hf.rep hok tk b bq b5 g n hn hg ⟨[], none, 0, []⟩ ⟨⟨rfl, rfl, rfl⟩, .nil⟩ (by simp only [List.length_nil]; omega) (_ :: _ :: L)) ?_
 rintro _ J1 _ e1 ⟨cs1, y, rfl, hr, hy, hyn, rfl⟩
 obtain ⟨o1, k1, _, rfl, -⟩ := hr.open
 rw [List.nil_append] at hyn
 unfold NZ.own
 refine o_alloc .free rfl ?_
 intro b6
 refine o_st rfl rfl rfl rfl .free ?_
 refine o_done (s_seq ?_)
 refine s_mem (fun w h => Mem.uu4 h) (s_freezeBinds hy.rep hy.buf rfl (by rw [hyn]; unfold maxN; omega) ?_)
 intro J2 ob cb e2 hbv hbs
 rw [hbv]
 refine o_enter rfl ?_
 refine o_lO1 rfl .free rfl ?_
 refine o_lOS rfl .free rfl ?_
 refine o_call rfl .free rfl (f_bindAll hbs (hr.mono e2) _) ?_
 rintro _ J3 _ e3 ⟨cs3, rfl, hr3, rfl⟩
 obtain ⟨o3, k3, _, rfl, -⟩ := hr3.open
 refine o_st rfl rfl rfl rfl .free ?_
 refine o_done ?_
 refine s_ret (.c rfl .nil) ?_
 refine ⟨J3, _, (e1.trans e2).trans e3, fun w h => Mem.sub (L' := nz _ _ _ _ :: _ :: L) (by repeat (first | exact List.Sublist.refl _ | apply List.Sublist.cons_cons | apply List.Sublist.cons)) h, _, rfl, ?_, rfl⟩
 show Rep J3 (lets (e.mk tk n).ns (e.mk tk n).e).tree _
 rw [← hyn]; exact hr3
set_option maxHeartbeats 1000000 in
theorem nmake_bin {N : Nat} (ihn : NMakeH N) {o : B5} {a b : Ex} {I : Heap} (ht : Tab I) {cs : List Value} (hlt : SizeOf.sizeOf (Ex.bin o a b) < N + 1) (h : Rep I (Ex.bin o a b).tree cs) (hok : (Ex.bin o a b).ok = true) (tk : List Txt) (b0 bq bn g n : Nat) (hn : n + (Ex.bin o a b).size + tk.length ≤ 900 + hits 121 tk n) (hg : g + (Ex.bin o a b).size ≤ 1000) (x : NZ) (hx : x.ok I) (hxl : x.ns.length + (Ex.bin o a b).size ≤ 100000) (L : Own) :
  Fun Tryz.prog 59 [.pointer (some ⟨b0, 0, none⟩), .agg cs.toArray, .pointer (some ⟨bn, 0, none⟩)] I (x.own b0 bq tk g n bn L) (NP b0 bq tk g bn x ((Ex.bin o a b).mk tk n) L) := by
 obtain ⟨oa, c, oaf, cf1, rfl, hf, hcl, hcs⟩ := h.cells
 have hle : HLe I I := .refl _
 have hh0 := hits_le 121 tk n
 have hpos : 0 < (Ex.bin o a b).tree.parts.length := by show 0 < 3; decide
 obtain ⟨xa, rfl⟩ : ∃ xa, oa = some xa := ⟨_, some_oad hf.nil hpos⟩
 have hlen : (Ex.bin o a b).tree.parts.length = 3 := rfl
 have hp := hf.len
 have hpe : (Ex.bin o a b).tree.parts.isEmpty = false := rfl
 have hpe2 : ¬ (Ex.bin o a b).tree.parts = [] := fun e => by rw [e] at hlen; cases hlen
 have hki := kids_bin o a b
 have hhd : (Ex.bin o a b).tree.head = o.txt := rfl
 have hxl2 : ¬ (Ex.bin o a b).tree.head = [108, 101, 116] := o.txt_ne.2.1
 have hxl2d : ¬ o.txt = [108, 101, 116] := o.txt_ne.2.1
 have hxf : ¬ (Ex.bin o a b).tree.head = [102, 117, 110] := o.txt_ne.2.2.1
 have hxfd : ¬ o.txt = [102, 117, 110] := o.txt_ne.2.2.1
 have hxi : ¬ (Ex.bin o a b).tree.head = [105, 102] := o.txt_ne.1
 have hxid : ¬ o.txt = [105, 102] := o.txt_ne.1
 simp only [Ex.bin.sizeOf_spec] at hlt
 simp only [Ex.ok, Bool.and_eq_true, decide_eq_true_eq] at hok
 simp only [Ex.size] at hn hg hxl
 simp only [Ex.mk]
 unfold NZ.own
 refine fun_intro (by simp) ?_
 refine Se rfl ?_
 refine o_box rfl rfl .free rfl ?_
 intro b4
 refine o_alloc .free rfl ?_
 intro b6
 refine o_done (s_seq (Se rfl ?_))
 refine o_lOS rfl .free rfl ?_
 refine o_call rfl .free rfl (f_form_isAtom hf.rep _) ?_
 rintro _ _ _ _ ⟨rfl, rfl, rfl⟩
 refine o_done ?_
 first | refine s_fp rfl (hpe) ?_ | refine s_fn rfl (hpe) ?_ | refine s_false (by simp [look, opd, *]) ?_
 refine s_skip (s_seq (Se rfl ?_))
 refine o_lOS rfl .free rfl ?_
 refine o_call rfl .free rfl (f_form_head hf.rep _) ?_
 rintro _ _ _ _ ⟨rfl, rfl, rfl⟩
 refine o_cmps rfl rfl rfl .free rfl ?_
 refine o_done ?_
 first | refine s_fp rfl hxl2 ?_ | refine s_fn rfl hxl2 ?_ | refine s_false (by simp [look, opd, *]) ?_
 refine s_skip (Se rfl ?_)
 refine o_fieldAddr rfl .free rfl ?_
 refine o_lO1 rfl .free rfl ?_
 refine o_call rfl .free rfl (f_slices_Clone (hcs _ rfl) (by have := hcl.length; omega) hcl.plain hpos hp _) ?_
 rintro _ _ _ _ ⟨bc, sp, cc, rfl, hcc, rfl, rfl⟩
 simp only [show (Ex.bin o a b).tree.parts = [.node o.txt [], a.tree, b.tree] from rfl, cellsF, List.cons_append, List.nil_append]
 refine o_struct rfl rfl rfl .free rfl ?_
 refine o_alloc .free rfl ?_
 intro b8
 refine o_st rfl rfl rfl rfl .free ?_
 refine o_done (s_seq (Se rfl ?_))
 refine o_lOS rfl .free rfl ?_
 refine o_call rfl .free rfl (f_form_kids hf.rep _) ?_
 rintro _ J _ e0 ⟨ok, ck, rfl, hk1, rfl⟩
 have hf := hf.mono e0
 have ht := ht.mono e0
 have hx := hx.mono e0
 have hle := hle.trans e0
 rw [hki] at hk1
 rw [hki]
 refine o_len_slice rfl .free rfl ?_
 refine Om rfl (o_done (s_block ?_))
 refine s_loop ?_
 refine Se rfl ?_
 refine o_cmp rfl rfl rfl .free rfl ?_
 refine o_done (s_seq ?_)
 refine s_condT rfl (by first | rfl | decide | (simp; done) | omega) ?_
 refine s_skip (s_seq (s_block (Se rfl ?_)))
 first | refine o_ixD rfl rfl _ rfl .free rfl ?_ | refine o_ixP rfl rfl _ rfl .free rfl ?_
 refine o_lI1 rfl .free rfl ?_
 refine Oa rfl (o_done (Se rfl ?_))
 refine o_lOS rfl .free rfl ?_
 refine o_call rfl .free rfl (f_form_head hf.rep _) ?_
 rintro _ _ _ _ ⟨rfl, rfl, rfl⟩
 refine o_cmps rfl rfl rfl .free rfl ?_
 refine Om rfl ?_
 apply o_or 59 67 rfl
 ·intro g11_4 hk
  try simp only [nb] at g11_4
  refine o_lOS rfl (.met rfl rfl) rfl ?_
  refine o_call rfl (.met rfl rfl) rfl (f_form_head hf.rep _) ?_
  rintro _ _ _ _ ⟨rfl, rfl, rfl⟩
  refine o_cmps rfl rfl rfl (.met rfl rfl) rfl ?_
  refine o_move rfl (.met rfl rfl) rfl ?_
  apply o_and 63 66 rfl
  ·intro g11_8 hk
   try simp only [nb] at g11_8
   refine o_move rfl (.met rfl rfl) rfl ?_
   refine o_cmp rfl rfl rfl (.met rfl rfl) rfl ?_
   refine o_pick_true rfl rfl (.met rfl rfl) rfl ?_
   exact o_fin 2 rfl rfl hk
  ·intro _ hk
   refine o_skips 2 rfl ?_
   refine o_pick_false rfl rfl (.met rfl rfl) rfl ?_
   exact o_fin 2 rfl rfl hk
  refine o_pick_false rfl rfl .free rfl ?_
  exact o_fin 5 rfl rfl hk
 ·intro _ hk
  refine o_skips 7 rfl ?_
  refine o_pick_true rfl rfl .free rfl ?_
  exact o_fin 7 rfl rfl hk
 refine o_done ?_
 first | refine s_fp rfl (by simp [hxf, hxi, hxfd, hxid]) ?_ | refine s_fn rfl (by simp [hxf, hxi, hxfd, hxid]) ?_ | refine s_false (by simp [look, opd, *]) ?_
 refine s_here fun hlr => ?_
 have g1 := a.mk_g tk n
 have mh1 := a.mk_hits tk n
 have gp1 := MK.pt_g tk _ g1.1 g1.2
 have mp1 := MK.pt_hits tk _ mh1
 have lp1 := MK.pt_len tk _ (a.mk_len tk n)
 have hz1 := hits_le 121 tk n
 refine d_q4 13 rfl rfl ?_
 refine Da 0 rfl (y_fieldAddr rfl) ?_
 refine Dt 1 [12] rfl (y_lO1 rfl) ?_
 refine Da 2 rfl (y_move rfl) ?_
 refine Da 3 rfl (y_move rfl) ?_
 refine Da 4 rfl (y_fieldAddr rfl) ?_
 refine Dt 5 [12] rfl (y_lO1 rfl) ?_
 refine Da 6 rfl (y_move rfl) ?_
 first | refine Da 7 rfl (y_ixD rfl rfl _ rfl) ?_ | refine Da 7 rfl (y_ixP rfl rfl _ rfl) ?_
 refine Dt 8 [12] rfl (y_lIS rfl) ?_
 refine Da 9 rfl (y_move rfl) ?_
 refine d_mem (fun w h => Mem.kv4 h) ?_
 refine d_call 10 rfl (by kernel_rfl) rfl rfl .free rfl (nbare_of ihn ht (by omega) (hf.as 1 a.tree (by omega) rfl) hok.1 tk b0 bq bn (g) n (by omega) (by omega) x hx (by omega) _) ?_
 rintro _ J1 _ e1 ⟨cs1, y1, rfl, hr_1, hy1, hy1n, rfl⟩
 obtain ⟨o1, k1, _, rfl, -⟩ := hr_1.open
 have hy1l : y1.ns.length = x.ns.length + ((a.mk tk n).pt tk).ns.length := by rw [hy1n]; simp
 have hlr := hlr.trans e1
 have hf := hf.mono e1
 have ht := ht.mono e1
 have hle := hle.trans e1
 have hk1 := hk1.mono e1
 unfold NZ.own
 refine ⟨(.inr heldx), ?_⟩
 refine d_mem (fun w h => Mem.vk4 h) ?_
 first | refine Da 11 rfl (y_ixD rfl rfl _ rfl) ?_ | refine Da 11 rfl (y_ixP rfl rfl _ rfl) ?_
 refine d_st 12 rfl (by kernel_rfl) rfl rfl rfl rfl rfl .free (.inl (by kernel_rfl)) ?_
 refine d_done (by kernel_rfl) ?_
 refine s_inBlock ?_
 refine o_enter rfl ?_
 refine o_arith rfl rfl rfl (by omega) .free rfl ?_
 refine Om rfl (o_done ?_)
 refine s_round ?_
 refine Se rfl ?_
 refine o_cmp rfl rfl rfl .free rfl ?_
 refine o_done (s_seq ?_)
 refine s_condT rfl (by first | rfl | decide | (simp; done) | omega) ?_
 refine s_skip (s_seq (s_block (Se rfl ?_)))
 first | refine o_ixD rfl rfl _ rfl .free rfl ?_ | refine o_ixP rfl rfl _ rfl .free rfl ?_
 refine o_lI1 rfl .free rfl ?_
 refine Oa rfl (o_done (Se rfl ?_))
 refine o_lOS rfl .free rfl ?_
 refine o_call rfl .free rfl (f_form_head hf.rep _) ?_
 rintro _ _ _ _ ⟨rfl, rfl, rfl⟩
 refine o_cmps rfl rfl rfl .free rfl ?_
 refine Om rfl ?_
 apply o_or 59 67 rfl
 ·intro g11_4 hk
  try simp only [nb] at g11_4
  refine o_lOS rfl (.met rfl rfl) rfl ?_
  refine o_call rfl (.met rfl rfl) rfl (f_form_head hf.rep _) ?_
  rintro _ _ _ _ ⟨rfl, rfl, rfl⟩
  refine o_cmps rfl rfl rfl (.met rfl rfl) rfl ?_
  refine o_move rfl (.met rfl rfl) rfl ?_
  apply o_and 63 66 rfl
  ·intro g11_8 hk
   try simp only [nb] at g11_8
   refine o_move rfl (.met rfl rfl) rfl ?_
   refine o_cmp rfl rfl rfl (.met rfl rfl) rfl ?_
   refine o_pick_true rfl rfl (.met rfl rfl) rfl ?_
   exact o_fin 2 rfl rfl hk
  ·intro _ hk
   refine o_skips 2 rfl ?_
   refine o_pick_false rfl rfl (.met rfl rfl) rfl ?_
   exact o_fin 2 rfl rfl hk
  refine o_pick_false rfl rfl .free rfl ?_
  exact o_fin 5 rfl rfl hk
 ·intro _ hk
  refine o_skips 7 rfl ?_
  refine o_pick_true rfl rfl .free rfl ?_
  exact o_fin 7 rfl rfl hk
 refine o_done ?_
 first | refine s_fp rfl (by simp [hxf, hxi, hxfd, hxid]) ?_ | refine s_fn rfl (by simp [hxf, hxi, hxfd, hxid]) ?_ | refine s_false (by simp [look, opd, *]) ?_
 refine s_here fun hlr => ?_
 have g2 := b.mk_g tk ((a.mk tk n).pt tk).n
 have mh2 := b.mk_hits tk ((a.mk tk n).pt tk).n
 have gp2 := MK.pt_g tk _ g2.1 g2.2
 have mp2 := MK.pt_hits tk _ mh2
 have lp2 := MK.pt_len tk _ (b.mk_len tk ((a.mk tk n).pt tk).n)
 have hz2 := hits_le 121 tk ((a.mk tk n).pt tk).n
 refine d_q4 13 rfl rfl ?_
 refine Da 0 rfl (y_fieldAddr rfl) ?_
 refine Dt 1 [12] rfl (y_lO1 rfl) ?_
 refine Da 2 rfl (y_move rfl) ?_
 refine Da 3 rfl (y_move rfl) ?_
 refine Da 4 rfl (y_fieldAddr rfl) ?_
 refine Dt 5 [12] rfl (y_lO1 rfl) ?_
 refine Da 6 rfl (y_move rfl) ?_
 first | refine Da 7 rfl (y_ixD rfl rfl _ rfl) ?_ | refine Da 7 rfl (y_ixP rfl rfl _ rfl) ?_
 refine Dt 8 [12] rfl (y_lIS rfl) ?_
 refine Da 9 rfl (y_move rfl) ?_
 refine d_mem (fun w h => Mem.kv4 h) ?_
 refine d_call 10 rfl (by kernel_rfl) rfl rfl .free rfl (nbare_of ihn ht (by omega) (hf.as 2 b.tree (by omega) rfl) hok.2 tk b0 bq bn (g + ((a.mk tk n).pt tk).g) ((a.mk tk n).pt tk).n (by omega) (by omega) y1 hy1 (by omega) _) ?_
 rintro _ J2 _ e2 ⟨cs2, y2, rfl, hr_2, hy2, hy2n, rfl⟩
 obtain ⟨o2, k2, _, rfl, -⟩ := hr_2.open
 have hy2l : y2.ns.length = y1.ns.length + ((b.mk tk ((a.mk tk n).pt tk).n).pt tk).ns.length := by rw [hy2n]; simp
 have hlr := hlr.trans e2
 have hf := hf.mono e2
 have ht := ht.mono e2
 have hle := hle.trans e2
 have hk1 := hk1.mono e2
 have hr_1 := hr_1.mono e2
 unfold NZ.own
 refine ⟨(.inr heldx), ?_⟩
 refine d_mem (fun w h => Mem.vk4 h) ?_
 first | refine Da 11 rfl (y_ixD rfl rfl _ rfl) ?_ | refine Da 11 rfl (y_ixP rfl rfl _ rfl) ?_
 refine d_st 12 rfl (by kernel_rfl) rfl rfl rfl rfl rfl .free (.inl (by kernel_rfl)) ?_
 refine d_done (by kernel_rfl) ?_
 refine s_inBlock ?_
 refine o_enter rfl ?_
 refine o_arith rfl rfl rfl (by omega) .free rfl ?_
 refine Om rfl (o_done ?_)
 refine s_round ?_
 refine Se rfl ?_
 refine o_cmp rfl rfl rfl .free rfl ?_
 refine o_done (s_seq ?_)
 refine s_condF rfl (by first | rfl | decide | (simp; done) | omega) ?_
 refine s_exit rfl ?_
 refine Se rfl ?_
 refine o_lOS rfl .free rfl ?_
 refine o_st rfl rfl rfl rfl .free ?_
 refine o_done ?_
 refine s_mem (fun w h => h.f1) (s_freeze ?_)
 intro hz
 have hf := hf.mono hz
 refine s_ret (.c rfl .nil) ?_
 refine ⟨_, _, hle.trans hz, fun w h => h.drop.drop.drop, _, y2, rfl, .mk' rfl (.cons (hf.as 0 (.node o.txt []) (by omega) rfl) (.cons (hr_1.mono hz) (.cons (hr_2.mono hz) (.nil)))) (fun y hy => by cases hy; exact still_set (xs := [_, _, _, _, _, _])) (by simp) hcc (by simp [maxN]) (by simp [maxN]), hy2.mono hz, by simp only [hy2n, hy1n, List.append_assoc], ?_⟩
 simp only [NZ.own, Nat.add_assoc]
set_option maxHeartbeats 1000000 in
theorem nmake_ite {N : Nat} (ihn : NMakeH N) {a b d : Ex} {I : Heap} (ht : Tab I) {cs : List Value} (hlt : SizeOf.sizeOf (Ex.ite a b d) < N + 1) (h : Rep I (Ex.ite a b d).tree cs) (hok : (Ex.ite a b d).ok = true) (tk : List Txt) (b0 bq bn g n : Nat) (hn : n + (Ex.ite a b d).size + tk.length ≤ 900 + hits 121 tk n) (hg : g + (Ex.ite a b d).size ≤ 1000) (x : NZ) (hx : x.ok I) (hxl : x.ns.length + (Ex.ite a b d).size ≤ 100000) (L : Own) :
  Fun Tryz.prog 59 [.pointer (some ⟨b0, 0, none⟩), .agg cs.toArray, .pointer (some ⟨bn, 0, none⟩)] I (x.own b0 bq tk g n bn L) (NP b0 bq tk g bn x ((Ex.ite a b d).mk tk n) L) := by
 obtain ⟨oa, c, oaf, cf1, rfl, hf, hcl, hcs⟩ := h.cells
 have hle : HLe I I := .refl _
 have hh0 := hits_le 121 tk n
 have hpos : 0 < (Ex.ite a b d).tree.parts.length := by show 0 < 4; decide
 obtain ⟨xa, rfl⟩ : ∃ xa, oa = some xa := ⟨_, some_oad hf.nil hpos⟩
 have hlen : (Ex.ite a b d).tree.parts.length = 4 := rfl
 have hp := hf.len
 have hpe : (Ex.ite a b d).tree.parts.isEmpty = false := rfl
 have hpe2 : ¬ (Ex.ite a b d).tree.parts = [] := fun e => by rw [e] at hlen; cases hlen
 have hki := kids_ite a b d
 have hhd : (Ex.ite a b d).tree.head = tIf := rfl
 have hxl2 : ¬ (Ex.ite a b d).tree.head = [108, 101, 116] := (by decide : ¬ tIf = tLet)
 have hxl2d : ¬ tIf = [108, 101, 116] := (by decide : ¬ tIf = tLet)
 have hxf : ¬ (Ex.ite a b d).tree.head = [102, 117, 110] := (by decide : ¬ tIf = tFun)
 have hxfd : ¬ tIf = [102, 117, 110] := (by decide : ¬ tIf = tFun)
 have hxi :  (Ex.ite a b d).tree.head = [105, 102] := rfl
 have hxid :  tIf = [105, 102] := rfl
 simp only [Ex.ite.sizeOf_spec] at hlt
 simp only [Ex.ok, Bool.and_eq_true, decide_eq_true_eq] at hok
 simp only [Ex.size] at hn hg hxl
 simp only [Ex.mk]
 unfold NZ.own
 refine fun_intro (by simp) ?_
 refine Se rfl ?_
 refine o_box rfl rfl .free rfl ?_
 intro b4
 refine o_alloc .free rfl ?_
 intro b6
 refine o_done (s_seq (Se rfl ?_))
 refine o_lOS rfl .free rfl ?_
 refine o_call rfl .free rfl (f_form_isAtom hf.rep _) ?_
 rintro _ _ _ _ ⟨rfl, rfl, rfl⟩
 refine o_done ?_
 first | refine s_fp rfl (hpe) ?_ | refine s_fn rfl (hpe) ?_ | refine s_false (by simp [look, opd, *]) ?_
 refine s_skip (s_seq (Se rfl ?_))
 refine o_lOS rfl .free rfl ?_
 refine o_call rfl .free rfl (f_form_head hf.rep _) ?_
 rintro _ _ _ _ ⟨rfl, rfl, rfl⟩
 refine o_cmps rfl rfl rfl .free rfl ?_
 refine o_done ?_
 first | refine s_fp rfl hxl2 ?_ | refine s_fn rfl hxl2 ?_ | refine s_false (by simp [look, opd, *]) ?_
 refine s_skip (Se rfl ?_)
 refine o_fieldAddr rfl .free rfl ?_
 refine o_lO1 rfl .free rfl ?_
 refine o_call rfl .free rfl (f_slices_Clone (hcs _ rfl) (by have := hcl.length; omega) hcl.plain hpos hp _) ?_
 rintro _ _ _ _ ⟨bc, sp, cc, rfl, hcc, rfl, rfl⟩
 simp only [show (Ex.ite a b d).tree.parts = [.node tIf [], a.tree, b.tree, d.tree] from rfl, cellsF, List.cons_append, List.nil_append]
 refine o_struct rfl rfl rfl .free rfl ?_
 refine o_alloc .free rfl ?_
 intro b8
 refine o_st rfl rfl rfl rfl .free ?_
 refine o_done (s_seq (Se rfl ?_))
 refine o_lOS rfl .free rfl ?_
 refine o_call rfl .free rfl (f_form_kids hf.rep _) ?_
 rintro _ J _ e0 ⟨ok, ck, rfl, hk1, rfl⟩
 have hf := hf.mono e0
 have ht := ht.mono e0
 have hx := hx.mono e0
 have hle := hle.trans e0
 rw [hki] at hk1
 rw [hki]
 refine o_len_slice rfl .free rfl ?_
 refine Om rfl (o_done (s_block ?_))
 refine s_loop ?_
 refine Se rfl ?_
 refine o_cmp rfl rfl rfl .free rfl ?_
 refine o_done (s_seq ?_)
 refine s_condT rfl (by first | rfl | decide | (simp; done) | omega) ?_
 refine s_skip (s_seq (s_block (Se rfl ?_)))
 first | refine o_ixD rfl rfl _ rfl .free rfl ?_ | refine o_ixP rfl rfl _ rfl .free rfl ?_
 refine o_lI1 rfl .free rfl ?_
 refine Oa rfl (o_done (Se rfl ?_))
 refine o_lOS rfl .free rfl ?_
 refine o_call rfl .free rfl (f_form_head hf.rep _) ?_
 rintro _ _ _ _ ⟨rfl, rfl, rfl⟩
 refine o_cmps rfl rfl rfl .free rfl ?_
 refine Om rfl ?_
 apply o_or 59 67 rfl
 ·intro g11_4 hk
  try simp only [nb] at g11_4
  refine o_lOS rfl (.met rfl rfl) rfl ?_
  refine o_call rfl (.met rfl rfl) rfl (f_form_head hf.rep _) ?_
  rintro _ _ _ _ ⟨rfl, rfl, rfl⟩
  refine o_cmps rfl rfl rfl (.met rfl rfl) rfl ?_
  refine o_move rfl (.met rfl rfl) rfl ?_
  apply o_and 63 66 rfl
  ·intro g11_8 hk
   try simp only [nb] at g11_8
   refine o_move rfl (.met rfl rfl) rfl ?_
   refine o_cmp rfl rfl rfl (.met rfl rfl) rfl ?_
   refine o_pick_true rfl rfl (.met rfl rfl) rfl ?_
   exact o_fin 2 rfl rfl hk
  ·intro _ hk
   refine o_skips 2 rfl ?_
   refine o_pick_false rfl rfl (.met rfl rfl) rfl ?_
   exact o_fin 2 rfl rfl hk
  refine o_pick_false rfl rfl .free rfl ?_
  exact o_fin 5 rfl rfl hk
 ·intro _ hk
  refine o_skips 7 rfl ?_
  refine o_pick_true rfl rfl .free rfl ?_
  exact o_fin 7 rfl rfl hk
 refine o_done ?_
 first | refine s_fp rfl (by simp [hxf, hxi, hxfd, hxid]) ?_ | refine s_fn rfl (by simp [hxf, hxi, hxfd, hxid]) ?_ | refine s_false (by simp [look, opd, *]) ?_
 refine s_here fun hlr => ?_
 have g1 := a.mk_g tk n
 have mh1 := a.mk_hits tk n
 have gp1 := MK.pt_g tk _ g1.1 g1.2
 have mp1 := MK.pt_hits tk _ mh1
 have lp1 := MK.pt_len tk _ (a.mk_len tk n)
 have hz1 := hits_le 121 tk n
 refine d_q4 13 rfl rfl ?_
 refine Da 0 rfl (y_fieldAddr rfl) ?_
 refine Dt 1 [12] rfl (y_lO1 rfl) ?_
 refine Da 2 rfl (y_move rfl) ?_
 refine Da 3 rfl (y_move rfl) ?_
 refine Da 4 rfl (y_fieldAddr rfl) ?_
 refine Dt 5 [12] rfl (y_lO1 rfl) ?_
 refine Da 6 rfl (y_move rfl) ?_
 first | refine Da 7 rfl (y_ixD rfl rfl _ rfl) ?_ | refine Da 7 rfl (y_ixP rfl rfl _ rfl) ?_
 refine Dt 8 [12] rfl (y_lIS rfl) ?_
 refine Da 9 rfl (y_move rfl) ?_
 refine d_mem (fun w h => Mem.kv4 h) ?_
 refine d_call 10 rfl (by kernel_rfl) rfl rfl .free rfl (nbare_of ihn ht (by omega) (hf.as 1 a.tree (by omega) rfl) hok.1.1 tk b0 bq bn (g) n (by omega) (by omega) x hx (by omega) _) ?_
 rintro _ J1 _ e1 ⟨cs1, y1, rfl, hr_1, hy1, hy1n, rfl⟩
 obtain ⟨o1, k1, _, rfl, -⟩ := hr_1.open
 have hy1l : y1.ns.length = x.ns.length + ((a.mk tk n).pt tk).ns.length := by rw [hy1n]; simp
 have hlr := hlr.trans e1
 have hf := hf.mono e1
 have ht := ht.mono e1
 have hle := hle.trans e1
 have hk1 := hk1.mono e1
 unfold NZ.own
 refine ⟨(.inr heldx), ?_⟩
 refine d_mem (fun w h => Mem.vk4 h) ?_
 first | refine Da 11 rfl (y_ixD rfl rfl _ rfl) ?_ | refine Da 11 rfl (y_ixP rfl rfl _ rfl) ?_
 refine d_st 12 rfl (by kernel_rfl) rfl rfl rfl rfl rfl .free (.inl (by kernel_rfl)) ?_
 refine d_done (by kernel_rfl) ?_
 refine s_inBlock ?_
 refine o_enter rfl ?_
 refine o_arith rfl rfl rfl (by omega) .free rfl ?_
 refine Om rfl (o_done ?_)
 refine s_round ?_
 refine Se rfl ?_
 refine o_cmp rfl rfl rfl .free rfl ?_
 refine o_done (s_seq ?_)
 refine s_condT rfl (by first | rfl | decide | (simp; done) | omega) ?_
 refine s_skip (s_seq (s_block (Se rfl ?_)))
 first | refine o_ixD rfl rfl _ rfl .free rfl ?_ | refine o_ixP rfl rfl _ rfl .free rfl ?_
 refine o_lI1 rfl .free rfl ?_
 refine Oa rfl (o_done (Se rfl ?_))
 refine o_lOS rfl .free rfl ?_
 refine o_call rfl .free rfl (f_form_head hf.rep _) ?_
 rintro _ _ _ _ ⟨rfl, rfl, rfl⟩
 refine o_cmps rfl rfl rfl .free rfl ?_
 refine Om rfl ?_
 apply o_or 59 67 rfl
 ·intro g11_4 hk
  try simp only [nb] at g11_4
  refine o_lOS rfl (.met rfl rfl) rfl ?_
  refine o_call rfl (.met rfl rfl) rfl (f_form_head hf.rep _) ?_
  rintro _ _ _ _ ⟨rfl, rfl, rfl⟩
  refine o_cmps rfl rfl rfl (.met rfl rfl) rfl ?_
  refine o_move rfl (.met rfl rfl) rfl ?_
  apply o_and 63 66 rfl
  ·intro g11_8 hk
   try simp only [nb] at g11_8
   refine o_move rfl (.met rfl rfl) rfl ?_
   refine o_cmp rfl rfl rfl (.met rfl rfl) rfl ?_
   refine o_pick_true rfl rfl (.met rfl rfl) rfl ?_
   exact o_fin 2 rfl rfl hk
  ·intro _ hk
   refine o_skips 2 rfl ?_
   refine o_pick_false rfl rfl (.met rfl rfl) rfl ?_
   exact o_fin 2 rfl rfl hk
  refine o_pick_false rfl rfl .free rfl ?_
  exact o_fin 5 rfl rfl hk
 ·intro _ hk
  refine o_skips 7 rfl ?_
  refine o_pick_true rfl rfl .free rfl ?_
  exact o_fin 7 rfl rfl hk
 refine o_done ?_
 first | refine s_tp rfl (by simp [hxi, hxid]) ?_ | refine s_tn rfl (by simp [hxi, hxid]) ?_ | refine s_true (by simp [look, opd, *]) ?_
 refine s_here fun hlr => ?_
 have g2 := b.mk_g tk ((a.mk tk n).pt tk).n
 have mh2 := b.mk_hits tk ((a.mk tk n).pt tk).n
 have hz2 := hits_le 121 tk ((a.mk tk n).pt tk).n
 refine d_o4 12 rfl rfl ?_
 refine Da 0 rfl (y_fieldAddr rfl) ?_
 refine Dt 1 [11] rfl (y_lO1 rfl) ?_
 refine Da 2 rfl (y_move rfl) ?_
 refine Da 3 rfl (y_move rfl) ?_
 refine Da 4 rfl (y_fieldAddr rfl) ?_
 refine Dt 5 [11] rfl (y_lO1 rfl) ?_
 refine Da 6 rfl (y_move rfl) ?_
 first | refine Da 7 rfl (y_ixD rfl rfl _ rfl) ?_ | refine Da 7 rfl (y_ixP rfl rfl _ rfl) ?_
 refine Dt 8 [11] rfl (y_lIS rfl) ?_
 refine d_mem (fun w h => Mem.nq4 h) ?_
 refine d_call 9 rfl (by kernel_rfl) rfl rfl .free rfl (nnormal_of ihn ht (by omega) (hf.as 2 b.tree (by omega) rfl) hok.1.2 tk b0 bq (g + ((a.mk tk n).pt tk).g) ((a.mk tk n).pt tk).n (by omega) (by omega) (by omega) _) ?_
 rintro _ J2 _ e2 ⟨cs2, rfl, hr_2, rfl⟩
 obtain ⟨o2, k2, _, rfl, -⟩ := hr_2.open
 have hlr := hlr.trans e2
 have hf := hf.mono e2
 have ht := ht.mono e2
 have hle := hle.trans e2
 have hk1 := hk1.mono e2
 have hy1 := hy1.mono e2
 have hr_1 := hr_1.mono e2
 refine ⟨(.inr heldx), ?_⟩
 refine d_mem (fun w h => Mem.qn4 h) ?_
 first | refine Da 10 rfl (y_ixD rfl rfl _ rfl) ?_ | refine Da 10 rfl (y_ixP rfl rfl _ rfl) ?_
 refine d_st 11 rfl (by kernel_rfl) rfl rfl rfl rfl rfl .free (.inl (by kernel_rfl)) ?_
 refine d_done (by kernel_rfl) ?_
 refine s_inBlock ?_
 refine o_enter rfl ?_
 refine o_arith rfl rfl rfl (by omega) .free rfl ?_
 refine Om rfl (o_done ?_)
 refine s_round ?_
 refine Se rfl ?_
 refine o_cmp rfl rfl rfl .free rfl ?_
 refine o_done (s_seq ?_)
 refine s_condT rfl (by first | rfl | decide | (simp; done) | omega) ?_
 refine s_skip (s_seq (s_block (Se rfl ?_)))
 first | refine o_ixD rfl rfl _ rfl .free rfl ?_ | refine o_ixP rfl rfl _ rfl .free rfl ?_
 refine o_lI1 rfl .free rfl ?_
 refine Oa rfl (o_done (Se rfl ?_))
 refine o_lOS rfl .free rfl ?_
 refine o_call rfl .free rfl (f_form_head hf.rep _) ?_
 rintro _ _ _ _ ⟨rfl, rfl, rfl⟩
 refine o_cmps rfl rfl rfl .free rfl ?_
 refine Om rfl ?_
 apply o_or 59 67 rfl
 ·intro g11_4 hk
  try simp only [nb] at g11_4
  refine o_lOS rfl (.met rfl rfl) rfl ?_
  refine o_call rfl (.met rfl rfl) rfl (f_form_head hf.rep _) ?_
  rintro _ _ _ _ ⟨rfl, rfl, rfl⟩
  refine o_cmps rfl rfl rfl (.met rfl rfl) rfl ?_
  refine o_move rfl (.met rfl rfl) rfl ?_
  apply o_and 63 66 rfl
  ·intro g11_8 hk
   try simp only [nb] at g11_8
   refine o_move rfl (.met rfl rfl) rfl ?_
   refine o_cmp rfl rfl rfl (.met rfl rfl) rfl ?_
   refine o_pick_true rfl rfl (.met rfl rfl) rfl ?_
   exact o_fin 2 rfl rfl hk
  ·intro _ hk
   refine o_skips 2 rfl ?_
   refine o_pick_false rfl rfl (.met rfl rfl) rfl ?_
   exact o_fin 2 rfl rfl hk
  refine o_pick_false rfl rfl .free rfl ?_
  exact o_fin 5 rfl rfl hk
 ·intro _ hk
  refine o_skips 7 rfl ?_
  refine o_pick_true rfl rfl .free rfl ?_
  exact o_fin 7 rfl rfl hk
 refine o_done ?_
 first | refine s_tp rfl (by simp [hxi, hxid]) ?_ | refine s_tn rfl (by simp [hxi, hxid]) ?_ | refine s_true (by simp [look, opd, *]) ?_
 refine s_here fun hlr => ?_
 have g3 := d.mk_g tk (b.mk tk ((a.mk tk n).pt tk).n).n
 have mh3 := d.mk_hits tk (b.mk tk ((a.mk tk n).pt tk).n).n
 have hz3 := hits_le 121 tk (b.mk tk ((a.mk tk n).pt tk).n).n
 refine d_o4 12 rfl rfl ?_
 refine Da 0 rfl (y_fieldAddr rfl) ?_
 refine Dt 1 [11] rfl (y_lO1 rfl) ?_
 refine Da 2 rfl (y_move rfl) ?_
 refine Da 3 rfl (y_move rfl) ?_
 refine Da 4 rfl (y_fieldAddr rfl) ?_
 refine Dt 5 [11] rfl (y_lO1 rfl) ?_
 refine Da 6 rfl (y_move rfl) ?_
 first | refine Da 7 rfl (y_ixD rfl rfl _ rfl) ?_ | refine Da 7 rfl (y_ixP rfl rfl _ rfl) ?_
 refine Dt 8 [11] rfl (y_lIS rfl) ?_
 refine d_mem (fun w h => Mem.nq4 h) ?_
 refine d_call 9 rfl (by kernel_rfl) rfl rfl .free rfl (nnormal_of ihn ht (by omega) (hf.as 3 d.tree (by omega) rfl) hok.2 tk b0 bq (g + ((a.mk tk n).pt tk).g + (b.mk tk ((a.mk tk n).pt tk).n).g) (b.mk tk ((a.mk tk n).pt tk).n).n (by omega) (by omega) (by omega) _) ?_
 rintro _ J3 _ e3 ⟨cs3, rfl, hr_3, rfl⟩
 obtain ⟨o3, k3, _, rfl, -⟩ := hr_3.open
 have hlr := hlr.trans e3
 have hf := hf.mono e3
 have ht := ht.mono e3
 have hle := hle.trans e3
 have hk1 := hk1.mono e3
 have hy1 := hy1.mono e3
 have hr_1 := hr_1.mono e3
 have hr_2 := hr_2.mono e3
 refine ⟨(.inr heldx), ?_⟩
 refine d_mem (fun w h => Mem.qn4 h) ?_
 first | refine Da 10 rfl (y_ixD rfl rfl _ rfl) ?_ | refine Da 10 rfl (y_ixP rfl rfl _ rfl) ?_
 refine d_st 11 rfl (by kernel_rfl) rfl rfl rfl rfl rfl .free (.inl (by kernel_rfl)) ?_
 refine d_done (by kernel_rfl) ?_
 refine s_inBlock ?_
 refine o_enter rfl ?_
 refine o_arith rfl rfl rfl (by omega) .free rfl ?_
 refine Om rfl (o_done ?_)
 refine s_round ?_
 refine Se rfl ?_
 refine o_cmp rfl rfl rfl .free rfl ?_
 refine o_done (s_seq ?_)
 refine s_condF rfl (by first | rfl | decide | (simp; done) | omega) ?_
 refine s_exit rfl ?_
 refine Se rfl ?_
 refine o_lOS rfl .free rfl ?_
 refine o_st rfl rfl rfl rfl .free ?_
 refine o_done ?_
 refine s_mem (fun w h => h.f1) (s_freeze ?_)
 intro hz
 have hf := hf.mono hz
 refine s_ret (.c rfl .nil) ?_
 refine ⟨_, _, hle.trans hz, fun w h => h.drop.drop.drop, _, y1, rfl, .mk' rfl (.cons (hf.as 0 (.node tIf []) (by omega) rfl) (.cons (hr_1.mono hz) (.cons (hr_2.mono hz) (.cons (hr_3.mono hz) (.nil))))) (fun y hy => by cases hy; exact still_set (xs := [_, _, _, _, _, _, _, _])) (by simp) hcc (by simp [maxN]) (by simp [maxN]), hy1.mono hz, by simp only [hy1n], ?_⟩
 simp only [NZ.own, Nat.add_assoc]
set_option maxHeartbeats 1000000 in
theorem nmake_lt {N : Nat} (ihn : NMakeH N) {z : Txt} {a b : Ex} {I : Heap} (ht : Tab I) {cs : List Value} (hlt : SizeOf.sizeOf (Ex.lt z a b) < N + 1) (h : Rep I (Ex.lt z a b).tree cs) (hok : (Ex.lt z a b).ok = true) (tk : List Txt) (b0 bq bn g n : Nat) (hn : n + (Ex.lt z a b).size + tk.length ≤ 900 + hits 121 tk n) (hg : g + (Ex.lt z a b).size ≤ 1000) (x : NZ) (hx : x.ok I) (hxl : x.ns.length + (Ex.lt z a b).size ≤ 100000) (L : Own) :
  Fun Tryz.prog 59 [.pointer (some ⟨b0, 0, none⟩), .agg cs.toArray, .pointer (some ⟨bn, 0, none⟩)] I (x.own b0 bq tk g n bn L) (NP b0 bq tk g bn x ((Ex.lt z a b).mk tk n) L) := by
 obtain ⟨oa, c, oaf, cf1, rfl, hf, hcl, hcs⟩ := h.cells
 have hle : HLe I I := .refl _
 have hh0 := hits_le 121 tk n
 have hpos : 0 < (Ex.lt z a b).tree.parts.length := by show 0 < 4; decide
 obtain ⟨xa, rfl⟩ : ∃ xa, oa = some xa := ⟨_, some_oad hf.nil hpos⟩
 have hlen : (Ex.lt z a b).tree.parts.length = 4 := rfl
 have hp := hf.len
 have hpe : (Ex.lt z a b).tree.parts.isEmpty = false := rfl
 have hpe2 : ¬ (Ex.lt z a b).tree.parts = [] := fun e => by rw [e] at hlen; cases hlen
 have hki := kids_lt' z a b
 have hhd : (Ex.lt z a b).tree.head = tLet := rfl
 have hxl2 :  (Ex.lt z a b).tree.head = [108, 101, 116] := rfl
 have hxl2d :  tLet = [108, 101, 116] := rfl
 have hxf : ¬ (Ex.lt z a b).tree.head = [102, 117, 110] := (by decide : ¬ tLet = tFun)
 have hxfd : ¬ tLet = [102, 117, 110] := (by decide : ¬ tLet = tFun)
 have hxi : ¬ (Ex.lt z a b).tree.head = [105, 102] := (by decide : ¬ tLet = tIf)
 have hxid : ¬ tLet = [105, 102] := (by decide : ¬ tLet = tIf)
 simp only [Ex.lt.sizeOf_spec] at hlt
 simp only [Ex.ok, Bool.and_eq_true, decide_eq_true_eq] at hok
 simp only [Ex.size] at hn hg hxl
 simp only [Ex.mk]
 unfold NZ.own
 refine fun_intro (by simp) ?_
 refine Se rfl ?_
 refine o_box rfl rfl .free rfl ?_
 intro b4
 refine o_alloc .free rfl ?_
 intro b6
 refine o_done (s_seq (Se rfl ?_))
 refine o_lOS rfl .free rfl ?_
 refine o_call rfl .free rfl (f_form_isAtom hf.rep _) ?_
 rintro _ _ _ _ ⟨rfl, rfl, rfl⟩
 refine o_done ?_
 first | refine s_fp rfl (hpe) ?_ | refine s_fn rfl (hpe) ?_ | refine s_false (by simp [look, opd, *]) ?_
 refine s_skip (s_seq (Se rfl ?_))
 refine o_lOS rfl .free rfl ?_
 refine o_call rfl .free rfl (f_form_head hf.rep _) ?_
 rintro _ _ _ _ ⟨rfl, rfl, rfl⟩
 refine o_cmps rfl rfl rfl .free rfl ?_
 refine o_done ?_
 first | refine s_tp rfl hxl2 ?_ | refine s_tn rfl hxl2 ?_ | refine s_true (by simp [look, opd, *]) ?_
 refine s_seq ?_
 refine s_here fun hlr => ?_
 have g1 := a.mk_g tk n
 have mh1 := a.mk_hits tk n
 have lp1 := a.mk_len tk n
 have hzl : z.length ≤ maxN := Ex.name_len hok.1.1
 refine o_enter rfl ?_
 refine Om rfl ?_
 refine o_fieldAddr rfl .free rfl ?_
 refine o_lO1 rfl .free rfl ?_
 first | refine o_ixD rfl rfl 2 rfl .free rfl ?_ | refine o_ixP rfl rfl 2 rfl .free rfl ?_
 refine o_lIS rfl .free rfl ?_
 refine Om rfl ?_
 refine o_mem (fun w h => Mem.kv2 h) ?_
 refine o_call rfl .free rfl (ihn ht (by omega) (hf.as 2 a.tree (by omega) rfl) hok.1.2 tk b0 bq bn g n (by omega) (by omega) x hx (by omega) _) ?_
 rintro _ J1 _ e1 ⟨cs1, y, rfl, hr, hy, hyn, rfl⟩
 obtain ⟨o1, k1, _, rfl, -⟩ := hr.open
 have hyl : y.ns.length = x.ns.length + (a.mk tk n).ns.length := by rw [hyn]; simp
 obtain ⟨a1, k2, hu1⟩ := bufIs hy.buf
 have hz1 := hits_le 121 tk (a.mk tk n).n
 have hf := hf.mono e1
 have ht := ht.mono e1
 unfold NZ.own
 refine o_mem (fun w h => Mem.vk2 h) ?_
 rw [hu1]
 refine o_alloc .free rfl ?_
 intro b7
 refine o_st rfl rfl rfl rfl .free ?_
 refine o_done (s_seq ?_)
 refine d_o6 15 rfl rfl ?_
 refine Da 0 rfl (y_move rfl) ?_
 refine Da 1 rfl (y_move rfl) ?_
 refine Da 2 rfl (y_nilCheck rfl) ?_
 refine Dt 3 [14] rfl (y_lJ rfl) ?_
 refine Da 4 rfl (y_fieldAddr rfl) ?_
 refine Dt 5 [14] rfl (y_lO1 rfl) ?_
 first | refine Da 6 rfl (y_ixD rfl rfl 1 rfl) ?_ | refine Da 6 rfl (y_ixP rfl rfl 1 rfl) ?_
 refine Da 7 rfl (y_fieldAddr' rfl) ?_
 refine Dt 8 [14] rfl (y_lIF rfl) ?_
 refine Dt 9 [14] rfl (y_lOS rfl) ?_
 refine Da 10 rfl (y_struct rfl rfl rfl) ?_
 refine d_lits 11 rfl (by kernel_rfl) rfl rfl rfl (by rfl) (by rfl) (by rfl) (by decide) (by decide) (by rfl) .free rfl (.inr heldx) ?_
 intro b35
 refine d_appendB 12 (B := y.B) (xs := y.xs) (ys := [.string (str z), .string (str (a.mk tk n).e.tree.atom), .slice o1 (a.mk tk n).e.tree.parts.length k1]) (m := y.ns.length) (c := y.c) rfl (by kernel_rfl) rfl (by intro kk; simp) (by rfl) (by rw [hu1]; rfl) rfl hy.buf (fun _ h => h.uu7) (by rfl) (fun a ha => by cases ha; exact reads_ownL (.head _) (by rfl)) (by simp) (by rfl) (by decide) (by omega) (by decide) .free rfl (fun _ => .inr heldx) ?_
 intro B2 c3 hB2
 obtain ⟨bq2, sq, rfl⟩ : ∃ bq sq, B2 = some (bq, sq) := by
  cases B2 with
  | none => exact absurd hB2.1 (by simp)
  | some z => exact ⟨z.1, z.2, rfl⟩
 simp only [bufOwn, List.cons_append, List.nil_append]
 refine Da 13 rfl (y_nilCheck rfl) ?_
 refine d_st 14 rfl (by kernel_rfl) rfl rfl rfl rfl rfl .free (.inl (by kernel_rfl)) ?_ (hu := upd7)
 refine d_done (by kernel_rfl) ?_
 refine s_seq ?_
 have g2 := b.mk_g tk (a.mk tk n).n
 have mh2 := b.mk_hits tk (a.mk tk n).n
 have lp2 := b.mk_len tk (a.mk tk n).n
 have hln : y.ns.length + 1 = (y.ns ++ [(z, (a.mk tk n).e)]).length := by simp
 have hlx : (y.ns ++ [(z, (a.mk tk n).e)]).length + b.size ≤ 100000 := by rw [← hln]; omega
 have hBx : BufOk 3 (y.ns ++ [(z, (a.mk tk n).e)]).length c3 _ (some (bq2, sq)) := hln ▸ hB2
 refine o_enter rfl ?_
 refine Om rfl ?_
 refine o_fieldAddr rfl .free rfl ?_
 refine o_lO1 rfl .free rfl ?_
 first | refine o_ixD rfl rfl 3 rfl .free rfl ?_ | refine o_ixP rfl rfl 3 rfl .free rfl ?_
 refine o_lIS rfl .free rfl ?_
 refine Om rfl ?_
 rw [show y.ns.length + 1 = (y.ns ++ [(z, (a.mk tk n).e)]).length from hln]
 refine o_mem (L' := NZ.own b0 bq tk (g + (a.mk tk n).g) (a.mk tk n).n bn (NZ.mk (y.ns ++ [(z, (a.mk tk n).e)]) (some (bq2, sq)) c3 (y.xs ++ [Value.string (str z), Value.string (str (a.mk tk n).e.tree.atom), Value.slice o1 (a.mk tk n).e.tree.parts.length k1])) ((b35, _) :: (b7, _) :: (b6, _) :: (b4, _) :: L)) (fun w h => Mem.let5 h) ?_
 refine o_call rfl .free rfl (ihn ht (by omega) (hf.as 3 b.tree (by omega) rfl) hok.2 tk b0 bq bn (g + (a.mk tk n).g) (a.mk tk n).n (by omega) (by omega) (NZ.mk (y.ns ++ [(z, (a.mk tk n).e)]) (some (bq2, sq)) c3 (y.xs ++ [Value.string (str z), Value.string (str (a.mk tk n).e.tree.atom), Value.slice o1 (a.mk tk n).e.tree.parts.length k1])) ⟨hBx, hy.rep.append (.cons hzl hr .nil)⟩ hlx _) ?_
 rintro _ J2 _ e2 ⟨cs2, y2, rfl, hr2, hy2, hy2n, rfl⟩
 obtain ⟨o2, k2', _, rfl, -⟩ := hr2.open
 unfold NZ.own
 refine o_mem (fun w h => Mem.vk4 h) ?_
 refine o_st rfl rfl rfl rfl .free ?_
 refine o_done ?_
 refine s_ret (.c rfl .nil) ?_
 refine ⟨J2, _, e1.trans e2, fun w h => h.drop.drop.drop.drop, _, y2, rfl, hr2, hy2, by simp only [hy2n, hyn, List.append_assoc, List.cons_append, List.nil_append], ?_⟩
 simp only [NZ.own, Nat.add_assoc]
set_option maxHeartbeats 1000000 in
theorem nmake_fn {N : Nat} (ihn : NMakeH N) {h1 z : Txt} {s u : Ty} {b : Ex} {I : Heap} (ht : Tab I) {cs : List Value} (hlt : SizeOf.sizeOf (Ex.fn h1 z s u b) < N + 1) (h : Rep I (Ex.fn h1 z s u b).tree cs) (hok : (Ex.fn h1 z s u b).ok = true) (tk : List Txt) (b0 bq bn g n : Nat) (hn : n + (Ex.fn h1 z s u b).size + tk.length ≤ 900 + hits 121 tk n) (hg : g + (Ex.fn h1 z s u b).size ≤ 1000) (x : NZ) (hx : x.ok I) (hxl : x.ns.length + (Ex.fn h1 z s u b).size ≤ 100000) (L : Own) :
  Fun Tryz.prog 59 [.pointer (some ⟨b0, 0, none⟩), .agg cs.toArray, .pointer (some ⟨bn, 0, none⟩)] I (x.own b0 bq tk g n bn L) (NP b0 bq tk g bn x ((Ex.fn h1 z s u b).mk tk n) L) := by
 obtain ⟨oa, c, oaf, cf1, rfl, hf, hcl, hcs⟩ := h.cells
 have hle : HLe I I := .refl _
 have hh0 := hits_le 121 tk n
 have hpos : 0 < (Ex.fn h1 z s u b).tree.parts.length := by show 0 < 6; decide
 obtain ⟨xa, rfl⟩ : ∃ xa, oa = some xa := ⟨_, some_oad hf.nil hpos⟩
 have hlen : (Ex.fn h1 z s u b).tree.parts.length = 6 := rfl
 have hp := hf.len
 have hpe : (Ex.fn h1 z s u b).tree.parts.isEmpty = false := rfl
 have hpe2 : ¬ (Ex.fn h1 z s u b).tree.parts = [] := fun e => by rw [e] at hlen; cases hlen
 have hki := kids_fn h1 z s u b
 have hhd : (Ex.fn h1 z s u b).tree.head = tFun := rfl
 have hxl2 : ¬ (Ex.fn h1 z s u b).tree.head = [108, 101, 116] := (by decide : ¬ tFun = tLet)
 have hxl2d : ¬ tFun = [108, 101, 116] := (by decide : ¬ tFun = tLet)
 have hxf :  (Ex.fn h1 z s u b).tree.head = [102, 117, 110] := rfl
 have hxfd :  tFun = [102, 117, 110] := rfl
 have hxi : ¬ (Ex.fn h1 z s u b).tree.head = [105, 102] := (by decide : ¬ tFun = tIf)
 have hxid : ¬ tFun = [105, 102] := (by decide : ¬ tFun = tIf)
 simp only [Ex.fn.sizeOf_spec] at hlt
 simp only [Ex.ok, Bool.and_eq_true, decide_eq_true_eq] at hok
 simp only [Ex.size] at hn hg hxl
 simp only [Ex.mk]
 unfold NZ.own
 refine fun_intro (by simp) ?_
 refine Se rfl ?_
 refine o_box rfl rfl .free rfl ?_
 intro b4
 refine o_alloc .free rfl ?_
 intro b6
 refine o_done (s_seq (Se rfl ?_))
 refine o_lOS rfl .free rfl ?_
 refine o_call rfl .free rfl (f_form_isAtom hf.rep _) ?_
 rintro _ _ _ _ ⟨rfl, rfl, rfl⟩
 refine o_done ?_
 first | refine s_fp rfl (hpe) ?_ | refine s_fn rfl (hpe) ?_ | refine s_false (by simp [look, opd, *]) ?_
 refine s_skip (s_seq (Se rfl ?_))
 refine o_lOS rfl .free rfl ?_
 refine o_call rfl .free rfl (f_form_head hf.rep _) ?_
 rintro _ _ _ _ ⟨rfl, rfl, rfl⟩
 refine o_cmps rfl rfl rfl .free rfl ?_
 refine o_done ?_
 first | refine s_fp rfl hxl2 ?_ | refine s_fn rfl hxl2 ?_ | refine s_false (by simp [look, opd, *]) ?_
 refine s_skip (Se rfl ?_)
 refine o_fieldAddr rfl .free rfl ?_
 refine o_lO1 rfl .free rfl ?_
 refine o_call rfl .free rfl (f_slices_Clone (hcs _ rfl) (by have := hcl.length; omega) hcl.plain hpos hp _) ?_
 rintro _ _ _ _ ⟨bc, sp, cc, rfl, hcc, rfl, rfl⟩
 simp only [show (Ex.fn h1 z s u b).tree.parts = [.node tFun [], .node h1 [], .node z [], s.tree, u.tree, b.tree] from rfl, cellsF, List.cons_append, List.nil_append]
 refine o_struct rfl rfl rfl .free rfl ?_
 refine o_alloc .free rfl ?_
 intro b8
 refine o_st rfl rfl rfl rfl .free ?_
 refine o_done (s_seq (Se rfl ?_))
 refine o_lOS rfl .free rfl ?_
 refine o_call rfl .free rfl (f_form_kids hf.rep _) ?_
 rintro _ J _ e0 ⟨ok, ck, rfl, hk1, rfl⟩
 have hf := hf.mono e0
 have ht := ht.mono e0
 have hx := hx.mono e0
 have hle := hle.trans e0
 rw [hki] at hk1
 rw [hki]
 refine o_len_slice rfl .free rfl ?_
 refine Om rfl (o_done (s_block ?_))
 refine s_loop ?_
 refine Se rfl ?_
 refine o_cmp rfl rfl rfl .free rfl ?_
 refine o_done (s_seq ?_)
 refine s_condT rfl (by first | rfl | decide | (simp; done) | omega) ?_
 refine s_skip (s_seq (s_block (Se rfl ?_)))
 first | refine o_ixD rfl rfl _ rfl .free rfl ?_ | refine o_ixP rfl rfl _ rfl .free rfl ?_
 refine o_lI1 rfl .free rfl ?_
 refine Oa rfl (o_done (Se rfl ?_))
 refine o_lOS rfl .free rfl ?_
 refine o_call rfl .free rfl (f_form_head hf.rep _) ?_
 rintro _ _ _ _ ⟨rfl, rfl, rfl⟩
 refine o_cmps rfl rfl rfl .free rfl ?_
 refine Om rfl ?_
 apply o_or 59 67 rfl
 ·intro g11_4 hk
  try simp only [nb] at g11_4
  refine o_lOS rfl (.met rfl rfl) rfl ?_
  refine o_call rfl (.met rfl rfl) rfl (f_form_head hf.rep _) ?_
  rintro _ _ _ _ ⟨rfl, rfl, rfl⟩
  refine o_cmps rfl rfl rfl (.met rfl rfl) rfl ?_
  refine o_move rfl (.met rfl rfl) rfl ?_
  apply o_and 63 66 rfl
  ·intro g11_8 hk
   try simp only [nb] at g11_8
   refine o_move rfl (.met rfl rfl) rfl ?_
   refine o_cmp rfl rfl rfl (.met rfl rfl) rfl ?_
   refine o_pick_true rfl rfl (.met rfl rfl) rfl ?_
   exact o_fin 2 rfl rfl hk
  ·intro _ hk
   refine o_skips 2 rfl ?_
   refine o_pick_false rfl rfl (.met rfl rfl) rfl ?_
   exact o_fin 2 rfl rfl hk
  refine o_pick_false rfl rfl .free rfl ?_
  exact o_fin 5 rfl rfl hk
 ·intro _ hk
  refine o_skips 7 rfl ?_
  refine o_pick_true rfl rfl .free rfl ?_
  exact o_fin 7 rfl rfl hk
 refine o_done ?_
 first | refine s_tp rfl (by simp [hxf, hxfd]) ?_ | refine s_tn rfl (by simp [hxf, hxfd]) ?_ | refine s_true (by simp [look, opd, *]) ?_
 refine s_here fun hlr => ?_
 have g1 := b.mk_g tk n
 have mh1 := b.mk_hits tk n
 have hz1 := hits_le 121 tk n
 refine d_o4 12 rfl rfl ?_
 refine Da 0 rfl (y_fieldAddr rfl) ?_
 refine Dt 1 [11] rfl (y_lO1 rfl) ?_
 refine Da 2 rfl (y_move rfl) ?_
 refine Da 3 rfl (y_move rfl) ?_
 refine Da 4 rfl (y_fieldAddr rfl) ?_
 refine Dt 5 [11] rfl (y_lO1 rfl) ?_
 refine Da 6 rfl (y_move rfl) ?_
 first | refine Da 7 rfl (y_ixD rfl rfl _ rfl) ?_ | refine Da 7 rfl (y_ixP rfl rfl _ rfl) ?_
 refine Dt 8 [11] rfl (y_lIS rfl) ?_
 refine d_mem (fun w h => Mem.nq4 h) ?_
 refine d_call 9 rfl (by kernel_rfl) rfl rfl .free rfl (nnormal_of ihn ht (by omega) (hf.as 5 b.tree (by omega) rfl) hok.2 tk b0 bq (g) n (by omega) (by omega) (by omega) _) ?_
 rintro _ J1 _ e1 ⟨cs1, rfl, hr_1, rfl⟩
 obtain ⟨o1, k1, _, rfl, -⟩ := hr_1.open
 have hlr := hlr.trans e1
 have hf := hf.mono e1
 have ht := ht.mono e1
 have hle := hle.trans e1
 have hk1 := hk1.mono e1
 have hx := hx.mono e1
 refine ⟨(.inr heldx), ?_⟩
 refine d_mem (fun w h => Mem.qn4 h) ?_
 first | refine Da 10 rfl (y_ixD rfl rfl _ rfl) ?_ | refine Da 10 rfl (y_ixP rfl rfl _ rfl) ?_
 refine d_st 11 rfl (by kernel_rfl) rfl rfl rfl rfl rfl .free (.inl (by kernel_rfl)) ?_
 refine d_done (by kernel_rfl) ?_
 refine s_inBlock ?_
 refine o_enter rfl ?_
 refine o_arith rfl rfl rfl (by omega) .free rfl ?_
 refine Om rfl (o_done ?_)
 refine s_round ?_
 refine Se rfl ?_
 refine o_cmp rfl rfl rfl .free rfl ?_
 refine o_done (s_seq ?_)
 refine s_condF rfl (by first | rfl | decide | (simp; done) | omega) ?_
 refine s_exit rfl ?_
 refine Se rfl ?_
 refine o_lOS rfl .free rfl ?_
 refine o_st rfl rfl rfl rfl .free ?_
 refine o_done ?_
 refine s_mem (fun w h => h.f1) (s_freeze ?_)
 intro hz
 have hf := hf.mono hz
 refine s_ret (.c rfl .nil) ?_
 refine ⟨_, _, hle.trans hz, fun w h => h.drop.drop.drop, _, x, rfl, .mk' rfl (.cons (hf.as 0 (.node tFun []) (by omega) rfl) (.cons (hf.as 1 (.node h1 []) (by omega) rfl) (.cons (hf.as 2 (.node z []) (by omega) rfl) (.cons (hf.as 3 s.tree (by omega) rfl) (.cons (hf.as 4 u.tree (by omega) rfl) (.cons (hr_1.mono hz) (.nil))))))) (fun y hy => by cases hy; exact still_set (xs := [_, _, _, _, _, _, _, _, _, _, _, _])) (by simp) hcc (by simp [maxN]) (by simp [maxN]), hx.mono hz, by simp, ?_⟩
 simp only [NZ.own, Nat.add_assoc]
set_option maxHeartbeats 1000000 in
theorem nmake_un {N : Nat} (ihn : NMakeH N) {o : U2} {a : Ex} {I : Heap} (ht : Tab I) {cs : List Value} (hlt : SizeOf.sizeOf (Ex.un o a) < N + 1) (h : Rep I (Ex.un o a).tree cs) (hok : (Ex.un o a).ok = true) (tk : List Txt) (b0 bq bn g n : Nat) (hn : n + (Ex.un o a).size + tk.length ≤ 900 + hits 121 tk n) (hg : g + (Ex.un o a).size ≤ 1000) (x : NZ) (hx : x.ok I) (hxl : x.ns.length + (Ex.un o a).size ≤ 100000) (L : Own) :
  Fun Tryz.prog 59 [.pointer (some ⟨b0, 0, none⟩), .agg cs.toArray, .pointer (some ⟨bn, 0, none⟩)] I (x.own b0 bq tk g n bn L) (NP b0 bq tk g bn x ((Ex.un o a).mk tk n) L) := by
 obtain ⟨oa, c, oaf, cf1, rfl, hf, hcl, hcs⟩ := h.cells
 have hle : HLe I I := .refl _
 have hh0 := hits_le 121 tk n
 have hpos : 0 < (Ex.un o a).tree.parts.length := by show 0 < 2; decide
 obtain ⟨xa, rfl⟩ : ∃ xa, oa = some xa := ⟨_, some_oad hf.nil hpos⟩
 have hlen : (Ex.un o a).tree.parts.length = 2 := rfl
 have hp := hf.len
 have hpe : (Ex.un o a).tree.parts.isEmpty = false := rfl
 have hpe2 : ¬ (Ex.un o a).tree.parts = [] := fun e => by rw [e] at hlen; cases hlen
 have hki := kids_un o a
 have hhd : (Ex.un o a).tree.head = o.txt := rfl
 have hxl2 : ¬ (Ex.un o a).tree.head = [108, 101, 116] := o.txt_ne.2.1
 have hxl2d : ¬ o.txt = [108, 101, 116] := o.txt_ne.2.1
 have hxf : ¬ (Ex.un o a).tree.head = [102, 117, 110] := o.txt_ne.2.2.1
 have hxfd : ¬ o.txt = [102, 117, 110] := o.txt_ne.2.2.1
 have hxi : ¬ (Ex.un o a).tree.head = [105, 102] := o.txt_ne.1
 have hxid : ¬ o.txt = [105, 102] := o.txt_ne.1
 simp only [Ex.un.sizeOf_spec] at hlt
 simp only [Ex.ok, Bool.and_eq_true, decide_eq_true_eq] at hok
 simp only [Ex.size] at hn hg hxl
 simp only [Ex.mk]
 unfold NZ.own
 refine fun_intro (by simp) ?_
 refine Se rfl ?_
 refine o_box rfl rfl .free rfl ?_
 intro b4
 refine o_alloc .free rfl ?_
 intro b6
 refine o_done (s_seq (Se rfl ?_))
 refine o_lOS rfl .free rfl ?_
 refine o_call rfl .free rfl (f_form_isAtom hf.rep _) ?_
 rintro _ _ _ _ ⟨rfl, rfl, rfl⟩
 refine o_done ?_
 first | refine s_fp rfl (hpe) ?_ | refine s_fn rfl (hpe) ?_ | refine s_false (by simp [look, opd, *]) ?_
 refine s_skip (s_seq (Se rfl ?_))
 refine o_lOS rfl .free rfl ?_
 refine o_call rfl .free rfl (f_form_head hf.rep _) ?_
 rintro _ _ _ _ ⟨rfl, rfl, rfl⟩
 refine o_cmps rfl rfl rfl .free rfl ?_
 refine o_done ?_
 first | refine s_fp rfl hxl2 ?_ | refine s_fn rfl hxl2 ?_ | refine s_false (by simp [look, opd, *]) ?_
 refine s_skip (Se rfl ?_)
 refine o_fieldAddr rfl .free rfl ?_
 refine o_lO1 rfl .free rfl ?_
 refine o_call rfl .free rfl (f_slices_Clone (hcs _ rfl) (by have := hcl.length; omega) hcl.plain hpos hp _) ?_
 rintro _ _ _ _ ⟨bc, sp, cc, rfl, hcc, rfl, rfl⟩
 simp only [show (Ex.un o a).tree.parts = [.node o.txt [], a.tree] from rfl, cellsF, List.cons_append, List.nil_append]
 refine o_struct rfl rfl rfl .free rfl ?_
 refine o_alloc .free rfl ?_
 intro b8
 refine o_st rfl rfl rfl rfl .free ?_
 refine o_done (s_seq (Se rfl ?_))
 refine o_lOS rfl .free rfl ?_
 refine o_call rfl .free rfl (f_form_kids hf.rep _) ?_
 rintro _ J _ e0 ⟨ok, ck, rfl, hk1, rfl⟩
 have hf := hf.mono e0
 have ht := ht.mono e0
 have hx := hx.mono e0
 have hle := hle.trans e0
 rw [hki] at hk1
 rw [hki]
 refine o_len_slice rfl .free rfl ?_
 refine Om rfl (o_done (s_block ?_))
 refine s_loop ?_
 refine Se rfl ?_
 refine o_cmp rfl rfl rfl .free rfl ?_
 refine o_done (s_seq ?_)
 refine s_condT rfl (by first | rfl | decide | (simp; done) | omega) ?_
 refine s_skip (s_seq (s_block (Se rfl ?_)))
 first | refine o_ixD rfl rfl _ rfl .free rfl ?_ | refine o_ixP rfl rfl _ rfl .free rfl ?_
 refine o_lI1 rfl .free rfl ?_
 refine Oa rfl (o_done (Se rfl ?_))
 refine o_lOS rfl .free rfl ?_
 refine o_call rfl .free rfl (f_form_head hf.rep _) ?_
 rintro _ _ _ _ ⟨rfl, rfl, rfl⟩
 refine o_cmps rfl rfl rfl .free rfl ?_
 refine Om rfl ?_
 apply o_or 59 67 rfl
 ·intro g11_4 hk
  try simp only [nb] at g11_4
  refine o_lOS rfl (.met rfl rfl) rfl ?_
  refine o_call rfl (.met rfl rfl) rfl (f_form_head hf.rep _) ?_
  rintro _ _ _ _ ⟨rfl, rfl, rfl⟩
  refine o_cmps rfl rfl rfl (.met rfl rfl) rfl ?_
  refine o_move rfl (.met rfl rfl) rfl ?_
  apply o_and 63 66 rfl
  ·intro g11_8 hk
   try simp only [nb] at g11_8
   refine o_move rfl (.met rfl rfl) rfl ?_
   refine o_cmp rfl rfl rfl (.met rfl rfl) rfl ?_
   refine o_pick_true rfl rfl (.met rfl rfl) rfl ?_
   exact o_fin 2 rfl rfl hk
  ·intro _ hk
   refine o_skips 2 rfl ?_
   refine o_pick_false rfl rfl (.met rfl rfl) rfl ?_
   exact o_fin 2 rfl rfl hk
  refine o_pick_false rfl rfl .free rfl ?_
  exact o_fin 5 rfl rfl hk
 ·intro _ hk
  refine o_skips 7 rfl ?_
  refine o_pick_true rfl rfl .free rfl ?_
  exact o_fin 7 rfl rfl hk
 refine o_done ?_
 first | refine s_fp rfl (by simp [hxf, hxi, hxfd, hxid]) ?_ | refine s_fn rfl (by simp [hxf, hxi, hxfd, hxid]) ?_ | refine s_false (by simp [look, opd, *]) ?_
 refine s_here fun hlr => ?_
 have g1 := a.mk_g tk n
 have mh1 := a.mk_hits tk n
 have gp1 := MK.pt_g tk _ g1.1 g1.2
 have mp1 := MK.pt_hits tk _ mh1
 have lp1 := MK.pt_len tk _ (a.mk_len tk n)
 have hz1 := hits_le 121 tk n
 refine d_q4 13 rfl rfl ?_
 refine Da 0 rfl (y_fieldAddr rfl) ?_
 refine Dt 1 [12] rfl (y_lO1 rfl) ?_
 refine Da 2 rfl (y_move rfl) ?_
 refine Da 3 rfl (y_move rfl) ?_
 refine Da 4 rfl (y_fieldAddr rfl) ?_
 refine Dt 5 [12] rfl (y_lO1 rfl) ?_
 refine Da 6 rfl (y_move rfl) ?_
 first | refine Da 7 rfl (y_ixD rfl rfl _ rfl) ?_ | refine Da 7 rfl (y_ixP rfl rfl _ rfl) ?_
 refine Dt 8 [12] rfl (y_lIS rfl) ?_
 refine Da 9 rfl (y_move rfl) ?_
 refine d_mem (fun w h => Mem.kv4 h) ?_
 refine d_call 10 rfl (by kernel_rfl) rfl rfl .free rfl (nbare_of ihn ht (by omega) (hf.as 1 a.tree (by omega) rfl) hok tk b0 bq bn (g) n (by omega) (by omega) x hx (by omega) _) ?_
 rintro _ J1 _ e1 ⟨cs1, y1, rfl, hr_1, hy1, hy1n, rfl⟩
 obtain ⟨o1, k1, _, rfl, -⟩ := hr_1.open
 have hy1l : y1.ns.length = x.ns.length + ((a.mk tk n).pt tk).ns.length := by rw [hy1n]; simp
 have hlr := hlr.trans e1
 have hf := hf.mono e1
 have ht := ht.mono e1
 have hle := hle.trans e1
 have hk1 := hk1.mono e1
 unfold NZ.own
 refine ⟨(.inr heldx), ?_⟩
 refine d_mem (fun w h => Mem.vk4 h) ?_
 first | refine Da 11 rfl (y_ixD rfl rfl _ rfl) ?_ | refine Da 11 rfl (y_ixP rfl rfl _ rfl) ?_
 refine d_st 12 rfl (by kernel_rfl) rfl rfl rfl rfl rfl .free (.inl (by kernel_rfl)) ?_
 refine d_done (by kernel_rfl) ?_
 refine s_inBlock ?_
 refine o_enter rfl ?_
 refine o_arith rfl rfl rfl (by omega) .free rfl ?_
 refine Om rfl (o_done ?_)
 refine s_round ?_
 refine Se rfl ?_
 refine o_cmp rfl rfl rfl .free rfl ?_
 refine o_done (s_seq ?_)
 refine s_condF rfl (by first | rfl | decide | (simp; done) | omega) ?_
 refine s_exit rfl ?_
 refine Se rfl ?_
 refine o_lOS rfl .free rfl ?_
 refine o_st rfl rfl rfl rfl .free ?_
 refine o_done ?_
 refine s_mem (fun w h => h.f1) (s_freeze ?_)
 intro hz
 have hf := hf.mono hz
 refine s_ret (.c rfl .nil) ?_
 refine ⟨_, _, hle.trans hz, fun w h => h.drop.drop.drop, _, y1, rfl, .mk' rfl (.cons (hf.as 0 (.node o.txt []) (by omega) rfl) (.cons (hr_1.mono hz) (.nil))) (fun y hy => by cases hy; exact still_set (xs := [_, _, _, _])) (by simp) hcc (by simp [maxN]) (by simp [maxN]), hy1.mono hz, by simp only [hy1n], ?_⟩
 simp only [NZ.own, Nat.add_assoc]
theorem nmake_atom {e : Ex} {I : Heap} {cs : List Value} (hb : e.bare = true) (h : Rep I e.tree cs) (hok : e.ok = true) (tk : List Txt) (b0 bq bn g n : Nat) (x : NZ) (hx : x.ok I) (L : Own) :
  Fun Tryz.prog 59 [.pointer (some ⟨b0, 0, none⟩), .agg cs.toArray, .pointer (some ⟨bn, 0, none⟩)] I (x.own b0 bq tk g n bn L) (NP b0 bq tk g bn x (e.mk tk n) L) := by
 obtain ⟨oa, c, oaf, cf1, rfl, hf⟩ := h.at'
 have hm : e.mk tk n = ⟨e, [], n, 0⟩ := by cases e <;> first | rfl | cases hb
 rw [hm]
 have hpe : e.tree.parts.isEmpty = true := by rw [← Ex.bare_parts]; exact hb
 have hpe2 : e.tree.parts = [] := List.isEmpty_iff.1 hpe
 unfold NZ.own
 refine fun_intro (by simp) ?_
 refine Se rfl ?_
 refine o_box rfl rfl .free rfl ?_
 intro b4
 refine o_alloc .free rfl ?_
 intro b6
 refine o_done (s_seq (Se rfl ?_))
 refine o_lOS rfl .free rfl ?_
 refine o_call rfl .free rfl (f_form_isAtom hf.rep _) ?_
 rintro _ _ _ _ ⟨rfl, rfl, rfl⟩
 refine o_done ?_
 first | refine s_tp rfl (hpe) ?_ | refine s_tn rfl (hpe) ?_ | refine s_true (by simp [look, opd, *]) ?_
 refine Se rfl ?_
 refine o_lOS rfl .free rfl ?_
 refine o_st rfl rfl rfl rfl .free ?_
 refine o_done ?_
 refine s_ret (.c rfl .nil) ?_
 exact ⟨I, _, .refl _, fun w h => h.drop.drop, _, x, rfl, hf.rep, hx, by simp, rfl⟩
theorem nmake_all : ∀ N : Nat, NMakeH N := by
 intro N
 induction N with
 | zero => intro I ht e cs h; omega
 | succ N ihn =>
  intro I ht e cs hlt h hok tk b bq bn g n hn hg x hx hxl L
  cases hb : e.bare with
  | true => exact nmake_atom hb h hok tk b bq bn g n x hx L
  | false =>
   cases e with
   | num s => cases hb
   | name s => cases hb
   | bin o p q => exact nmake_bin ihn ht hlt h hok tk b bq bn g n hn hg x hx hxl L
   | ite p q r => exact nmake_ite ihn ht hlt h hok tk b bq bn g n hn hg x hx hxl L
   | lt z p q => exact nmake_lt ihn ht hlt h hok tk b bq bn g n hn hg x hx hxl L
   | fn h1 z s u q => exact nmake_fn ihn ht hlt h hok tk b bq bn g n hn hg x hx hxl L
   | un o p => exact nmake_un ihn ht hlt h hok tk b bq bn g n hn hg x hx hxl L
/-- The program's namer. -/
def pn (b : Nat) (oa : Option Addr) (av : List Txt) (c g n : Nat) : Nat × Obj := (b, .cells [.slice oa av.length c, .int .i64 (g : Nat), .int .i64 (n : Nat)].toArray 83 (0, 0))
theorem f_plainer_name {I : Heap} {oa : Option Addr} {av : List Txt} {c : Nat} (hav : Strs I oa av c) (b g n : Nat) (hn : fr 120 av n < 100) (hg : g ≤ 1000000) (L : Own) :
  Fun Tryz.prog 82 [.pointer (some ⟨b, 0, none⟩)] I (pn b oa av c g n :: L) (fun v I' L' => v = .string (str (nm 120 (fr 120 av n))) ∧ I = I' ∧ L' = pn b oa av c (g + 1) (fr 120 av n + 1) :: L) := by
 obtain ⟨f1, f2, f3⟩ := fr_facts 120 av n
 refine fun_intro (by simp) ?_
 refine Se rfl (Oa rfl (o_done (s_block ?_)))
 refine s_while (X := Nat) (fun m => fr 120 av n + 1 - m) (fun m => [(0, .pointer (some ⟨b, 0, none⟩))]) (fun _ => I) (fun m => pn b oa av c g m :: L) (fun m => n ≤ m ∧ m ≤ fr 120 av n ∧ ∀ j, n ≤ j → j < m → nm 120 j ∈ av) n ⟨Nat.le_refl _, f2, fun j h1 h2 => absurd h2 (by omega)⟩ ⟨rfl, trivial⟩ (fun _ h => h) ?_
 rintro m ⟨hm1, hm2, hm3⟩ ih
 unfold pn
 have hdl := decT_len (n := m) (by omega)
 refine s_block (Se rfl (Om rfl ?_))
 refine o_nilCheck rfl .free rfl ?_
 first | refine o_fieldAddr rfl .free rfl ?_ | refine o_fieldAddr' rfl .free rfl ?_
 refine o_lJ rfl .free rfl ?_
 refine o_call rfl .free rfl (f_strconv_Itoa m (by omega) _ _) ?_
 rintro _ _ _ _ ⟨rfl, rfl, rfl⟩
 refine o_concat rfl rfl (by first | omega | (simp only [List.length_append, List.length_cons, List.length_nil]; omega) | (simp; omega)) .free rfl ?_
 refine Oa rfl (o_done (Se rfl (Om rfl ?_)))
 refine o_nilCheck rfl .free rfl ?_
 first | refine o_fieldAddr rfl .free rfl ?_ | refine o_fieldAddr' rfl .free rfl ?_
 refine o_lJ rfl .free rfl ?_
 refine o_arith rfl rfl rfl (by omega) .free rfl ?_
 refine o_nilCheck rfl .free rfl ?_
 first | refine o_fieldAddr rfl .free rfl ?_ | refine o_fieldAddr' rfl .free rfl ?_
 refine o_st rfl rfl rfl rfl .free ?_
 refine o_done (Se rfl (Om rfl ?_))
 refine o_nilCheck rfl .free rfl ?_
 first | refine o_fieldAddr rfl .free rfl ?_ | refine o_fieldAddr' rfl .free rfl ?_
 refine o_lJ rfl .free rfl ?_
 refine Om rfl ?_
 refine o_call rfl .free rfl (f_slices_Contains (hav.rd _) c (nm 120 m)) ?_
 rintro _ _ _ _ ⟨rfl, rfl, rfl⟩
 refine o_not rfl .free rfl ?_
 refine o_done ?_
 refine s_cond rfl ?_ ?_
 ·intro c0
  try simp only [nb] at c0
  refine Se rfl (Om rfl ?_)
  refine o_nilCheck rfl .free rfl ?_
  first | refine o_fieldAddr rfl .free rfl ?_ | refine o_fieldAddr' rfl .free rfl ?_
  refine o_lJ rfl .free rfl ?_
  refine o_arith rfl rfl rfl (by omega) .free rfl ?_
  refine o_nilCheck rfl .free rfl ?_
  first | refine o_fieldAddr rfl .free rfl ?_ | refine o_fieldAddr' rfl .free rfl ?_
  refine o_st rfl rfl rfl rfl .free ?_
  refine o_done (Se rfl (Om rfl (Oa rfl (o_done ?_))))
  refine s_ret (.tmp rfl .nil) ?_
  have hfm : fr 120 av n = m := fr_stop hm3 hm1 c0
  exact ⟨I, _, .refl _, fun _ h => h, by rw [hfm]; rfl, rfl, by rw [hfm]; rfl⟩
 intro c0
 try simp only [nb] at c0
 refine s_skip ?_
 refine s_inBlock ?_
 have hne : m ≠ fr 120 av n := fun e => f1 (e ▸ c0)
 refine s_env (E' := [(0, .pointer (some ⟨b, 0, none⟩))]) ⟨rfl, trivial⟩ (ih (m + 1) ⟨by omega, by omega, fun j h1 h2 => ?_⟩ (by omega))
 by_cases hj : j = m
 ·subst hj; exact c0
 ·exact hm3 j h1 (by omega)
end Go.Proofs.YtliomdednakddaaGreatDoor

/- The shelf's law on numbers, laid at this program in plain words by the kit's lay-plain.mjs. No conditions. -/
import Derived.Test.YtfddjcmeejjhiaaGreatDoorG9
import Derived.Shelf.Strconv.Itoa3
import Derived.Test.YtfddjcmeejjhiaaGreatDoorProg
import Derived.Shelf.Strconv.Atoi
namespace Go.Proofs.YtfddjcmeejjhiaaGreatDoor
open Go.Shelf
def laysM171_ren : Go.Shelf.Ren := ⟨fun | 171 => 129 | 243 => 160 | 246 => 169 | 283 => 176 | 284 => 177 | 285 => 178 | 286 => 179 | 129 => 184 | 317 => 183 | 318 => 185 | 319 => 186 | 320 => 187 | 337 => 190 | 338 => 191 | n => n, fun | 3 => 3 | 9 => 9 | 2 => 2 | 4 => 4 | 171 => 177 | 0 => 0 | 53 => 178 | 37 => 22 | 5 => 5 | 173 => 181 | 212 => 190 | 51 => 191 | 20 => 20 | 213 => 192 | 46 => 185 | 232 => 200 | 233 => 201 | n => n, fun | 17 => 2 | 18 => 3 | 19 => 4 | n => n⟩
theorem laysM171 : Go.Proofs.LaysM.n171 Tryz.prog laysM171_ren := {
 mixed := by kernel_rfl
 f129 := Tryz.func184.trans (congrArg some (by kernel_rfl))
 f171 := Tryz.func129.trans (congrArg some (by kernel_rfl))
 f243 := Tryz.func160.trans (congrArg some (by kernel_rfl))
 f246 := Tryz.func169.trans (congrArg some (by kernel_rfl))
 f283 := Tryz.func176.trans (congrArg some (by kernel_rfl))
 f284 := Tryz.func177.trans (congrArg some (by kernel_rfl))
 f285 := Tryz.func178.trans (congrArg some (by kernel_rfl))
 f286 := Tryz.func179.trans (congrArg some (by kernel_rfl))
 f317 := Tryz.func183.trans (congrArg some (by kernel_rfl))
 f318 := Tryz.func185.trans (congrArg some (by kernel_rfl))
 f319 := Tryz.func186.trans (congrArg some (by kernel_rfl))
 f320 := Tryz.func187.trans (congrArg some (by kernel_rfl))
 f337 := Tryz.func190.trans (congrArg some (by kernel_rfl))
 f338 := Tryz.func191.trans (congrArg some (by kernel_rfl))
 t0 := Tryz.underlying0
 a0 := Tryz.isAgg0
 z0 := Tryz.sizeOf0
 v0 := Tryz.zeroValue0
 t2 := Tryz.underlying2
 a2 := Tryz.isAgg2
 z2 := Tryz.sizeOf2
 v2 := Tryz.zeroValue2
 t3 := Tryz.underlying3
 a3 := Tryz.isAgg3
 z3 := Tryz.sizeOf3
 v3 := Tryz.zeroValue3
 t4 := Tryz.underlying4
 a4 := Tryz.isAgg4
 z4 := Tryz.sizeOf4
 v4 := Tryz.zeroValue4
 t5 := Tryz.underlying5
 a5 := Tryz.isAgg5
 z5 := Tryz.sizeOf5
 v5 := Tryz.zeroValue5
 t9 := Tryz.underlying9
 a9 := Tryz.isAgg9
 z9 := Tryz.sizeOf9
 v9 := Tryz.zeroValue9
 t20 := Tryz.underlying20
 a20 := Tryz.isAgg20
 z20 := Tryz.sizeOf20
 v20 := Tryz.zeroValue20
 t37 := Tryz.underlying22
 a37 := Tryz.isAgg22
 z37 := Tryz.sizeOf22
 v37 := Tryz.zeroValue22
 t46 := Tryz.underlying185
 a46 := Tryz.isAgg185
 z46 := Tryz.sizeOf185
 v46 := Tryz.zeroValue185
 t51 := Tryz.underlying191
 a51 := Tryz.isAgg191
 z51 := Tryz.sizeOf191
 v51 := Tryz.zeroValue191
 t53 := Tryz.underlying178
 a53 := Tryz.isAgg178
 z53 := Tryz.sizeOf178
 v53 := Tryz.zeroValue178
 t171 := Tryz.underlying177
 a171 := Tryz.isAgg177
 z171 := Tryz.sizeOf177
 v171 := Tryz.zeroValue177
 t173 := Tryz.underlying181
 a173 := Tryz.isAgg181
 z173 := Tryz.sizeOf181
 v173 := Tryz.zeroValue181
 t212 := Tryz.underlying190
 a212 := Tryz.isAgg190
 z212 := Tryz.sizeOf190
 v212 := Tryz.zeroValue190
 t213 := Tryz.underlying192
 a213 := Tryz.isAgg192
 z213 := Tryz.sizeOf192
 t232 := Tryz.underlying200
 a232 := Tryz.isAgg200
 z232 := Tryz.sizeOf200
 v232 := Tryz.zeroValue200
 t233 := Tryz.underlying201
 a233 := Tryz.isAgg201
 z233 := Tryz.sizeOf201
 v233 := Tryz.zeroValue201
 g17 := by kernel_rfl
 g18 := by kernel_rfl
 g19 := by kernel_rfl
 i0 := by kernel_rfl
 i2 := by kernel_rfl
 i3 := by kernel_rfl
 i4 := by kernel_rfl
 i5 := by kernel_rfl
 i9 := by kernel_rfl
 i20 := by kernel_rfl
 i37 := by kernel_rfl
 i46 := by kernel_rfl
 i51 := by kernel_rfl
 i53 := by kernel_rfl
 i171 := by kernel_rfl
 i173 := by kernel_rfl
 i212 := by kernel_rfl
 i232 := by kernel_rfl
 i233 := by kernel_rfl
 m17 := by kernel_rfl
 m18 := by kernel_rfl
 m19 := by kernel_rfl }
open Go.Shelf
def lays171_ren : Go.Shelf.Ren := ⟨fun | 171 => 129 | 243 => 160 | 246 => 169 | 283 => 176 | 284 => 177 | 285 => 178 | 286 => 179 | 129 => 184 | 317 => 183 | 318 => 185 | 319 => 186 | 320 => 187 | 337 => 190 | 338 => 191 | n => n, fun | 3 => 3 | 9 => 9 | 2 => 2 | 4 => 4 | 171 => 177 | 0 => 0 | 53 => 178 | 37 => 22 | 5 => 5 | 173 => 181 | 212 => 190 | 51 => 191 | 20 => 20 | 213 => 192 | 46 => 185 | 232 => 200 | 233 => 201 | n => n, fun | 17 => 2 | 18 => 3 | 19 => 4 | n => n⟩
set_option maxRecDepth 100000
set_option linter.unusedVariables false
set_option linter.unusedSimpArgs false

/-- A number in decimals. -/
def decT (n : Nat) : Txt := if n < 10 then [UInt8.ofNat (48 + n)] else decT (n / 10) ++ [UInt8.ofNat (48 + n % 10)]
theorem decT_small {n : Nat} (h : n < 10) : decT n = [UInt8.ofNat (48 + n)] := by rw [decT, if_pos h]
theorem decT_big {n : Nat} (h : ¬ n < 10) : decT n = decT (n / 10) ++ [UInt8.ofNat (48 + n % 10)] := by rw [decT, if_neg h]
set_option maxRecDepth 100000
set_option linter.unusedVariables false
set_option linter.unusedSimpArgs false

set_option maxRecDepth 100000
set_option linter.unusedVariables false
set_option linter.unusedSimpArgs false

/-- The library's table of powers of ten stands as the program's text lays it. -/
def Tab (I : Heap) : Prop := ∀ L w, Mem I L w → Lib.TabIs Tryz.prog w "internal/strconv.uint64pow10" .u64 Lib.pow10Tab
theorem Tab.mono {I I' : Heap} (h : Tab I) (hle : HLe I I') : Tab I' := fun L w hm => h L w (hm.le hle)
theorem dec_all (n : Nat) : Lib.decDigits n = decT n := by
 induction n using Nat.strongRecOn with
 | _ n ih =>
  rw [Lib.decDigits]
  by_cases h : n < 10
  ·rw [dif_pos h, decT_small h]
  ·rw [dif_neg h, decT_big h, ih (n / 10) (by omega)]
/-- A number in decimals. -/
def intT (n : Int) : Txt := if n < 0 then 45 :: decT n.natAbs else decT n.toNat
theorem intT_nat (n : Nat) : intT (n : Nat) = decT n := by unfold intT; rw [if_neg (by omega)]; rfl
theorem itoa_intT (n : Int) : Lib.itoa n = intT n := by unfold Lib.itoa intT; rw [dec_all, dec_all]
theorem Mem.grow {I : Heap} {L : Own} {w : World} (h : Mem I L w) (k : Nat) (os : Array Obj) : Mem I L (Sort.grow (w.drewN k) os) := by
 have hk : ∀ b o, w.heap[b]? = some o → (w.heap ++ os)[b]? = some o := fun b o hb => by
  have hlt : b < w.heap.size := by
   rcases Nat.lt_or_ge b w.heap.size with g | g
   ·exact g
   ·rw [Array.getElem?_eq_none g] at hb; cases hb
  rw [Array.getElem?_append_left hlt]; exact hb
 exact ⟨⟨fun b o hb => hk b o (h.1.1 b o hb), h.1.2⟩, fun p hp => ⟨hk _ _ (h.2.1 p hp).1, (h.2.1 p hp).2⟩, h.2.2⟩
theorem f_strconv_ItoaT {I : Heap} (ht : Tab I) (n : Int) (h0 : -9223372036854775808 ≤ n) (h1 : n ≤ 9223372036854775807) (L : Own) : Fun Tryz.prog 129 [.int .i64 n] I L (Only (.string (str (intT n))) I L) := by
 refine ⟨fun w hm => (Any.strconv_Itoa laysM171 n h0 h1 w (ht L w hm)).mono ?_⟩
 rintro e w' ⟨rfl, k, os, rfl⟩
 refine ⟨_, I, L, rfl, .refl _, hm.grow k os, ?_⟩
 rw [itoa_intT]
 exact ⟨rfl, rfl, rfl⟩
set_option maxRecDepth 100000
set_option linter.unusedVariables false
set_option linter.unusedSimpArgs false

theorem exOf_fine {e : Ex} (h : e.fine = true) : exOf e.tree.text = some e := by
 have hok : e.ok = true := by simp only [Ex.fine, Bool.and_eq_true] at h; exact h.1.1
 rw [exOf_text hok, if_pos h]
theorem exOf_is {s : Txt} {e : Ex} (h : exOf s = some e) : e.fine = true ∧ e.ok = true ∧ e.size ≤ 120 ∧ e.tree.len ≤ 12000 ∧ s = e.tree.text := by
 obtain ⟨_, h2, h3⟩ := exOf_some h
 have h4 := h2
 simp only [Ex.fine, Bool.and_eq_true, Tree.fits, decide_eq_true_eq] at h4
 exact ⟨h2, h4.1.1, h4.1.2, h4.2.2, h3⟩
/-- How many expressions an expression and its parts are. -/
def Ex.many : Ex → Nat
 | .num _ => 1
 | .name _ => 1
 | .bin _ a b => 1 + a.many + b.many
 | .ite a b c => 1 + a.many + b.many + c.many
 | .lt _ a b => 1 + a.many + b.many
 | .fn _ _ _ _ b => 1 + b.many
 | .un _ a => 1 + a.many
/-- What an expression begins with. -/
def Ex.hd : Ex → Txt
 | .num _ => [110, 117, 109, 98, 101, 114]
 | .name _ => [110, 97, 109, 101]
 | e => e.tree.head
def headOf (s : Txt) : Txt := match exOf s with
 | some e => e.hd
 | none => []
def kidsOf (s : Txt) : Option (List Txt) := (exOf s).map fun e => e.sub.map fun a => a.tree.text
def manyOf (s : Txt) : Int := match exOf s with
 | some e => (e.many : Nat)
 | none => -1
def sizeOfT (s : Txt) : Int := match parse s with
 | some t => (t.size : Nat)
 | none => -1
set_option maxRecDepth 100000
set_option linter.unusedVariables false
set_option linter.unusedSimpArgs false

/-- The number of decimals. -/
def numT (s : Txt) : Nat := s.foldl (fun a c => 10 * a + (c.toNat - 48)) 0
theorem numT_app (s : Txt) (c : UInt8) : numT (s ++ [c]) = 10 * numT s + (c.toNat - 48) := by simp [numT]
theorem digit_val {d : Nat} (h : d < 10) : (UInt8.ofNat (48 + d)).toNat - 48 = d := by
 have : (UInt8.ofNat (48 + d)).toNat = 48 + d := by simp [UInt8.toNat_ofNat]; omega
 omega
theorem numT_decT : ∀ n : Nat, numT (decT n) = n := by
 intro n
 induction n using Nat.strongRecOn with
 | _ n ih =>
  by_cases h : n < 10
  ·rw [decT_small h]
   show 10 * 0 + ((UInt8.ofNat (48 + n)).toNat - 48) = n
   rw [digit_val h]; omega
  ·rw [decT_big h, numT_app, ih (n / 10) (by omega), digit_val (Nat.mod_lt _ (by omega))]
   omega
theorem decT_inj {a b : Nat} (h : decT a = decT b) : a = b := by
 have := congrArg numT h
 rwa [numT_decT, numT_decT] at this
def nm (c : UInt8) (n : Nat) : Txt := c :: decT n
theorem nm_inj {c : UInt8} {a b : Nat} (h : nm c a = nm c b) : a = b := decT_inj (List.cons.inj h).2
/-- How many of the first 'n' names are barred. -/
def hits (c : UInt8) (av : List Txt) (n : Nat) : Nat := ((List.range n).filter fun k => decide (nm c k ∈ av)).length
/-- The next number whose name is not barred. -/
def frs (c : UInt8) (av : List Txt) : Nat → Nat → Nat
 | 0, n => n
 | k + 1, n => if nm c n ∈ av then frs c av k (n + 1) else n
def fr (c : UInt8) (av : List Txt) (n : Nat) : Nat := frs c av av.length n
/-- The expression with plain names, and the next number. -/
def Ex.pl (av : List Txt) : Ex → List Txt → List Txt → Nat → Ex × Nat
 | .num s, _, _, n => (.num s, n)
 | .name s, f, t, n => (.name (match lastIdx f s with | some i => t.getD i [] | none => s), n)
 | .bin o a b, f, t, n => let p := a.pl av f t n; let q := b.pl av f t p.2; (.bin o p.1 q.1, q.2)
 | .ite a b c, f, t, n => let p := a.pl av f t n; let q := b.pl av f t p.2; let r := c.pl av f t q.2; (.ite p.1 q.1 r.1, r.2)
 | .lt x a b, f, t, n => let k := fr 120 av n; let p := a.pl av f t (k + 1); let q := b.pl av (f ++ [x]) (t ++ [nm 120 k]) p.2; (.lt (nm 120 k) p.1 q.1, q.2)
 | .fn g x s u b, f, t, n => let k := fr 120 av n; let j := fr 120 av (k + 1); let p := b.pl av (f ++ [g, x]) (t ++ [nm 120 k, nm 120 j]) (j + 1); (.fn (nm 120 k) (nm 120 j) s u p.1, p.2)
 | .un o a, f, t, n => let p := a.pl av f t n; (.un o p.1, p.2)
/-- How many names are bound. -/
def Ex.nb : Ex → Nat
 | .num _ => 0
 | .name _ => 0
 | .bin _ a b => a.nb + b.nb
 | .ite a b c => a.nb + b.nb + c.nb
 | .lt _ a b => 1 + a.nb + b.nb
 | .fn _ _ _ _ b => 2 + b.nb
 | .un _ a => a.nb
set_option maxRecDepth 100000
set_option linter.unusedVariables false
set_option linter.unusedSimpArgs false

def namesL (l : List Txt) : Prop := ∀ s ∈ l, isName s = true
theorem namesL.add {l m : List Txt} (h : namesL l) (h' : namesL m) : namesL (l ++ m) := by
 intro s hs
 rcases List.mem_append.1 hs with hs | hs
 ·exact h s hs
 ·exact h' s hs
theorem B5.txt_len (o : B5) : o.txt.length ≤ 4 := by cases o <;> decide
theorem U2.txt_len (o : U2) : o.txt.length ≤ 3 := by cases o <;> decide
/-- An expression's text is short. -/
theorem Ex.len_size : ∀ {e : Ex}, e.ok = true → e.tree.len + 1 ≤ 8 * e.size
 | .num s, h => by
  have h : isNum s = true := h
  have : s.length ≤ 4 := by
   simp only [isNum, Bool.or_eq_true, Bool.and_eq_true, decide_eq_true_eq] at h
   rcases h with h | h
   ·rw [h]; decide
   ·have h1 := h.1.1.2
    unfold unsign at h1
    split at h1
    ·simp only [List.length_drop] at h1; omega
    ·omega
  simp only [Ex.tree, Tree.len, List.isEmpty_nil, cond_true, Ex.size]; omega
 | .name s, h => by
  have := isName_len (show isName s = true from h)
  simp only [Ex.tree, Tree.len, List.isEmpty_nil, cond_true, Ex.size]; omega
 | .bin o a b, h => by
  simp only [Ex.ok, Bool.and_eq_true] at h
  have h1 := Ex.len_size h.1; have h2 := Ex.len_size h.2; have h3 := o.txt_len
  simp only [Ex.tree, Tree.len, lenL, List.isEmpty_nil, List.isEmpty_cons, cond_true, cond_false, Ex.size]; omega
 | .ite a b c, h => by
  simp only [Ex.ok, Bool.and_eq_true] at h
  have h1 := Ex.len_size h.1.1; have h2 := Ex.len_size h.1.2; have h3 := Ex.len_size h.2
  simp only [Ex.tree, Tree.len, lenL, List.isEmpty_nil, List.isEmpty_cons, cond_true, cond_false, Ex.size, tIf, List.length_cons, List.length_nil]; omega
 | .lt x a b, h => by
  simp only [Ex.ok, Bool.and_eq_true] at h
  have h1 := Ex.len_size h.1.2; have h2 := Ex.len_size h.2; have h3 := isName_len h.1.1
  simp only [Ex.tree, Tree.len, lenL, List.isEmpty_nil, List.isEmpty_cons, cond_true, cond_false, Ex.size, tLet, List.length_cons, List.length_nil]; omega
 | .fn f x s t b, h => by
  simp only [Ex.ok, Bool.and_eq_true, decide_eq_true_eq] at h
  obtain ⟨⟨⟨⟨⟨h1, h2⟩, h3⟩, h4⟩, h5⟩, h6⟩ := h
  have k1 := Ex.len_size h6; have k2 := isName_len h1; have k3 := isName_len h2
  have k4 := s.tree_small; have k5 := t.tree_small; have k6 := s.size_pos; have k7 := t.size_pos
  simp only [Ex.tree, Tree.len, lenL, List.isEmpty_nil, List.isEmpty_cons, cond_true, cond_false, Ex.size, tFun, List.length_cons, List.length_nil]; omega
 | .un o a, h => by
  have h1 := Ex.len_size (e := a) h; have h3 := o.txt_len
  simp only [Ex.tree, Tree.len, lenL, List.isEmpty_nil, List.isEmpty_cons, cond_true, cond_false, Ex.size]; omega
/-- The plain one of an expression. -/
def Ex.plain (e : Ex) : Ex := (e.pl e.free [] [] 0).1
def plainOf (s : Txt) : Option Txt := (exOf s).map fun e => e.plain.tree.text
set_option maxRecDepth 100000
set_option linter.unusedVariables false
set_option linter.unusedSimpArgs false

theorem lastAt_app {l r : List Txt} {y : Txt} : ∀ {n : Nat}, n ≤ l.length → lastAt (l ++ r) y n = lastAt l y n
 | 0, _ => rfl
 | n + 1, h => by
  simp only [lastAt]
  rw [show (l ++ r).getD n [] = l.getD n [] by simp [List.getElem?_append_left (show n < l.length by omega)], lastAt_app (by omega)]
theorem lastIdx_add (l : List Txt) (x y : Txt) : lastIdx (l ++ [x]) y = if x = y then some l.length else lastIdx l y := by
 unfold lastIdx
 rw [show (l ++ [x]).length = l.length + 1 by simp]
 simp only [lastAt]
 rw [show (l ++ [x]).getD l.length [] = x by simp, lastAt_app (Nat.le_refl _)]
set_option maxRecDepth 100000
set_option linter.unusedVariables false
set_option linter.unusedSimpArgs false

theorem lastIdx_app (l : List Txt) (y : Txt) : ∀ (a : List Txt), lastIdx (l ++ a) y = match lastIdx a y with | some i => some (l.length + i) | none => lastIdx l y := by
 intro a
 induction a generalizing l with
 | nil => rw [List.append_nil]; rfl
 | cons x a ih =>
  have h1 := ih (l ++ [x])
  have h2 := ih [x]
  rw [List.append_assoc] at h1
  simp only [List.cons_append, List.nil_append] at h1 h2
  rw [h1, h2, lastIdx_add]
  have h3 := lastIdx_add [] x y
  simp only [List.nil_append, List.length_nil] at h3
  rw [h3]
  cases lastIdx a y with
  | some i => simp only [List.length_append, List.length_cons, List.length_nil]; congr 1; omega
  | none =>
   simp only
   by_cases e : x = y
   ·rw [if_pos e, if_pos e]; simp
   ·rw [if_neg e, if_neg e]; rfl
theorem lastIdx_lt {l : List Txt} {y : Txt} {i : Nat} (h : lastIdx l y = some i) : i < l.length ∧ l.getD i [] = y := lastAt_lt h
theorem lastIdx_none {l : List Txt} {y : Txt} : lastIdx l y = none ↔ y ∉ l := by
 induction l with
 | nil => simp [lastIdx, lastAt]
 | cons x l ih =>
  have h := lastIdx_app [x] y l
  simp only [List.cons_append, List.nil_append] at h
  rw [h]
  have h3 := lastIdx_add [] x y
  simp only [List.nil_append, List.length_nil] at h3
  rw [h3]
  cases hl : lastIdx l y with
  | some i =>
   have := lastAt_mem hl
   simp [this]
  | none =>
   rw [hl] at ih
   have h4 : y ∉ l := ih.1 rfl
   by_cases e : x = y
   ·simp [e]
   ·rw [if_neg e]
    simp only [List.mem_cons, not_or]
    exact ⟨fun _ => ⟨fun e' => e e'.symm, h4⟩, fun _ => rfl⟩
/-- A bound name, told by its place. -/
def bnd (i : Nat) : Txt := 0 :: List.replicate i 0
theorem bnd_inj {i j : Nat} (h : bnd i = bnd j) : i = j := by
 have := congrArg List.length h
 simpa [bnd] using this
theorem bnd_name (i : Nat) : isName (bnd i) = false := by simp [bnd, isName, lower]
theorem bnd_ne {s : Txt} (h : isName s = true) (i : Nat) : bnd i ≠ s := fun e => by rw [← e, bnd_name] at h; cases h
def Ex.db : Ex → List Txt → Ex
 | .num s, _ => .num s
 | .name s, a => .name (match lastIdx a s with | some i => bnd i | none => s)
 | .bin o a b, l => .bin o (a.db l) (b.db l)
 | .ite a b c, l => .ite (a.db l) (b.db l) (c.db l)
 | .lt x a b, l => .lt [] (a.db l) (b.db (l ++ [x]))
 | .fn g x s t b, l => .fn [] [] s t (b.db (l ++ [g, x]))
 | .un o a, l => .un o (a.db l)
/-- Alike, as the program asks it. -/
def Ex.alk : Ex → Ex → List Txt → List Txt → Bool
 | .num s, .num t, _, _ => decide (s = t)
 | .name s, .name t, a, b => decide (lastIdx a s = lastIdx b t) && ((lastIdx a s).isSome || decide (s = t))
 | .bin o p q, .bin o' p' q', a, b => decide (o.txt = o'.txt) && p.alk p' a b && q.alk q' a b
 | .ite p q r, .ite p' q' r', a, b => p.alk p' a b && q.alk q' a b && r.alk r' a b
 | .lt x p q, .lt x' p' q', a, b => p.alk p' a b && q.alk q' (a ++ [x]) (b ++ [x'])
 | .fn g x s t q, .fn g' x' s' t' q', a, b => decide (s = s') && decide (t = t') && q.alk q' (a ++ [g, x]) (b ++ [g', x'])
 | .un o p, .un o' p', a, b => decide (o.txt = o'.txt) && p.alk p' a b
 | _, _, _, _ => false
/-- Names that plain names are given: new, each once. -/
def freshT (av t : List Txt) (n : Nat) : Prop := t.Nodup ∧ ∀ x ∈ t, x ∉ av ∧ ∃ k, k < n ∧ x = nm 120 k
theorem freshT.up {av t : List Txt} {n m : Nat} (h : freshT av t n) (hm : n ≤ m) : freshT av t m := ⟨h.1, fun x hx => by obtain ⟨h1, k, h2, h3⟩ := h.2 x hx; exact ⟨h1, k, by omega, h3⟩⟩
theorem freshT.add {av t : List Txt} {n k : Nat} (h : freshT av t n) (hk : n ≤ k) (ha : nm 120 k ∉ av) : freshT av (t ++ [nm 120 k]) (k + 1) := by
 refine ⟨?_, fun x hx => ?_⟩
 ·rw [List.nodup_append]
  refine ⟨h.1, by simp, ?_⟩
  intro x hx y hy e
  simp only [List.mem_singleton] at hy
  subst hy; subst e
  obtain ⟨_, j, hj, e⟩ := h.2 _ hx
  have := nm_inj e
  omega
 ·rcases List.mem_append.1 hx with hx | hx
  ·obtain ⟨h1, j, h2, h3⟩ := h.2 x hx; exact ⟨h1, j, by omega, h3⟩
  ·simp only [List.mem_singleton] at hx; subst hx; exact ⟨ha, k, by omega, rfl⟩
/-- The free names of what is told by places. -/
def Ex.fv : Ex → List Txt
 | .num _ => []
 | .name s => if isName s = true then [s] else []
 | .bin _ a b => a.fv ++ b.fv
 | .ite a b c => a.fv ++ b.fv ++ c.fv
 | .lt _ a b => a.fv ++ b.fv
 | .fn _ _ _ _ b => b.fv
 | .un _ a => a.fv
theorem Ex.occ_db : ∀ {e : Ex} {a : List Txt}, e.ok = true → e.occ a = (e.db a).fv := by
 intro e
 induction e with
 | num s => intro a _; rfl
 | name s =>
  intro a h
  simp only [Ex.ok] at h
  simp only [Ex.occ, Ex.db, Ex.fv]
  cases hs : lastIdx a s with
  | none => simp only [if_pos h]; rw [if_neg (lastIdx_none.1 hs)]
  | some i => simp only [bnd_name, Bool.false_eq_true, if_false]; rw [if_pos (lastAt_mem hs)]
 | bin o p q ih1 ih2 => intro a h; simp only [Ex.ok, Bool.and_eq_true] at h; simp only [Ex.occ, Ex.db, Ex.fv, ih1 h.1, ih2 h.2]
 | ite p q r ih1 ih2 ih3 => intro a h; simp only [Ex.ok, Bool.and_eq_true] at h; simp only [Ex.occ, Ex.db, Ex.fv, ih1 h.1.1, ih2 h.1.2, ih3 h.2]
 | lt x p q ih1 ih2 => intro a h; simp only [Ex.ok, Bool.and_eq_true] at h; simp only [Ex.occ, Ex.db, Ex.fv, ih1 h.1.2, ih2 h.2]
 | fn g x s u q ih => intro a h; simp only [Ex.ok, Bool.and_eq_true] at h; simp only [Ex.occ, Ex.db, Ex.fv, ih h.2]
 | un o p ih => intro a h; simp only [Ex.ok] at h; simp only [Ex.occ, Ex.db, Ex.fv, ih h]
/-- Two expressions that are alike. -/
def Ex.as (e e' : Ex) : Prop := e.db [] = e'.db []
theorem Ex.as.free {e e' : Ex} (h : e.as e') (ho : e.ok = true) (ho' : e'.ok = true) : e.free = e'.free ∧ e.occ [] = e'.occ [] := by
 have h1 : e.occ [] = e'.occ [] := by rw [Ex.occ_db ho, Ex.occ_db ho', show e.db [] = e'.db [] from h]
 exact ⟨by unfold Ex.free; rw [h1], h1⟩
/-- Sizes. -/
theorem Ex.db_size : ∀ (e : Ex) (a : List Txt), (e.db a).size = e.size ∧ (e.db a).tree.depth = e.tree.depth := by
 intro e
 induction e with
 | num s => intro a; exact ⟨rfl, rfl⟩
 | name s => intro a; exact ⟨rfl, rfl⟩
 | bin o p q ih1 ih2 => intro a; obtain ⟨h1, h2⟩ := ih1 a; obtain ⟨h3, h4⟩ := ih2 a; simp only [Ex.db, Ex.size, Ex.tree, Tree.depth, depthL, List.isEmpty_cons, cond_false, h1, h2, h3, h4, and_self]
 | ite p q r ih1 ih2 ih3 => intro a; obtain ⟨h1, h2⟩ := ih1 a; obtain ⟨h3, h4⟩ := ih2 a; obtain ⟨h5, h6⟩ := ih3 a; simp only [Ex.db, Ex.size, Ex.tree, Tree.depth, depthL, List.isEmpty_cons, cond_false, h1, h2, h3, h4, h5, h6, and_self]
 | lt x p q ih1 ih2 => intro a; obtain ⟨h1, h2⟩ := ih1 a; obtain ⟨h3, h4⟩ := ih2 (a ++ [x]); simp only [Ex.db, Ex.size, Ex.tree, Tree.depth, depthL, List.isEmpty_cons, List.isEmpty_nil, cond_true, cond_false, h1, h2, h3, h4, and_self]
 | fn g x s u q ih => intro a; obtain ⟨h1, h2⟩ := ih (a ++ [g, x]); simp only [Ex.db, Ex.size, Ex.tree, Tree.depth, depthL, List.isEmpty_cons, List.isEmpty_nil, cond_true, cond_false, h1, h2, and_self]
 | un o p ih => intro a; obtain ⟨h1, h2⟩ := ih a; simp only [Ex.db, Ex.size, Ex.tree, Tree.depth, depthL, List.isEmpty_cons, cond_false, h1, h2, and_self]
theorem Ex.as.size {e e' : Ex} (h : e.as e') : e.size = e'.size ∧ e.tree.depth = e'.tree.depth := by
 have h1 := e.db_size []
 have h2 := e'.db_size []
 rw [show e.db [] = e'.db [] from h] at h1
 exact ⟨h1.1.symm.trans h2.1, h1.2.symm.trans h2.2⟩
/-- Closed expressions look the same behind any names. -/
theorem Ex.db_in : ∀ {v : Ex} {a b c : List Txt}, a.length = b.length → v.occ c = [] → v.db (a ++ c) = v.db (b ++ c) := by
 intro v
 induction v with
 | num s => intro a b c _ _; rfl
 | name s =>
  intro a b c hl h
  simp only [Ex.occ] at h
  have hc : s ∈ c := by
   by_cases hm : s ∈ c
   ·exact hm
   ·rw [if_neg hm] at h; cases h
  simp only [Ex.db, lastIdx_app]
  cases hs : lastIdx c s with
  | none => exact absurd hc (lastIdx_none.1 hs)
  | some i => simp only [hl]
 | bin o p q ih1 ih2 => intro a b c hl h; simp only [Ex.occ, List.append_eq_nil_iff] at h; simp only [Ex.db, ih1 hl h.1, ih2 hl h.2]
 | ite p q r ih1 ih2 ih3 => intro a b c hl h; simp only [Ex.occ, List.append_eq_nil_iff] at h; simp only [Ex.db, ih1 hl h.1.1, ih2 hl h.1.2, ih3 hl h.2]
 | lt x p q ih1 ih2 => intro a b c hl h; simp only [Ex.occ, List.append_eq_nil_iff] at h; simp only [Ex.db, List.append_assoc, ih1 hl h.1, ih2 hl h.2]
 | fn g x s u q ih => intro a b c hl h; simp only [Ex.occ] at h; simp only [Ex.db, List.append_assoc, ih hl h]
 | un o p ih => intro a b c hl h; simp only [Ex.occ] at h; simp only [Ex.db, ih hl h]
theorem Ex.db_cl {v : Ex} (h : v.occ [] = []) {a b : List Txt} (hl : a.length = b.length) : v.db a = v.db b := by
 have := Ex.db_in (v := v) (c := []) hl h
 simpa using this
/-- Something put for a name, unless it is bound around. -/
def Ex.putIf (e : Ex) (n : Txt) (v : Ex) (a : List Txt) : Ex := if n ∈ a then e else e.put n v
theorem putIf_in {e : Ex} {n : Txt} {v : Ex} {a : List Txt} (h : n ∈ a) : e.putIf n v a = e := if_pos h
theorem putIf_out {e : Ex} {n : Txt} {v : Ex} {a : List Txt} (h : n ∉ a) : e.putIf n v a = e.put n v := if_neg h
theorem putIf_bin (o : B5) (p q : Ex) (n : Txt) (v : Ex) (a : List Txt) : (Ex.bin o p q).putIf n v a = .bin o (p.putIf n v a) (q.putIf n v a) := by unfold Ex.putIf; split <;> rfl
theorem putIf_ite (p q r : Ex) (n : Txt) (v : Ex) (a : List Txt) : (Ex.ite p q r).putIf n v a = .ite (p.putIf n v a) (q.putIf n v a) (r.putIf n v a) := by unfold Ex.putIf; split <;> rfl
theorem putIf_un (o : U2) (p : Ex) (n : Txt) (v : Ex) (a : List Txt) : (Ex.un o p).putIf n v a = .un o (p.putIf n v a) := by unfold Ex.putIf; split <;> rfl
theorem putIf_lt (x : Txt) (p q : Ex) (n : Txt) (v : Ex) (a : List Txt) : (Ex.lt x p q).putIf n v a = .lt x (p.putIf n v a) (q.putIf n v (a ++ [x])) := by
 unfold Ex.putIf
 simp only [List.mem_append, List.mem_singleton, Ex.put]
 by_cases h : n ∈ a
 ·simp [h]
 ·by_cases h2 : x = n
  ·subst h2; simp [h]
  ·have h3 : ¬ n = x := fun e => h2 e.symm
   simp [h, h2, h3]
theorem putIf_fn (g x : Txt) (s u : Ty) (q : Ex) (n : Txt) (v : Ex) (a : List Txt) : (Ex.fn g x s u q).putIf n v a = .fn g x s u (q.putIf n v (a ++ [g, x])) := by
 unfold Ex.putIf
 simp only [List.mem_append, List.mem_cons, List.not_mem_nil, or_false, Ex.put]
 by_cases h : n ∈ a
 ·simp [h]
 ·by_cases h2 : g = n ∨ x = n
  ·have : n = g ∨ n = x := h2.imp Eq.symm Eq.symm
   simp [h, h2, this]
  ·have : ¬ (n = g ∨ n = x) := fun e => h2 (e.imp Eq.symm Eq.symm)
   simp [h, h2, this]
theorem Ex.put_db {n : Txt} {v : Ex} (hv : v.occ [] = []) : ∀ {e e' : Ex} {a b : List Txt}, a.length = b.length → e.ok = true → e'.ok = true → e.db a = e'.db b → (e.putIf n v a).db a = (e'.putIf n v b).db b := by
 intro e
 induction e with
 | num s => intro e' a b hl h h' hd; cases e' <;> simp only [Ex.db, reduceCtorEq] at hd; cases hd; unfold Ex.putIf; split <;> split <;> rfl
 | name s =>
  intro e' a b hl h h' hd
  cases e' <;> simp only [Ex.db, reduceCtorEq] at hd
  rename_i s'
  simp only [Ex.ok] at h h'
  simp only [Ex.name.injEq] at hd
  cases hs : lastIdx a s with
  | none => cases ht : lastIdx b s' with
   | none =>
    rw [hs, ht] at hd; simp only at hd; subst hd
    have h1 := lastIdx_none.1 hs
    have h2 := lastIdx_none.1 ht
    by_cases e : s = n
    ·subst e
     rw [putIf_out h1, putIf_out h2]
     simp only [Ex.put, if_true]
     exact Ex.db_cl hv hl
    ·have h3 : ∀ c, (Ex.name s).putIf n v c = .name s := fun c => by unfold Ex.putIf; split <;> simp [Ex.put, e]
     rw [h3, h3]; simp only [Ex.db, hs, ht]
   | some j => rw [hs, ht] at hd; exact absurd hd.symm (bnd_ne h j)
  | some i => cases ht : lastIdx b s' with
   | none => rw [hs, ht] at hd; exact absurd hd (bnd_ne h' i)
   | some j =>
    rw [hs, ht] at hd
    have h3 : ∀ {c : List Txt} {z : Txt}, z ∈ c → (Ex.name z).putIf n v c = .name z := fun {c z} hz => by
     by_cases e : z = n
     ·subst e; exact putIf_in hz
     ·unfold Ex.putIf; split <;> simp [Ex.put, e]
    rw [h3 (lastAt_mem hs), h3 (lastAt_mem ht)]
    simp only [Ex.db, hs, ht, bnd_inj hd]
 | bin o p q ih1 ih2 =>
  intro e' a b hl h h' hd
  cases e' <;> simp only [Ex.db, reduceCtorEq] at hd
  simp only [Ex.ok, Bool.and_eq_true] at h h'
  simp only [Ex.bin.injEq] at hd
  simp only [putIf_bin, Ex.db, ih1 hl h.1 h'.1 hd.2.1, ih2 hl h.2 h'.2 hd.2.2, hd.1]
 | ite p q r ih1 ih2 ih3 =>
  intro e' a b hl h h' hd
  cases e' <;> simp only [Ex.db, reduceCtorEq] at hd
  simp only [Ex.ok, Bool.and_eq_true] at h h'
  simp only [Ex.ite.injEq] at hd
  simp only [putIf_ite, Ex.db, ih1 hl h.1.1 h'.1.1 hd.1, ih2 hl h.1.2 h'.1.2 hd.2.1, ih3 hl h.2 h'.2 hd.2.2]
 | lt x p q ih1 ih2 =>
  intro e' a b hl h h' hd
  cases e' <;> simp only [Ex.db, reduceCtorEq] at hd
  rename_i x' p' q'
  simp only [Ex.ok, Bool.and_eq_true] at h h'
  simp only [Ex.lt.injEq] at hd
  simp only [putIf_lt, Ex.db, ih1 hl h.1.2 h'.1.2 hd.2.1, ih2 (a := a ++ [x]) (b := b ++ [x']) (by simp [hl]) h.2 h'.2 hd.2.2]
 | fn g x s u q ih =>
  intro e' a b hl h h' hd
  cases e' <;> simp only [Ex.db, reduceCtorEq] at hd
  rename_i g' x' s' u' q'
  simp only [Ex.ok, Bool.and_eq_true] at h h'
  simp only [Ex.fn.injEq] at hd
  simp only [putIf_fn, Ex.db, ih (a := a ++ [g, x]) (b := b ++ [g', x']) (by simp [hl]) h.2 h'.2 hd.2.2.2.2, hd.2.2.1, hd.2.2.2.1]
 | un o p ih =>
  intro e' a b hl h h' hd
  cases e' <;> simp only [Ex.db, reduceCtorEq] at hd
  simp only [Ex.ok] at h h'
  simp only [Ex.un.injEq] at hd
  simp only [putIf_un, Ex.db, ih hl h h' hd.2, hd.1]
theorem Ex.as.put {e e' : Ex} (h : e.as e') (ho : e.ok = true) (ho' : e'.ok = true) {n : Txt} {v : Ex} (hv : v.occ [] = []) : (e.put n v).as (e'.put n v) := by
 have := Ex.put_db (n := n) hv (a := []) (b := []) rfl ho ho' h
 rwa [putIf_out (by simp), putIf_out (by simp)] at this
/- Types of alike expressions. -/
theorem ty_bin (o : B5) (a b : Ex) (l : List Txt) (m : List Ty) : (Ex.bin o a b).ty l m = (a.ty l m).bind fun s => (b.ty l m).bind fun t => o.ty s t := by
 unfold Ex.ty; simp only [Ex.chk]
 cases a.chk l m with
 | error x => rfl
 | ok s => cases b.chk l m with
  | error x => rfl
  | ok t => simp only [Option.bind_some]; cases o.ty s t <;> rfl
theorem ty_ite (a b c : Ex) (l : List Txt) (m : List Ty) : (Ex.ite a b c).ty l m = (a.ty l m).bind fun s => (b.ty l m).bind fun t => (c.ty l m).bind fun u => if s = .i ∧ t = u then some t else none := by
 unfold Ex.ty; simp only [Ex.chk]
 cases a.chk l m with
 | error x => rfl
 | ok s => cases b.chk l m with
  | error x => rfl
  | ok t => cases c.chk l m with
   | error x => rfl
   | ok u =>
    simp only [Option.bind_some]
    by_cases h : s = .i ∧ t = u
    ·rw [if_pos h, if_pos h]
    ·rw [if_neg h, if_neg h]
theorem ty_lt (x : Txt) (a b : Ex) (l : List Txt) (m : List Ty) : (Ex.lt x a b).ty l m = (a.ty l m).bind fun s => b.ty (l ++ [x]) (m ++ [s]) := by
 unfold Ex.ty; simp only [Ex.chk]
 cases a.chk l m <;> rfl
theorem ty_fn (f x : Txt) (s t : Ty) (b : Ex) (l : List Txt) (m : List Ty) : (Ex.fn f x s t b).ty l m = if (Ty.fn s t).size ≤ 16 then (b.ty (l ++ [f, x]) (m ++ [.fn s t, s])).bind fun u => if u = t then some (.fn s t) else none else none := by
 unfold Ex.ty; simp only [Ex.chk]
 by_cases h : (Ty.fn s t).size ≤ 16
 ·rw [if_pos h, if_pos h]
  cases b.chk (l ++ [f, x]) (m ++ [.fn s t, s]) with
  | error x => rfl
  | ok u =>
   simp only [Option.bind_some]
   by_cases h : u = t
   ·rw [if_pos h, if_pos h]
   ·rw [if_neg h, if_neg h]
 ·rw [if_neg h, if_neg h]
theorem ty_un (o : U2) (a : Ex) (l : List Txt) (m : List Ty) : (Ex.un o a).ty l m = (a.ty l m).bind fun s => o.ty s := by
 unfold Ex.ty; simp only [Ex.chk]
 cases a.chk l m with
 | error x => rfl
 | ok s => simp only [Option.bind_some]; cases o.ty s <;> rfl
theorem ty_name (s : Txt) (l : List Txt) (m : List Ty) : (Ex.name s).ty l m = tyLook l m s := by
 unfold Ex.ty; simp only [Ex.chk]
 cases tyLook l m s <;> rfl
theorem tyLook_app {l a : List Txt} {m k : List Ty} (h : l.length = m.length) (s : Txt) : tyLook (l ++ a) (m ++ k) s = match lastIdx a s with | some i => k[i]? | none => tyLook l m s := by
 unfold tyLook
 rw [lastIdx_app]
 cases hs : lastIdx a s with
 | some i => simp only [Option.bind_some, h]; rw [List.getElem?_append_right (by omega)]; congr 1; omega
 | none =>
  simp only
  cases hi : lastIdx l s with
  | none => rfl
  | some i =>
   have := (lastIdx_lt hi).1
   simp only [Option.bind_some]; rw [List.getElem?_append_left (by omega)]
theorem Ex.ty_db {l : List Txt} {m : List Ty} (hlm : l.length = m.length) : ∀ {e e' : Ex} {a b : List Txt} {k : List Ty}, a.length = k.length → b.length = k.length → e.ok = true → e'.ok = true → e.db a = e'.db b → e.ty (l ++ a) (m ++ k) = e'.ty (l ++ b) (m ++ k) := by
 intro e
 induction e with
 | num s => intro e' a b k h1 h2 h h' hd; cases e' <;> simp only [Ex.db, reduceCtorEq] at hd; rfl
 | name s =>
  intro e' a b k h1 h2 h h' hd
  cases e' <;> simp only [Ex.db, reduceCtorEq] at hd
  rename_i s'
  simp only [Ex.ok] at h h'
  simp only [Ex.name.injEq] at hd
  rw [ty_name, ty_name, tyLook_app hlm, tyLook_app hlm]
  cases hs : lastIdx a s with
  | none => cases ht : lastIdx b s' with
   | none => rw [hs, ht] at hd; simp only at hd; subst hd; rfl
   | some j => rw [hs, ht] at hd; exact absurd hd.symm (bnd_ne h j)
  | some i => cases ht : lastIdx b s' with
   | none => rw [hs, ht] at hd; exact absurd hd (bnd_ne h' i)
   | some j => rw [hs, ht] at hd; rw [bnd_inj hd]
 | bin o p q ih1 ih2 =>
  intro e' a b k h1 h2 h h' hd
  cases e' <;> simp only [Ex.db, reduceCtorEq] at hd
  simp only [Ex.ok, Bool.and_eq_true] at h h'
  simp only [Ex.bin.injEq] at hd
  rw [ty_bin, ty_bin, ih1 h1 h2 h.1 h'.1 hd.2.1, ih2 h1 h2 h.2 h'.2 hd.2.2, hd.1]
 | ite p q r ih1 ih2 ih3 =>
  intro e' a b k h1 h2 h h' hd
  cases e' <;> simp only [Ex.db, reduceCtorEq] at hd
  simp only [Ex.ok, Bool.and_eq_true] at h h'
  simp only [Ex.ite.injEq] at hd
  rw [ty_ite, ty_ite, ih1 h1 h2 h.1.1 h'.1.1 hd.1, ih2 h1 h2 h.1.2 h'.1.2 hd.2.1, ih3 h1 h2 h.2 h'.2 hd.2.2]
 | lt x p q ih1 ih2 =>
  intro e' a b k h1 h2 h h' hd
  cases e' <;> simp only [Ex.db, reduceCtorEq] at hd
  rename_i x' p' q'
  simp only [Ex.ok, Bool.and_eq_true] at h h'
  simp only [Ex.lt.injEq] at hd
  rw [ty_lt, ty_lt, ih1 h1 h2 h.1.2 h'.1.2 hd.2.1]
  congr 1; funext s
  have := ih2 (a := a ++ [x]) (b := b ++ [x']) (k := k ++ [s]) (by simp [h1]) (by simp [h2]) h.2 h'.2 hd.2.2
  simpa only [List.append_assoc] using this
 | fn g x s u q ih =>
  intro e' a b k h1 h2 h h' hd
  cases e' <;> simp only [Ex.db, reduceCtorEq] at hd
  rename_i g' x' s' u' q'
  simp only [Ex.ok, Bool.and_eq_true] at h h'
  simp only [Ex.fn.injEq] at hd
  obtain ⟨-, -, rfl, rfl, hd⟩ := hd
  have := ih (a := a ++ [g, x]) (b := b ++ [g', x']) (k := k ++ [.fn s u, s]) (by simp [h1]) (by simp [h2]) h.2 h'.2 hd
  simp only [← List.append_assoc] at this
  rw [ty_fn, ty_fn, this]
 | un o p ih =>
  intro e' a b k h1 h2 h h' hd
  cases e' <;> simp only [Ex.db, reduceCtorEq] at hd
  simp only [Ex.ok] at h h'
  simp only [Ex.un.injEq] at hd
  rw [ty_un, ty_un, ih h1 h2 h h' hd.2, hd.1]
theorem Ex.as.ty {e e' : Ex} (h : e.as e') (ho : e.ok = true) (ho' : e'.ok = true) {l : List Txt} {m : List Ty} (hlm : l.length = m.length) : e.ty l m = e'.ty l m := by
 have := Ex.ty_db hlm (a := []) (b := []) (k := []) rfl rfl ho ho' h
 simpa using this
theorem Ex.as.hd {e e' : Ex} (h : e.as e') : e.hd = e'.hd := by
 have h : e.db [] = e'.db [] := h
 cases e <;> cases e' <;> simp only [Ex.db, reduceCtorEq] at h <;> first
  | rfl
  | (simp only [Ex.bin.injEq] at h; simp only [Ex.hd, h.1]; rfl)
  | (simp only [Ex.un.injEq] at h; simp only [Ex.hd, h.1]; rfl)
theorem Ex.as.symm {e e' : Ex} (h : e.as e') : e'.as e := Eq.symm h
theorem Ex.as.trans {e e' e'' : Ex} (h : e.as e') (h' : e'.as e'') : e.as e'' := Eq.trans h h'
set_option maxRecDepth 100000
set_option linter.unusedVariables false
set_option linter.unusedSimpArgs false

theorem f_form_put : ∀ (n : Nat) {I : Heap} {e : Ex} {cs : List Value} (_ : SizeOf.sizeOf e < n) (_ : Rep I e.tree cs) (_ : e.ok = true) (nm : Txt) (_ : isName nm = true) {v : Ex} {ds : List Value} (_ : Rep I v.tree ds) (L : Own),
    Fun Tryz.prog 88 [.agg cs.toArray, .string (str nm), .agg ds.toArray] I L (RP (e.put nm v).tree L) := by
  intro n
  induction n with
  | zero => intro I e cs h; omega
  | succ n ihn =>
    intro I e cs hlt h hok nm hnm v ds hv L
    obtain ⟨oa, c, oaf, cf, rfl, hf, hcl, hcs⟩ := h.cells
    obtain ⟨ov, cv, _, rfl, -⟩ := hv.open
    have hle : HLe I I := .refl _
    refine fun_intro (by simp) ?_
    refine Se rfl ?_
    refine o_box rfl rfl .free rfl ?_
    intro b3
    refine o_box rfl rfl .free rfl ?_
    intro b5
    refine o_alloc .free rfl ?_
    intro b6
    refine o_done (s_seq (Se rfl ?_))
    refine o_lOS rfl .free rfl ?_
    refine o_call rfl .free rfl (f_form_isAtom hf.rep _) ?_
    rintro _ _ _ _ ⟨rfl, rfl, rfl⟩
    refine o_done ?_
    refine s_cond rfl ?_ ?_
    · intro c0
      try simp only [nb] at c0
      have hb : e.bare = true := by rw [Ex.bare_parts]; exact c0
      refine s_seq (Se rfl (Oh rfl ?_))
      refine o_lO1 rfl .free rfl ?_
      refine Om rfl (Od rfl rfl rfl (o_done ?_))
      refine s_cond rfl ?_ ?_
      · intro c1
        try simp only [nb] at c1
        refine Se rfl ?_
        refine o_lOS rfl .free rfl ?_
        refine o_st rfl rfl rfl rfl .free ?_
        refine o_done ?_
        refine s_ret (.c rfl .nil) ?_
        refine ⟨I, L, .refl _, drops, _, rfl, ?_, rfl⟩
        have : e.put nm v = v := by
          cases e with
          | num s =>
            have c1 : s = nm := c1
            subst c1
            have h2 := name_not_num hnm
            rw [show isNum s = true from hok] at h2; cases h2
          | name s => exact if_pos c1
          | _ => cases hb
        rw [this]; exact hv
      intro c1
      try simp only [nb] at c1
      refine s_skip (Se rfl ?_)
      refine o_lOS rfl .free rfl ?_
      refine o_st rfl rfl rfl rfl .free ?_
      refine o_done ?_
      refine s_ret (.c rfl .nil) ?_
      refine ⟨I, L, .refl _, drops, _, rfl, ?_, rfl⟩
      have : e.put nm v = e := by
        cases e with
        | num s => rfl
        | name s => exact if_neg c1
        | _ => cases hb
      rw [this]; exact hf.rep
    intro c0
    try simp only [nb] at c0
    have hb : e.bare = false := by rw [Ex.bare_parts]; exact c0
    have hsh := e.shapes hb
    have hok0 := hok
    have hpos : 0 < e.tree.parts.length := by
      rw [Ex.bare_parts] at hb
      have : e.tree.parts ≠ [] := by intro hh; rw [hh] at hb; cases hb
      exact List.length_pos_iff.2 this
    obtain ⟨xa, rfl⟩ : ∃ xa, oa = some xa := ⟨_, some_oad hf.nil hpos⟩
    have hp := hf.len
    refine s_skip (Se rfl (Oh rfl ?_))
    refine o_lO1 rfl .free rfl ?_
    refine o_call rfl .free rfl (f_slices_Clone (hcs _ rfl) (by have := hcl.length; omega) hcl.plain hpos hp _) ?_
    rintro _ _ _ _ ⟨bc, sp, cc, rfl, hcc, rfl, rfl⟩
    refine o_struct rfl rfl rfl .free rfl ?_
    refine o_alloc .free rfl ?_
    intro b7
    refine o_st rfl rfl rfl rfl .free ?_
    refine o_done (s_seq (s_seq ?_))
    rcases hsh with ⟨o, a, b, rfl⟩ | ⟨a, b, d, rfl⟩ | ⟨z, a, b, rfl⟩ | ⟨g, z, s, t, b, rfl⟩ | ⟨o, a, rfl⟩
    · skip
      have hlen : (Ex.bin o a b).tree.parts.length = 3 := rfl
      have hki := kids_bin o a b
      simp only [Ex.bin.sizeOf_spec] at hlt
      simp only [Ex.ok, Bool.and_eq_true] at hok
      obtain ⟨_, hrl⟩ : ∃ _ : True, RepL I (Ex.bin o a b).tree.parts _ := ⟨trivial, hcl⟩
      simp only [show (Ex.bin o a b).tree.parts = [.node o.txt [], a.tree, b.tree] from rfl, cellsF, List.cons_append, List.nil_append] at hrl ⊢
      refine o_enter rfl ?_
      refine o_lOS rfl .free rfl ?_
      refine o_call rfl .free rfl (f_form_kids hf.rep _) ?_
      rintro _ J _ e0 ⟨ok, ck, rfl, hk, rfl⟩
      have hf := hf.mono e0
      have hv := hv.mono e0
      have hle := e0
      rw [hki] at hk
      rw [hki]
      refine On rfl (Om rfl (o_done (s_block ?_)))
      refine s_loop ?_
      refine Se rfl (Oc rfl rfl rfl (o_done (s_seq ?_)))
      refine s_condT rfl (by first | rfl | decide | (simp; done) | omega) ?_
      refine s_skip (s_seq (s_block (Se rfl ?_)))
      first | refine o_ixD rfl rfl _ rfl .free rfl ?_ | refine o_ixP rfl rfl _ rfl .free rfl ?_
      refine o_lI1 rfl .free rfl ?_
      refine Oa rfl (o_done (Se rfl ?_))
      refine o_lOS rfl .free rfl ?_
      refine Om rfl ?_
      refine o_call rfl .free rfl (f_form_bound hf.rep hok0 _ _) ?_
      rintro _ J1 _ e1 ⟨o1, k1, rfl, hs1, rfl⟩
      refine Om rfl ?_
      refine o_call rfl .free rfl (f_slices_Contains (hs1.rd _) k1 nm) ?_
      rintro _ _ _ _ ⟨rfl, rfl, rfl⟩
      refine o_not rfl .free rfl ?_
      refine o_mem (fun w h => Mem.le e1 h) ?_
      refine o_done ?_
      first | refine s_tp rfl (by simp [Ex.binds]) ?_ | refine s_tn rfl (by simp [Ex.binds]) ?_ | refine s_true (by simp [look, opd, *]) ?_
      refine d_all 13 rfl rfl ?_
      refine Da 0 rfl (y_fieldAddr rfl) ?_
      refine Dt 1 [12] rfl (y_lO1 rfl) ?_
      refine Da 2 rfl (y_move rfl) ?_
      refine Da 3 rfl (y_fieldAddr rfl) ?_
      refine Dt 4 [12] rfl (y_lO1 rfl) ?_
      refine Da 5 rfl (y_move rfl) ?_
      first | refine Da 6 rfl (y_ixD rfl rfl _ rfl) ?_ | refine Da 6 rfl (y_ixP rfl rfl _ rfl) ?_
      refine Dt 7 [12] rfl (y_lIS rfl) ?_
      refine Da 8 rfl (y_move rfl) ?_
      refine Dt 9 [12] rfl (y_lOS rfl) ?_
      refine d_call 10 rfl (by kernel_rfl) rfl rfl .free rfl (ihn (by omega) (hf.as 1 a.tree (by omega) rfl) hok.1 nm hnm hv _) ?_
      rintro _ J2 _ e2 ⟨cs2, rfl, hr_0, rfl⟩
      obtain ⟨o2, k2, _, rfl, -⟩ := hr_0.open
      have hf := hf.mono e2
      have hv := hv.mono e2
      have hle := hle.trans e2
      have hk := hk.mono e2
      refine ⟨(.inr heldx), ?_⟩
      first | refine Da 11 rfl (y_ixD rfl rfl _ rfl) ?_ | refine Da 11 rfl (y_ixP rfl rfl _ rfl) ?_
      refine d_st 12 rfl (by kernel_rfl) rfl rfl rfl rfl rfl .free (.inl (by kernel_rfl)) ?_
      refine d_done (by kernel_rfl) ?_
      refine s_inBlock (o_enter rfl ?_)
      refine Or rfl rfl rfl ?_
      refine Om rfl (o_done ?_)
      refine s_round ?_
      refine Se rfl (Oc rfl rfl rfl (o_done (s_seq ?_)))
      refine s_condT rfl (by first | rfl | decide | (simp; done) | omega) ?_
      refine s_skip (s_seq (s_block (Se rfl ?_)))
      first | refine o_ixD rfl rfl _ rfl .free rfl ?_ | refine o_ixP rfl rfl _ rfl .free rfl ?_
      refine o_lI1 rfl .free rfl ?_
      refine Oa rfl (o_done (Se rfl ?_))
      refine o_lOS rfl .free rfl ?_
      refine Om rfl ?_
      refine o_call rfl .free rfl (f_form_bound hf.rep hok0 _ _) ?_
      rintro _ J1 _ e1 ⟨o1, k1, rfl, hs1, rfl⟩
      refine Om rfl ?_
      refine o_call rfl .free rfl (f_slices_Contains (hs1.rd _) k1 nm) ?_
      rintro _ _ _ _ ⟨rfl, rfl, rfl⟩
      refine o_not rfl .free rfl ?_
      refine o_mem (fun w h => Mem.le e1 h) ?_
      refine o_done ?_
      first | refine s_tp rfl (by simp [Ex.binds]) ?_ | refine s_tn rfl (by simp [Ex.binds]) ?_ | refine s_true (by simp [look, opd, *]) ?_
      refine d_all 13 rfl rfl ?_
      refine Da 0 rfl (y_fieldAddr rfl) ?_
      refine Dt 1 [12] rfl (y_lO1 rfl) ?_
      refine Da 2 rfl (y_move rfl) ?_
      refine Da 3 rfl (y_fieldAddr rfl) ?_
      refine Dt 4 [12] rfl (y_lO1 rfl) ?_
      refine Da 5 rfl (y_move rfl) ?_
      first | refine Da 6 rfl (y_ixD rfl rfl _ rfl) ?_ | refine Da 6 rfl (y_ixP rfl rfl _ rfl) ?_
      refine Dt 7 [12] rfl (y_lIS rfl) ?_
      refine Da 8 rfl (y_move rfl) ?_
      refine Dt 9 [12] rfl (y_lOS rfl) ?_
      refine d_call 10 rfl (by kernel_rfl) rfl rfl .free rfl (ihn (by omega) (hf.as 2 b.tree (by omega) rfl) hok.2 nm hnm hv _) ?_
      rintro _ J2 _ e2 ⟨cs2, rfl, hr_1, rfl⟩
      obtain ⟨o2, k2, _, rfl, -⟩ := hr_1.open
      have hf := hf.mono e2
      have hv := hv.mono e2
      have hle := hle.trans e2
      have hk := hk.mono e2
      have hr_0 := hr_0.mono e2
      refine ⟨(.inr heldx), ?_⟩
      first | refine Da 11 rfl (y_ixD rfl rfl _ rfl) ?_ | refine Da 11 rfl (y_ixP rfl rfl _ rfl) ?_
      refine d_st 12 rfl (by kernel_rfl) rfl rfl rfl rfl rfl .free (.inl (by kernel_rfl)) ?_
      refine d_done (by kernel_rfl) ?_
      refine s_inBlock (o_enter rfl ?_)
      refine Or rfl rfl rfl ?_
      refine Om rfl (o_done ?_)
      refine s_round ?_
      refine Se rfl (Oc rfl rfl rfl (o_done (s_seq ?_)))
      refine s_condF rfl (by first | rfl | decide | (simp; done) | omega) ?_
      refine s_exit rfl ?_
      refine Se rfl ?_
      refine o_lOS rfl .free rfl ?_
      refine o_st rfl rfl rfl rfl .free ?_
      refine o_done ?_
      refine s_mem (fun w h => h.f1) (s_freeze ?_)
      intro hz
      have hf := hf.mono hz
      refine s_ret (.c rfl .nil) ?_
      exact ⟨_, L, hle.trans hz, drops, _, rfl, .mk' rfl (.cons (hf.as 0 (.node o.txt []) (by omega) rfl) (.cons (hr_0.mono hz) (.cons (hr_1.mono hz) .nil))) (fun y hy => by cases hy; exact still_set (xs := [_, _, _, _, _, _])) (by simp) hcc (by simp [maxN]) (by simp [maxN]), rfl⟩
    · skip
      have hlen : (Ex.ite a b d).tree.parts.length = 4 := rfl
      have hki := kids_ite a b d
      simp only [Ex.ite.sizeOf_spec] at hlt
      simp only [Ex.ok, Bool.and_eq_true] at hok
      obtain ⟨_, hrl⟩ : ∃ _ : True, RepL I (Ex.ite a b d).tree.parts _ := ⟨trivial, hcl⟩
      simp only [show (Ex.ite a b d).tree.parts = [.node tIf [], a.tree, b.tree, d.tree] from rfl, cellsF, List.cons_append, List.nil_append] at hrl ⊢
      refine o_enter rfl ?_
      refine o_lOS rfl .free rfl ?_
      refine o_call rfl .free rfl (f_form_kids hf.rep _) ?_
      rintro _ J _ e0 ⟨ok, ck, rfl, hk, rfl⟩
      have hf := hf.mono e0
      have hv := hv.mono e0
      have hle := e0
      rw [hki] at hk
      rw [hki]
      refine On rfl (Om rfl (o_done (s_block ?_)))
      refine s_loop ?_
      refine Se rfl (Oc rfl rfl rfl (o_done (s_seq ?_)))
      refine s_condT rfl (by first | rfl | decide | (simp; done) | omega) ?_
      refine s_skip (s_seq (s_block (Se rfl ?_)))
      first | refine o_ixD rfl rfl _ rfl .free rfl ?_ | refine o_ixP rfl rfl _ rfl .free rfl ?_
      refine o_lI1 rfl .free rfl ?_
      refine Oa rfl (o_done (Se rfl ?_))
      refine o_lOS rfl .free rfl ?_
      refine Om rfl ?_
      refine o_call rfl .free rfl (f_form_bound hf.rep hok0 _ _) ?_
      rintro _ J1 _ e1 ⟨o1, k1, rfl, hs1, rfl⟩
      refine Om rfl ?_
      refine o_call rfl .free rfl (f_slices_Contains (hs1.rd _) k1 nm) ?_
      rintro _ _ _ _ ⟨rfl, rfl, rfl⟩
      refine o_not rfl .free rfl ?_
      refine o_mem (fun w h => Mem.le e1 h) ?_
      refine o_done ?_
      first | refine s_tp rfl (by simp [Ex.binds]) ?_ | refine s_tn rfl (by simp [Ex.binds]) ?_ | refine s_true (by simp [look, opd, *]) ?_
      refine d_all 13 rfl rfl ?_
      refine Da 0 rfl (y_fieldAddr rfl) ?_
      refine Dt 1 [12] rfl (y_lO1 rfl) ?_
      refine Da 2 rfl (y_move rfl) ?_
      refine Da 3 rfl (y_fieldAddr rfl) ?_
      refine Dt 4 [12] rfl (y_lO1 rfl) ?_
      refine Da 5 rfl (y_move rfl) ?_
      first | refine Da 6 rfl (y_ixD rfl rfl _ rfl) ?_ | refine Da 6 rfl (y_ixP rfl rfl _ rfl) ?_
      refine Dt 7 [12] rfl (y_lIS rfl) ?_
      refine Da 8 rfl (y_move rfl) ?_
      refine Dt 9 [12] rfl (y_lOS rfl) ?_
      refine d_call 10 rfl (by kernel_rfl) rfl rfl .free rfl (ihn (by omega) (hf.as 1 a.tree (by omega) rfl) hok.1.1 nm hnm hv _) ?_
      rintro _ J2 _ e2 ⟨cs2, rfl, hr_0, rfl⟩
      obtain ⟨o2, k2, _, rfl, -⟩ := hr_0.open
      have hf := hf.mono e2
      have hv := hv.mono e2
      have hle := hle.trans e2
      have hk := hk.mono e2
      refine ⟨(.inr heldx), ?_⟩
      first | refine Da 11 rfl (y_ixD rfl rfl _ rfl) ?_ | refine Da 11 rfl (y_ixP rfl rfl _ rfl) ?_
      refine d_st 12 rfl (by kernel_rfl) rfl rfl rfl rfl rfl .free (.inl (by kernel_rfl)) ?_
      refine d_done (by kernel_rfl) ?_
      refine s_inBlock (o_enter rfl ?_)
      refine Or rfl rfl rfl ?_
      refine Om rfl (o_done ?_)
      refine s_round ?_
      refine Se rfl (Oc rfl rfl rfl (o_done (s_seq ?_)))
      refine s_condT rfl (by first | rfl | decide | (simp; done) | omega) ?_
      refine s_skip (s_seq (s_block (Se rfl ?_)))
      first | refine o_ixD rfl rfl _ rfl .free rfl ?_ | refine o_ixP rfl rfl _ rfl .free rfl ?_
      refine o_lI1 rfl .free rfl ?_
      refine Oa rfl (o_done (Se rfl ?_))
      refine o_lOS rfl .free rfl ?_
      refine Om rfl ?_
      refine o_call rfl .free rfl (f_form_bound hf.rep hok0 _ _) ?_
      rintro _ J1 _ e1 ⟨o1, k1, rfl, hs1, rfl⟩
      refine Om rfl ?_
      refine o_call rfl .free rfl (f_slices_Contains (hs1.rd _) k1 nm) ?_
      rintro _ _ _ _ ⟨rfl, rfl, rfl⟩
      refine o_not rfl .free rfl ?_
      refine o_mem (fun w h => Mem.le e1 h) ?_
      refine o_done ?_
      first | refine s_tp rfl (by simp [Ex.binds]) ?_ | refine s_tn rfl (by simp [Ex.binds]) ?_ | refine s_true (by simp [look, opd, *]) ?_
      refine d_all 13 rfl rfl ?_
      refine Da 0 rfl (y_fieldAddr rfl) ?_
      refine Dt 1 [12] rfl (y_lO1 rfl) ?_
      refine Da 2 rfl (y_move rfl) ?_
      refine Da 3 rfl (y_fieldAddr rfl) ?_
      refine Dt 4 [12] rfl (y_lO1 rfl) ?_
      refine Da 5 rfl (y_move rfl) ?_
      first | refine Da 6 rfl (y_ixD rfl rfl _ rfl) ?_ | refine Da 6 rfl (y_ixP rfl rfl _ rfl) ?_
      refine Dt 7 [12] rfl (y_lIS rfl) ?_
      refine Da 8 rfl (y_move rfl) ?_
      refine Dt 9 [12] rfl (y_lOS rfl) ?_
      refine d_call 10 rfl (by kernel_rfl) rfl rfl .free rfl (ihn (by omega) (hf.as 2 b.tree (by omega) rfl) hok.1.2 nm hnm hv _) ?_
      rintro _ J2 _ e2 ⟨cs2, rfl, hr_1, rfl⟩
      obtain ⟨o2, k2, _, rfl, -⟩ := hr_1.open
      have hf := hf.mono e2
      have hv := hv.mono e2
      have hle := hle.trans e2
      have hk := hk.mono e2
      have hr_0 := hr_0.mono e2
      refine ⟨(.inr heldx), ?_⟩
      first | refine Da 11 rfl (y_ixD rfl rfl _ rfl) ?_ | refine Da 11 rfl (y_ixP rfl rfl _ rfl) ?_
      refine d_st 12 rfl (by kernel_rfl) rfl rfl rfl rfl rfl .free (.inl (by kernel_rfl)) ?_
      refine d_done (by kernel_rfl) ?_
      refine s_inBlock (o_enter rfl ?_)
      refine Or rfl rfl rfl ?_
      refine Om rfl (o_done ?_)
      refine s_round ?_
      refine Se rfl (Oc rfl rfl rfl (o_done (s_seq ?_)))
      refine s_condT rfl (by first | rfl | decide | (simp; done) | omega) ?_
      refine s_skip (s_seq (s_block (Se rfl ?_)))
      first | refine o_ixD rfl rfl _ rfl .free rfl ?_ | refine o_ixP rfl rfl _ rfl .free rfl ?_
      refine o_lI1 rfl .free rfl ?_
      refine Oa rfl (o_done (Se rfl ?_))
      refine o_lOS rfl .free rfl ?_
      refine Om rfl ?_
      refine o_call rfl .free rfl (f_form_bound hf.rep hok0 _ _) ?_
      rintro _ J1 _ e1 ⟨o1, k1, rfl, hs1, rfl⟩
      refine Om rfl ?_
      refine o_call rfl .free rfl (f_slices_Contains (hs1.rd _) k1 nm) ?_
      rintro _ _ _ _ ⟨rfl, rfl, rfl⟩
      refine o_not rfl .free rfl ?_
      refine o_mem (fun w h => Mem.le e1 h) ?_
      refine o_done ?_
      first | refine s_tp rfl (by simp [Ex.binds]) ?_ | refine s_tn rfl (by simp [Ex.binds]) ?_ | refine s_true (by simp [look, opd, *]) ?_
      refine d_all 13 rfl rfl ?_
      refine Da 0 rfl (y_fieldAddr rfl) ?_
      refine Dt 1 [12] rfl (y_lO1 rfl) ?_
      refine Da 2 rfl (y_move rfl) ?_
      refine Da 3 rfl (y_fieldAddr rfl) ?_
      refine Dt 4 [12] rfl (y_lO1 rfl) ?_
      refine Da 5 rfl (y_move rfl) ?_
      first | refine Da 6 rfl (y_ixD rfl rfl _ rfl) ?_ | refine Da 6 rfl (y_ixP rfl rfl _ rfl) ?_
      refine Dt 7 [12] rfl (y_lIS rfl) ?_
      refine Da 8 rfl (y_move rfl) ?_
      refine Dt 9 [12] rfl (y_lOS rfl) ?_
      refine d_call 10 rfl (by kernel_rfl) rfl rfl .free rfl (ihn (by omega) (hf.as 3 d.tree (by omega) rfl) hok.2 nm hnm hv _) ?_
      rintro _ J2 _ e2 ⟨cs2, rfl, hr_2, rfl⟩
      obtain ⟨o2, k2, _, rfl, -⟩ := hr_2.open
      have hf := hf.mono e2
      have hv := hv.mono e2
      have hle := hle.trans e2
      have hk := hk.mono e2
      have hr_0 := hr_0.mono e2
      have hr_1 := hr_1.mono e2
      refine ⟨(.inr heldx), ?_⟩
      first | refine Da 11 rfl (y_ixD rfl rfl _ rfl) ?_ | refine Da 11 rfl (y_ixP rfl rfl _ rfl) ?_
      refine d_st 12 rfl (by kernel_rfl) rfl rfl rfl rfl rfl .free (.inl (by kernel_rfl)) ?_
      refine d_done (by kernel_rfl) ?_
      refine s_inBlock (o_enter rfl ?_)
      refine Or rfl rfl rfl ?_
      refine Om rfl (o_done ?_)
      refine s_round ?_
      refine Se rfl (Oc rfl rfl rfl (o_done (s_seq ?_)))
      refine s_condF rfl (by first | rfl | decide | (simp; done) | omega) ?_
      refine s_exit rfl ?_
      refine Se rfl ?_
      refine o_lOS rfl .free rfl ?_
      refine o_st rfl rfl rfl rfl .free ?_
      refine o_done ?_
      refine s_mem (fun w h => h.f1) (s_freeze ?_)
      intro hz
      have hf := hf.mono hz
      refine s_ret (.c rfl .nil) ?_
      exact ⟨_, L, hle.trans hz, drops, _, rfl, .mk' rfl (.cons (hf.as 0 (.node tIf []) (by omega) rfl) (.cons (hr_0.mono hz) (.cons (hr_1.mono hz) (.cons (hr_2.mono hz) .nil)))) (fun y hy => by cases hy; exact still_set (xs := [_, _, _, _, _, _, _, _])) (by simp) hcc (by simp [maxN]) (by simp [maxN]), rfl⟩
    · skip
      have hlen : (Ex.lt z a b).tree.parts.length = 4 := rfl
      have hki := kids_lt' z a b
      simp only [Ex.lt.sizeOf_spec] at hlt
      simp only [Ex.ok, Bool.and_eq_true] at hok
      obtain ⟨_, hrl⟩ : ∃ _ : True, RepL I (Ex.lt z a b).tree.parts _ := ⟨trivial, hcl⟩
      simp only [show (Ex.lt z a b).tree.parts = [.node tLet [], .node z [], a.tree, b.tree] from rfl, cellsF, List.cons_append, List.nil_append] at hrl ⊢
      refine o_enter rfl ?_
      refine o_lOS rfl .free rfl ?_
      refine o_call rfl .free rfl (f_form_kids hf.rep _) ?_
      rintro _ J _ e0 ⟨ok, ck, rfl, hk, rfl⟩
      have hf := hf.mono e0
      have hv := hv.mono e0
      have hle := e0
      rw [hki] at hk
      rw [hki]
      refine On rfl (Om rfl (o_done (s_block ?_)))
      refine s_loop ?_
      refine Se rfl (Oc rfl rfl rfl (o_done (s_seq ?_)))
      refine s_condT rfl (by first | rfl | decide | (simp; done) | omega) ?_
      refine s_skip (s_seq (s_block (Se rfl ?_)))
      first | refine o_ixD rfl rfl _ rfl .free rfl ?_ | refine o_ixP rfl rfl _ rfl .free rfl ?_
      refine o_lI1 rfl .free rfl ?_
      refine Oa rfl (o_done (Se rfl ?_))
      refine o_lOS rfl .free rfl ?_
      refine Om rfl ?_
      refine o_call rfl .free rfl (f_form_bound hf.rep hok0 _ _) ?_
      rintro _ J1 _ e1 ⟨o1, k1, rfl, hs1, rfl⟩
      refine Om rfl ?_
      refine o_call rfl .free rfl (f_slices_Contains (hs1.rd _) k1 nm) ?_
      rintro _ _ _ _ ⟨rfl, rfl, rfl⟩
      refine o_not rfl .free rfl ?_
      refine o_mem (fun w h => Mem.le e1 h) ?_
      refine o_done ?_
      first | refine s_tp rfl (by simp [Ex.binds]) ?_ | refine s_tn rfl (by simp [Ex.binds]) ?_ | refine s_true (by simp [look, opd, *]) ?_
      refine d_all 13 rfl rfl ?_
      refine Da 0 rfl (y_fieldAddr rfl) ?_
      refine Dt 1 [12] rfl (y_lO1 rfl) ?_
      refine Da 2 rfl (y_move rfl) ?_
      refine Da 3 rfl (y_fieldAddr rfl) ?_
      refine Dt 4 [12] rfl (y_lO1 rfl) ?_
      refine Da 5 rfl (y_move rfl) ?_
      first | refine Da 6 rfl (y_ixD rfl rfl _ rfl) ?_ | refine Da 6 rfl (y_ixP rfl rfl _ rfl) ?_
      refine Dt 7 [12] rfl (y_lIS rfl) ?_
      refine Da 8 rfl (y_move rfl) ?_
      refine Dt 9 [12] rfl (y_lOS rfl) ?_
      refine d_call 10 rfl (by kernel_rfl) rfl rfl .free rfl (ihn (by omega) (hf.as 2 a.tree (by omega) rfl) hok.1.2 nm hnm hv _) ?_
      rintro _ J2 _ e2 ⟨cs2, rfl, hr_0, rfl⟩
      obtain ⟨o2, k2, _, rfl, -⟩ := hr_0.open
      have hf := hf.mono e2
      have hv := hv.mono e2
      have hle := hle.trans e2
      have hk := hk.mono e2
      refine ⟨(.inr heldx), ?_⟩
      first | refine Da 11 rfl (y_ixD rfl rfl _ rfl) ?_ | refine Da 11 rfl (y_ixP rfl rfl _ rfl) ?_
      refine d_st 12 rfl (by kernel_rfl) rfl rfl rfl rfl rfl .free (.inl (by kernel_rfl)) ?_
      refine d_done (by kernel_rfl) ?_
      refine s_inBlock (o_enter rfl ?_)
      refine Or rfl rfl rfl ?_
      refine Om rfl (o_done ?_)
      refine s_round ?_
      refine Se rfl (Oc rfl rfl rfl (o_done (s_seq ?_)))
      refine s_condT rfl (by first | rfl | decide | (simp; done) | omega) ?_
      refine s_skip (s_seq (s_block (Se rfl ?_)))
      first | refine o_ixD rfl rfl _ rfl .free rfl ?_ | refine o_ixP rfl rfl _ rfl .free rfl ?_
      refine o_lI1 rfl .free rfl ?_
      refine Oa rfl (o_done (Se rfl ?_))
      refine o_lOS rfl .free rfl ?_
      refine Om rfl ?_
      refine o_call rfl .free rfl (f_form_bound hf.rep hok0 _ _) ?_
      rintro _ J1 _ e1 ⟨o1, k1, rfl, hs1, rfl⟩
      refine Om rfl ?_
      refine o_call rfl .free rfl (f_slices_Contains (hs1.rd _) k1 nm) ?_
      rintro _ _ _ _ ⟨rfl, rfl, rfl⟩
      refine o_not rfl .free rfl ?_
      refine o_mem (fun w h => Mem.le e1 h) ?_
      refine o_done ?_
      refine s_cond rfl ?_ ?_
      · intro c3
        try simp only [nb] at c3
        have c3 : ¬ nm ∈ [z] := c3
        refine d_all 13 rfl rfl ?_
        refine Da 0 rfl (y_fieldAddr rfl) ?_
        refine Dt 1 [12] rfl (y_lO1 rfl) ?_
        refine Da 2 rfl (y_move rfl) ?_
        refine Da 3 rfl (y_fieldAddr rfl) ?_
        refine Dt 4 [12] rfl (y_lO1 rfl) ?_
        refine Da 5 rfl (y_move rfl) ?_
        first | refine Da 6 rfl (y_ixD rfl rfl _ rfl) ?_ | refine Da 6 rfl (y_ixP rfl rfl _ rfl) ?_
        refine Dt 7 [12] rfl (y_lIS rfl) ?_
        refine Da 8 rfl (y_move rfl) ?_
        refine Dt 9 [12] rfl (y_lOS rfl) ?_
        refine d_call 10 rfl (by kernel_rfl) rfl rfl .free rfl (ihn (by omega) (hf.as 3 b.tree (by omega) rfl) hok.2 nm hnm hv _) ?_
        rintro _ J2 _ e2 ⟨cs2, rfl, hr_1, rfl⟩
        obtain ⟨o2, k2, _, rfl, -⟩ := hr_1.open
        have hf := hf.mono e2
        have hv := hv.mono e2
        have hle := hle.trans e2
        have hk := hk.mono e2
        have hr_0 := hr_0.mono e2
        refine ⟨(.inr heldx), ?_⟩
        first | refine Da 11 rfl (y_ixD rfl rfl _ rfl) ?_ | refine Da 11 rfl (y_ixP rfl rfl _ rfl) ?_
        refine d_st 12 rfl (by kernel_rfl) rfl rfl rfl rfl rfl .free (.inl (by kernel_rfl)) ?_
        refine d_done (by kernel_rfl) ?_
        refine s_inBlock (o_enter rfl ?_)
        refine Or rfl rfl rfl ?_
        refine Om rfl (o_done ?_)
        refine s_round ?_
        refine Se rfl (Oc rfl rfl rfl (o_done (s_seq ?_)))
        refine s_condF rfl (by first | rfl | decide | (simp; done) | omega) ?_
        refine s_exit rfl ?_
        refine Se rfl ?_
        refine o_lOS rfl .free rfl ?_
        refine o_st rfl rfl rfl rfl .free ?_
        refine o_done ?_
        refine s_mem (fun w h => h.f1) (s_freeze ?_)
        intro hz
        have hf := hf.mono hz
        refine s_ret (.c rfl .nil) ?_
        first
          | (have hput : (Ex.lt z a b).put nm v = .lt z (a.put nm v) (b.put nm v) := by
               have : ¬ z = nm := fun h => c3 (by simp [h])
               simp [Ex.put, this]
             rw [hput]
             exact ⟨_, L, hle.trans hz, drops, _, rfl, .mk' rfl (.cons (hf.as 0 (.node tLet []) (by omega) rfl) (.cons (hf.as 1 (.node z []) (by omega) rfl) (.cons (hr_0.mono hz) (.cons (hr_1.mono hz) .nil)))) (fun y hy => by cases hy; exact still_set (xs := [_, _, _, _, _, _, _, _])) (by simp) hcc (by simp [maxN]) (by simp [maxN]), rfl⟩)
          | (have hput : (Ex.lt z a b).put nm v = .lt z (a.put nm v) b := by
               have : nm = z := by simpa using c3
               simp [Ex.put, this]
             rw [hput]
             exact ⟨_, L, hle.trans hz, drops, _, rfl, .mk' rfl (.cons (hf.as 0 (.node tLet []) (by omega) rfl) (.cons (hf.as 1 (.node z []) (by omega) rfl) (.cons (hr_0.mono hz) (.cons (hf.as 3 b.tree (by omega) rfl) .nil)))) (fun y hy => by cases hy; exact still_set (xs := [_, _, _, _, _, _, _, _])) (by simp) hcc (by simp [maxN]) (by simp [maxN]), rfl⟩)
      intro c3
      try simp only [nb] at c3
      have c3 : nm ∈ [z] := c3
      refine s_skip (s_inBlock (o_enter rfl ?_))
      refine Or rfl rfl rfl ?_
      refine Om rfl (o_done ?_)
      refine s_round ?_
      refine Se rfl (Oc rfl rfl rfl (o_done (s_seq ?_)))
      refine s_condF rfl (by first | rfl | decide | (simp; done) | omega) ?_
      refine s_exit rfl ?_
      refine Se rfl ?_
      refine o_lOS rfl .free rfl ?_
      refine o_st rfl rfl rfl rfl .free ?_
      refine o_done ?_
      refine s_mem (fun w h => h.f1) (s_freeze ?_)
      intro hz
      have hf := hf.mono hz
      refine s_ret (.c rfl .nil) ?_
      first
        | (have hput : (Ex.lt z a b).put nm v = .lt z (a.put nm v) (b.put nm v) := by
             have : ¬ z = nm := fun h => c3 (by simp [h])
             simp [Ex.put, this]
           rw [hput]
           exact ⟨_, L, hle.trans hz, drops, _, rfl, .mk' rfl (.cons (hf.as 0 (.node tLet []) (by omega) rfl) (.cons (hf.as 1 (.node z []) (by omega) rfl) (.cons (hr_0.mono hz) (.cons (hr_1.mono hz) .nil)))) (fun y hy => by cases hy; exact still_set (xs := [_, _, _, _, _, _, _, _])) (by simp) hcc (by simp [maxN]) (by simp [maxN]), rfl⟩)
        | (have hput : (Ex.lt z a b).put nm v = .lt z (a.put nm v) b := by
             have : nm = z := by simpa using c3
             simp [Ex.put, this]
           rw [hput]
           exact ⟨_, L, hle.trans hz, drops, _, rfl, .mk' rfl (.cons (hf.as 0 (.node tLet []) (by omega) rfl) (.cons (hf.as 1 (.node z []) (by omega) rfl) (.cons (hr_0.mono hz) (.cons (hf.as 3 b.tree (by omega) rfl) .nil)))) (fun y hy => by cases hy; exact still_set (xs := [_, _, _, _, _, _, _, _])) (by simp) hcc (by simp [maxN]) (by simp [maxN]), rfl⟩)
    · skip
      have hlen : (Ex.fn g z s t b).tree.parts.length = 6 := rfl
      have hki := kids_fn g z s t b
      simp only [Ex.fn.sizeOf_spec] at hlt
      simp only [Ex.ok, Bool.and_eq_true] at hok
      obtain ⟨_, hrl⟩ : ∃ _ : True, RepL I (Ex.fn g z s t b).tree.parts _ := ⟨trivial, hcl⟩
      simp only [show (Ex.fn g z s t b).tree.parts = [.node tFun [], .node g [], .node z [], s.tree, t.tree, b.tree] from rfl, cellsF, List.cons_append, List.nil_append] at hrl ⊢
      refine o_enter rfl ?_
      refine o_lOS rfl .free rfl ?_
      refine o_call rfl .free rfl (f_form_kids hf.rep _) ?_
      rintro _ J _ e0 ⟨ok, ck, rfl, hk, rfl⟩
      have hf := hf.mono e0
      have hv := hv.mono e0
      have hle := e0
      rw [hki] at hk
      rw [hki]
      refine On rfl (Om rfl (o_done (s_block ?_)))
      refine s_loop ?_
      refine Se rfl (Oc rfl rfl rfl (o_done (s_seq ?_)))
      refine s_condT rfl (by first | rfl | decide | (simp; done) | omega) ?_
      refine s_skip (s_seq (s_block (Se rfl ?_)))
      first | refine o_ixD rfl rfl _ rfl .free rfl ?_ | refine o_ixP rfl rfl _ rfl .free rfl ?_
      refine o_lI1 rfl .free rfl ?_
      refine Oa rfl (o_done (Se rfl ?_))
      refine o_lOS rfl .free rfl ?_
      refine Om rfl ?_
      refine o_call rfl .free rfl (f_form_bound hf.rep hok0 _ _) ?_
      rintro _ J1 _ e1 ⟨o1, k1, rfl, hs1, rfl⟩
      refine Om rfl ?_
      refine o_call rfl .free rfl (f_slices_Contains (hs1.rd _) k1 nm) ?_
      rintro _ _ _ _ ⟨rfl, rfl, rfl⟩
      refine o_not rfl .free rfl ?_
      refine o_mem (fun w h => Mem.le e1 h) ?_
      refine o_done ?_
      refine s_cond rfl ?_ ?_
      · intro c3
        try simp only [nb] at c3
        have c3 : ¬ nm ∈ [g, z] := c3
        refine d_all 13 rfl rfl ?_
        refine Da 0 rfl (y_fieldAddr rfl) ?_
        refine Dt 1 [12] rfl (y_lO1 rfl) ?_
        refine Da 2 rfl (y_move rfl) ?_
        refine Da 3 rfl (y_fieldAddr rfl) ?_
        refine Dt 4 [12] rfl (y_lO1 rfl) ?_
        refine Da 5 rfl (y_move rfl) ?_
        first | refine Da 6 rfl (y_ixD rfl rfl _ rfl) ?_ | refine Da 6 rfl (y_ixP rfl rfl _ rfl) ?_
        refine Dt 7 [12] rfl (y_lIS rfl) ?_
        refine Da 8 rfl (y_move rfl) ?_
        refine Dt 9 [12] rfl (y_lOS rfl) ?_
        refine d_call 10 rfl (by kernel_rfl) rfl rfl .free rfl (ihn (by omega) (hf.as 5 b.tree (by omega) rfl) hok.2 nm hnm hv _) ?_
        rintro _ J2 _ e2 ⟨cs2, rfl, hr_0, rfl⟩
        obtain ⟨o2, k2, _, rfl, -⟩ := hr_0.open
        have hf := hf.mono e2
        have hv := hv.mono e2
        have hle := hle.trans e2
        have hk := hk.mono e2
        refine ⟨(.inr heldx), ?_⟩
        first | refine Da 11 rfl (y_ixD rfl rfl _ rfl) ?_ | refine Da 11 rfl (y_ixP rfl rfl _ rfl) ?_
        refine d_st 12 rfl (by kernel_rfl) rfl rfl rfl rfl rfl .free (.inl (by kernel_rfl)) ?_
        refine d_done (by kernel_rfl) ?_
        refine s_inBlock (o_enter rfl ?_)
        refine Or rfl rfl rfl ?_
        refine Om rfl (o_done ?_)
        refine s_round ?_
        refine Se rfl (Oc rfl rfl rfl (o_done (s_seq ?_)))
        refine s_condF rfl (by first | rfl | decide | (simp; done) | omega) ?_
        refine s_exit rfl ?_
        refine Se rfl ?_
        refine o_lOS rfl .free rfl ?_
        refine o_st rfl rfl rfl rfl .free ?_
        refine o_done ?_
        refine s_mem (fun w h => h.f1) (s_freeze ?_)
        intro hz
        have hf := hf.mono hz
        refine s_ret (.c rfl .nil) ?_
        first
          | (have hput : (Ex.fn g z s t b).put nm v = .fn g z s t (b.put nm v) := by
               have h1 : ¬ (g = nm ∨ z = nm) := by rintro (h | h) <;> exact c3 (by simp [h])
               simp only [Ex.put]; rw [if_neg h1]
             rw [hput]
             exact ⟨_, L, hle.trans hz, drops, _, rfl, .mk' rfl (.cons (hf.as 0 (.node tFun []) (by omega) rfl) (.cons (hf.as 1 (.node g []) (by omega) rfl) (.cons (hf.as 2 (.node z []) (by omega) rfl) (.cons (hf.as 3 (s.tree) (by omega) rfl) (.cons (hf.as 4 (t.tree) (by omega) rfl) (.cons (hr_0.mono hz) .nil)))))) (fun y hy => by cases hy; exact still_set (xs := [_, _, _, _, _, _, _, _, _, _, _, _])) (by simp) hcc (by simp [maxN]) (by simp [maxN]), rfl⟩)
          | (have hput : (Ex.fn g z s t b).put nm v = .fn g z s t b := by
               have h1 : g = nm ∨ z = nm := by simp at c3; rcases c3 with h | h <;> simp [h]
               simp only [Ex.put]; rw [if_pos h1]
             rw [hput]
             exact ⟨_, L, hle.trans hz, drops, _, rfl, .mk' rfl (.cons (hf.as 0 (.node tFun []) (by omega) rfl) (.cons (hf.as 1 (.node g []) (by omega) rfl) (.cons (hf.as 2 (.node z []) (by omega) rfl) (.cons (hf.as 3 (s.tree) (by omega) rfl) (.cons (hf.as 4 (t.tree) (by omega) rfl) (.cons (hf.as 5 b.tree (by omega) rfl) .nil)))))) (fun y hy => by cases hy; exact still_set (xs := [_, _, _, _, _, _, _, _, _, _, _, _])) (by simp) hcc (by simp [maxN]) (by simp [maxN]), rfl⟩)
      intro c3
      try simp only [nb] at c3
      have c3 : nm ∈ [g, z] := c3
      refine s_skip (s_inBlock (o_enter rfl ?_))
      refine Or rfl rfl rfl ?_
      refine Om rfl (o_done ?_)
      refine s_round ?_
      refine Se rfl (Oc rfl rfl rfl (o_done (s_seq ?_)))
      refine s_condF rfl (by first | rfl | decide | (simp; done) | omega) ?_
      refine s_exit rfl ?_
      refine Se rfl ?_
      refine o_lOS rfl .free rfl ?_
      refine o_st rfl rfl rfl rfl .free ?_
      refine o_done ?_
      refine s_mem (fun w h => h.f1) (s_freeze ?_)
      intro hz
      have hf := hf.mono hz
      refine s_ret (.c rfl .nil) ?_
      first
        | (have hput : (Ex.fn g z s t b).put nm v = .fn g z s t (b.put nm v) := by
             have h1 : ¬ (g = nm ∨ z = nm) := by rintro (h | h) <;> exact c3 (by simp [h])
             simp only [Ex.put]; rw [if_neg h1]
           rw [hput]
           exact ⟨_, L, hle.trans hz, drops, _, rfl, .mk' rfl (.cons (hf.as 0 (.node tFun []) (by omega) rfl) (.cons (hf.as 1 (.node g []) (by omega) rfl) (.cons (hf.as 2 (.node z []) (by omega) rfl) (.cons (hf.as 3 (s.tree) (by omega) rfl) (.cons (hf.as 4 (t.tree) (by omega) rfl) (.cons (hr_0.mono hz) .nil)))))) (fun y hy => by cases hy; exact still_set (xs := [_, _, _, _, _, _, _, _, _, _, _, _])) (by simp) hcc (by simp [maxN]) (by simp [maxN]), rfl⟩)
        | (have hput : (Ex.fn g z s t b).put nm v = .fn g z s t b := by
             have h1 : g = nm ∨ z = nm := by simp at c3; rcases c3 with h | h <;> simp [h]
             simp only [Ex.put]; rw [if_pos h1]
           rw [hput]
           exact ⟨_, L, hle.trans hz, drops, _, rfl, .mk' rfl (.cons (hf.as 0 (.node tFun []) (by omega) rfl) (.cons (hf.as 1 (.node g []) (by omega) rfl) (.cons (hf.as 2 (.node z []) (by omega) rfl) (.cons (hf.as 3 (s.tree) (by omega) rfl) (.cons (hf.as 4 (t.tree) (by omega) rfl) (.cons (hf.as 5 b.tree (by omega) rfl) .nil)))))) (fun y hy => by cases hy; exact still_set (xs := [_, _, _, _, _, _, _, _, _, _, _, _])) (by simp) hcc (by simp [maxN]) (by simp [maxN]), rfl⟩)
    · skip
      have hlen : (Ex.un o a).tree.parts.length = 2 := rfl
      have hki := kids_un o a
      simp only [Ex.un.sizeOf_spec] at hlt
      simp only [Ex.ok, Bool.and_eq_true] at hok
      obtain ⟨_, hrl⟩ : ∃ _ : True, RepL I (Ex.un o a).tree.parts _ := ⟨trivial, hcl⟩
      simp only [show (Ex.un o a).tree.parts = [.node o.txt [], a.tree] from rfl, cellsF, List.cons_append, List.nil_append] at hrl ⊢
      refine o_enter rfl ?_
      refine o_lOS rfl .free rfl ?_
      refine o_call rfl .free rfl (f_form_kids hf.rep _) ?_
      rintro _ J _ e0 ⟨ok, ck, rfl, hk, rfl⟩
      have hf := hf.mono e0
      have hv := hv.mono e0
      have hle := e0
      rw [hki] at hk
      rw [hki]
      refine On rfl (Om rfl (o_done (s_block ?_)))
      refine s_loop ?_
      refine Se rfl (Oc rfl rfl rfl (o_done (s_seq ?_)))
      refine s_condT rfl (by first | rfl | decide | (simp; done) | omega) ?_
      refine s_skip (s_seq (s_block (Se rfl ?_)))
      first | refine o_ixD rfl rfl _ rfl .free rfl ?_ | refine o_ixP rfl rfl _ rfl .free rfl ?_
      refine o_lI1 rfl .free rfl ?_
      refine Oa rfl (o_done (Se rfl ?_))
      refine o_lOS rfl .free rfl ?_
      refine Om rfl ?_
      refine o_call rfl .free rfl (f_form_bound hf.rep hok0 _ _) ?_
      rintro _ J1 _ e1 ⟨o1, k1, rfl, hs1, rfl⟩
      refine Om rfl ?_
      refine o_call rfl .free rfl (f_slices_Contains (hs1.rd _) k1 nm) ?_
      rintro _ _ _ _ ⟨rfl, rfl, rfl⟩
      refine o_not rfl .free rfl ?_
      refine o_mem (fun w h => Mem.le e1 h) ?_
      refine o_done ?_
      first | refine s_tp rfl (by simp [Ex.binds]) ?_ | refine s_tn rfl (by simp [Ex.binds]) ?_ | refine s_true (by simp [look, opd, *]) ?_
      refine d_all 13 rfl rfl ?_
      refine Da 0 rfl (y_fieldAddr rfl) ?_
      refine Dt 1 [12] rfl (y_lO1 rfl) ?_
      refine Da 2 rfl (y_move rfl) ?_
      refine Da 3 rfl (y_fieldAddr rfl) ?_
      refine Dt 4 [12] rfl (y_lO1 rfl) ?_
      refine Da 5 rfl (y_move rfl) ?_
      first | refine Da 6 rfl (y_ixD rfl rfl _ rfl) ?_ | refine Da 6 rfl (y_ixP rfl rfl _ rfl) ?_
      refine Dt 7 [12] rfl (y_lIS rfl) ?_
      refine Da 8 rfl (y_move rfl) ?_
      refine Dt 9 [12] rfl (y_lOS rfl) ?_
      refine d_call 10 rfl (by kernel_rfl) rfl rfl .free rfl (ihn (by omega) (hf.as 1 a.tree (by omega) rfl) hok nm hnm hv _) ?_
      rintro _ J2 _ e2 ⟨cs2, rfl, hr_0, rfl⟩
      obtain ⟨o2, k2, _, rfl, -⟩ := hr_0.open
      have hf := hf.mono e2
      have hv := hv.mono e2
      have hle := hle.trans e2
      have hk := hk.mono e2
      refine ⟨(.inr heldx), ?_⟩
      first | refine Da 11 rfl (y_ixD rfl rfl _ rfl) ?_ | refine Da 11 rfl (y_ixP rfl rfl _ rfl) ?_
      refine d_st 12 rfl (by kernel_rfl) rfl rfl rfl rfl rfl .free (.inl (by kernel_rfl)) ?_
      refine d_done (by kernel_rfl) ?_
      refine s_inBlock (o_enter rfl ?_)
      refine Or rfl rfl rfl ?_
      refine Om rfl (o_done ?_)
      refine s_round ?_
      refine Se rfl (Oc rfl rfl rfl (o_done (s_seq ?_)))
      refine s_condF rfl (by first | rfl | decide | (simp; done) | omega) ?_
      refine s_exit rfl ?_
      refine Se rfl ?_
      refine o_lOS rfl .free rfl ?_
      refine o_st rfl rfl rfl rfl .free ?_
      refine o_done ?_
      refine s_mem (fun w h => h.f1) (s_freeze ?_)
      intro hz
      have hf := hf.mono hz
      refine s_ret (.c rfl .nil) ?_
      exact ⟨_, L, hle.trans hz, drops, _, rfl, .mk' rfl (.cons (hf.as 0 (.node o.txt []) (by omega) rfl) (.cons (hr_0.mono hz) .nil)) (fun y hy => by cases hy; exact still_set (xs := [_, _, _, _])) (by simp) hcc (by simp [maxN]) (by simp [maxN]), rfl⟩

theorem g_l2Put : ∀ (n : Nat) {I : Heap} {e : Ex} {cs : List Value} (_ : SizeOf.sizeOf e < n) (_ : Rep I e.tree cs) (_ : e.ok = true) (nm : Txt) (_ : isName nm = true) {v : Ex} {ds : List Value} (_ : Rep I v.tree ds) (L : Own),
    Fun Tryz.prog 119 [.agg cs.toArray, .string (str nm), .agg ds.toArray] I L (RP (e.put nm v).tree L) := by
  intro n
  induction n with
  | zero => intro I e cs h; omega
  | succ n ihn =>
    intro I e cs hlt h hok nm hnm v ds hv L
    obtain ⟨oa, c, oaf, cf, rfl, hf, hcl, hcs⟩ := h.cells
    obtain ⟨ov, cv, _, rfl, -⟩ := hv.open
    have hle : HLe I I := .refl _
    refine fun_intro (by simp) ?_
    refine Se rfl ?_
    refine o_box rfl rfl .free rfl ?_
    intro b3
    refine o_box rfl rfl .free rfl ?_
    intro b5
    refine o_alloc .free rfl ?_
    intro b6
    refine o_done (s_seq (Se rfl (Oh rfl ?_)))
    refine o_lO1 rfl .free rfl ?_
    refine Od rfl rfl rfl (o_done ?_)
    refine s_cond rfl ?_ ?_
    · intro c0
      try simp only [nb] at c0
      have hb : e.bare = true := by
        cases hb : e.bare with
        | true => rfl
        | false => exact absurd ((Ex.atom_iff hok).2 hb) c0
      refine s_seq (Se rfl (Oh rfl ?_))
      refine o_lO1 rfl .free rfl ?_
      refine Om rfl (Od rfl rfl rfl (o_done ?_))
      refine s_cond rfl ?_ ?_
      · intro c1
        try simp only [nb] at c1
        refine Se rfl ?_
        refine o_lOS rfl .free rfl ?_
        refine o_st rfl rfl rfl rfl .free ?_
        refine o_done ?_
        refine s_ret (.c rfl .nil) ?_
        refine ⟨I, L, .refl _, drops, _, rfl, ?_, rfl⟩
        have : e.put nm v = v := by
          cases e with
          | num s =>
            have c1 : s = nm := c1
            subst c1
            have h2 := name_not_num hnm
            rw [show isNum s = true from hok] at h2; cases h2
          | name s => exact if_pos c1
          | _ => cases hb
        rw [this]; exact hv
      intro c1
      try simp only [nb] at c1
      refine s_skip (Se rfl ?_)
      refine o_lOS rfl .free rfl ?_
      refine o_st rfl rfl rfl rfl .free ?_
      refine o_done ?_
      refine s_ret (.c rfl .nil) ?_
      refine ⟨I, L, .refl _, drops, _, rfl, ?_, rfl⟩
      have : e.put nm v = e := by
        cases e with
        | num s => rfl
        | name s => exact if_neg c1
        | _ => cases hb
      rw [this]; exact hf.rep
    intro c0
    try simp only [nb] at c0
    have hb : e.bare = false := (Ex.atom_iff hok).1 (by simpa using c0)
    have hsh := e.shapes hb
    have hok0 := hok
    have hpos : 0 < e.tree.parts.length := by
      rw [Ex.bare_parts] at hb
      have : e.tree.parts ≠ [] := by intro hh; rw [hh] at hb; cases hb
      exact List.length_pos_iff.2 this
    have hhd := head_at hpos
    obtain ⟨xa, rfl⟩ : ∃ xa, oa = some xa := ⟨_, some_oad hf.nil hpos⟩
    have hp := hf.len
    unfold maxN at hp
    refine s_skip (Se rfl ?_)
    refine o_lits0 .free rfl ?_
    intro b20
    refine Oh rfl ?_
    refine o_lO1 rfl .free rfl ?_
    refine o_append (B := some (b20, [])) (xs := []) (ys := cellsF oaf cf 0 e.tree.parts) (m := 0) (c := 0) (by intro kk; simp) (by rfl) rfl rfl ⟨rfl, Nat.le_refl _, rfl⟩ (fun _ h => h) (by have := hcl.length; omega) (fun a ha => by cases ha; exact (hcs _ rfl).reads) (by simp) hcl.plain hpos (by decide) (by omega) (by decide) .free rfl ?_
    intro bc sp cc hB'
    have hcc : e.tree.parts.length ≤ cc := by have := hB'.2.1; omega
    refine o_put (t := 23) (v' := .slice (some ⟨bc, 0, none⟩) e.tree.parts.length cc) rfl (by rw [Nat.zero_add]) ?_
    simp only [List.nil_append]
    refine o_struct rfl rfl rfl .free rfl ?_
    refine o_alloc .free rfl ?_
    intro b7
    refine o_st rfl rfl rfl rfl .free ?_
    refine o_done (Se rfl (Oh rfl ?_))
    refine o_lO1 rfl .free rfl ?_
    first | refine o_ixD rfl rfl 0 rfl .free rfl ?_ | refine o_ixP rfl rfl 0 rfl .free rfl ?_
    refine o_fieldAddr' rfl .free rfl ?_
    refine o_lIF rfl .free rfl ?_
    refine o_call rfl .free rfl (g_l2Kids (e.tree.pt 0).atom _ _) ?_
    rw [← hhd]; rintro _ _ _ _ ⟨rfl, rfl, rfl⟩
    refine Om rfl (Oe rfl rfl (Oe rfl rfl (Oa rfl (Oa rfl (o_done (s_seq (s_seq ?_)))))))
    rcases hsh with ⟨o, a, b, rfl⟩ | ⟨a, b, d, rfl⟩ | ⟨z, a, b, rfl⟩ | ⟨g, z, s, t, b, rfl⟩ | ⟨o, a, rfl⟩
    · skip
      have hkr : kidRange (Ex.bin o a b).tree.head = (1, 3) := by cases o <;> rfl
      rw [hkr]
      have hlen : (Ex.bin o a b).tree.parts.length = 3 := rfl
      have hki := kids_bin o a b
      simp only [Ex.bin.sizeOf_spec] at hlt
      simp only [Ex.ok, Bool.and_eq_true] at hok
      simp only [show (Ex.bin o a b).tree.parts = [.node o.txt [], a.tree, b.tree] from rfl, cellsF, List.cons_append, List.nil_append]
      refine o_enter rfl (Om rfl (Oa rfl (o_done (s_block ?_))))
      refine s_loop ?_
      refine s_seq (Se rfl (Om rfl (Om rfl (Oc rfl rfl rfl (o_done ?_)))))
      refine s_condT rfl (by first | rfl | decide | (simp; done) | omega) ?_
      refine s_skip (s_seq (s_block (Se rfl ?_)))
      refine o_lOS rfl .free rfl ?_
      refine Om rfl ?_
      refine o_call rfl .free rfl (g_l2Binds hf.rep hok0 hb _ (by rw [hki]; decide) _) ?_
      rintro _ J1 _ e1 ⟨o1, k1, rfl, hs1, rfl⟩
      refine Om rfl ?_
      refine o_call rfl .free rfl (g_l1Has (hs1.rd _) k1 nm) ?_
      rintro _ _ _ _ ⟨rfl, rfl, rfl⟩
      refine o_not rfl .free rfl ?_
      refine o_mem (fun w h => Mem.le e1 h) ?_
      refine o_done ?_
      first | refine s_tp rfl (by simp [Ex.binds]) ?_ | refine s_tn rfl (by simp [Ex.binds]) ?_ | refine s_true (by simp [look, opd, *]) ?_
      refine d_all 13 rfl rfl ?_
      refine Da 0 rfl (y_fieldAddr rfl) ?_
      refine Dt 1 [12] rfl (y_lO1 rfl) ?_
      refine Da 2 rfl (y_move rfl) ?_
      refine Da 3 rfl (y_fieldAddr rfl) ?_
      refine Dt 4 [12] rfl (y_lO1 rfl) ?_
      refine Da 5 rfl (y_move rfl) ?_
      first | refine Da 6 rfl (y_ixD rfl rfl _ rfl) ?_ | refine Da 6 rfl (y_ixP rfl rfl _ rfl) ?_
      refine Dt 7 [12] rfl (y_lIS rfl) ?_
      refine Da 8 rfl (y_move rfl) ?_
      refine Dt 9 [12] rfl (y_lOS rfl) ?_
      refine d_call 10 rfl (by kernel_rfl) rfl rfl .free rfl (ihn (by omega) (hf.as 1 a.tree (by omega) rfl) hok.1 nm hnm hv _) ?_
      rintro _ J2 _ e2 ⟨cs2, rfl, hr_0, rfl⟩
      obtain ⟨o2, k2, _, rfl, -⟩ := hr_0.open
      have hf := hf.mono e2
      have hv := hv.mono e2
      have hle := hle.trans e2
      refine ⟨(.inr heldx), ?_⟩
      first | refine Da 11 rfl (y_ixD rfl rfl _ rfl) ?_ | refine Da 11 rfl (y_ixP rfl rfl _ rfl) ?_
      refine d_st 12 rfl (by kernel_rfl) rfl rfl rfl rfl rfl .free (.inl (by kernel_rfl)) ?_
      refine d_done (by kernel_rfl) ?_
      refine s_inBlock (o_enter rfl (Om rfl ?_))
      refine Or rfl rfl rfl ?_
      refine Oa rfl (o_done ?_)
      refine s_round ?_
      refine s_seq (Se rfl (Om rfl (Om rfl (Oc rfl rfl rfl (o_done ?_)))))
      refine s_condT rfl (by first | rfl | decide | (simp; done) | omega) ?_
      refine s_skip (s_seq (s_block (Se rfl ?_)))
      refine o_lOS rfl .free rfl ?_
      refine Om rfl ?_
      refine o_call rfl .free rfl (g_l2Binds hf.rep hok0 hb _ (by rw [hki]; decide) _) ?_
      rintro _ J1 _ e1 ⟨o1, k1, rfl, hs1, rfl⟩
      refine Om rfl ?_
      refine o_call rfl .free rfl (g_l1Has (hs1.rd _) k1 nm) ?_
      rintro _ _ _ _ ⟨rfl, rfl, rfl⟩
      refine o_not rfl .free rfl ?_
      refine o_mem (fun w h => Mem.le e1 h) ?_
      refine o_done ?_
      first | refine s_tp rfl (by simp [Ex.binds]) ?_ | refine s_tn rfl (by simp [Ex.binds]) ?_ | refine s_true (by simp [look, opd, *]) ?_
      refine d_all 13 rfl rfl ?_
      refine Da 0 rfl (y_fieldAddr rfl) ?_
      refine Dt 1 [12] rfl (y_lO1 rfl) ?_
      refine Da 2 rfl (y_move rfl) ?_
      refine Da 3 rfl (y_fieldAddr rfl) ?_
      refine Dt 4 [12] rfl (y_lO1 rfl) ?_
      refine Da 5 rfl (y_move rfl) ?_
      first | refine Da 6 rfl (y_ixD rfl rfl _ rfl) ?_ | refine Da 6 rfl (y_ixP rfl rfl _ rfl) ?_
      refine Dt 7 [12] rfl (y_lIS rfl) ?_
      refine Da 8 rfl (y_move rfl) ?_
      refine Dt 9 [12] rfl (y_lOS rfl) ?_
      refine d_call 10 rfl (by kernel_rfl) rfl rfl .free rfl (ihn (by omega) (hf.as 2 b.tree (by omega) rfl) hok.2 nm hnm hv _) ?_
      rintro _ J2 _ e2 ⟨cs2, rfl, hr_1, rfl⟩
      obtain ⟨o2, k2, _, rfl, -⟩ := hr_1.open
      have hf := hf.mono e2
      have hv := hv.mono e2
      have hle := hle.trans e2
      have hr_0 := hr_0.mono e2
      refine ⟨(.inr heldx), ?_⟩
      first | refine Da 11 rfl (y_ixD rfl rfl _ rfl) ?_ | refine Da 11 rfl (y_ixP rfl rfl _ rfl) ?_
      refine d_st 12 rfl (by kernel_rfl) rfl rfl rfl rfl rfl .free (.inl (by kernel_rfl)) ?_
      refine d_done (by kernel_rfl) ?_
      refine s_inBlock (o_enter rfl (Om rfl ?_))
      refine Or rfl rfl rfl ?_
      refine Oa rfl (o_done ?_)
      refine s_round ?_
      refine s_seq (Se rfl (Om rfl (Om rfl (Oc rfl rfl rfl (o_done ?_)))))
      refine s_condF rfl (by first | rfl | decide | (simp; done) | omega) ?_
      refine s_exit rfl ?_
      refine Se rfl ?_
      refine o_lOS rfl .free rfl ?_
      refine o_st rfl rfl rfl rfl .free ?_
      refine o_done ?_
      refine s_mem (fun w h => h.f1) (s_freeze ?_)
      intro hz
      have hf := hf.mono hz
      refine s_ret (.c rfl .nil) ?_
      exact ⟨_, L, hle.trans hz, drops, _, rfl, .mk' rfl (.cons (hf.as 0 (.node o.txt []) (by omega) rfl) (.cons (hr_0.mono hz) (.cons (hr_1.mono hz) .nil))) (fun y hy => by cases hy; exact still_set (xs := [_, _, _, _, _, _])) (by simp) hcc (by simp [maxN]) (by simp [maxN]), rfl⟩
    · skip
      have hkr : kidRange (Ex.ite a b d).tree.head = (1, 4) := rfl
      rw [hkr]
      have hlen : (Ex.ite a b d).tree.parts.length = 4 := rfl
      have hki := kids_ite a b d
      simp only [Ex.ite.sizeOf_spec] at hlt
      simp only [Ex.ok, Bool.and_eq_true] at hok
      simp only [show (Ex.ite a b d).tree.parts = [.node tIf [], a.tree, b.tree, d.tree] from rfl, cellsF, List.cons_append, List.nil_append]
      refine o_enter rfl (Om rfl (Oa rfl (o_done (s_block ?_))))
      refine s_loop ?_
      refine s_seq (Se rfl (Om rfl (Om rfl (Oc rfl rfl rfl (o_done ?_)))))
      refine s_condT rfl (by first | rfl | decide | (simp; done) | omega) ?_
      refine s_skip (s_seq (s_block (Se rfl ?_)))
      refine o_lOS rfl .free rfl ?_
      refine Om rfl ?_
      refine o_call rfl .free rfl (g_l2Binds hf.rep hok0 hb _ (by rw [hki]; decide) _) ?_
      rintro _ J1 _ e1 ⟨o1, k1, rfl, hs1, rfl⟩
      refine Om rfl ?_
      refine o_call rfl .free rfl (g_l1Has (hs1.rd _) k1 nm) ?_
      rintro _ _ _ _ ⟨rfl, rfl, rfl⟩
      refine o_not rfl .free rfl ?_
      refine o_mem (fun w h => Mem.le e1 h) ?_
      refine o_done ?_
      first | refine s_tp rfl (by simp [Ex.binds]) ?_ | refine s_tn rfl (by simp [Ex.binds]) ?_ | refine s_true (by simp [look, opd, *]) ?_
      refine d_all 13 rfl rfl ?_
      refine Da 0 rfl (y_fieldAddr rfl) ?_
      refine Dt 1 [12] rfl (y_lO1 rfl) ?_
      refine Da 2 rfl (y_move rfl) ?_
      refine Da 3 rfl (y_fieldAddr rfl) ?_
      refine Dt 4 [12] rfl (y_lO1 rfl) ?_
      refine Da 5 rfl (y_move rfl) ?_
      first | refine Da 6 rfl (y_ixD rfl rfl _ rfl) ?_ | refine Da 6 rfl (y_ixP rfl rfl _ rfl) ?_
      refine Dt 7 [12] rfl (y_lIS rfl) ?_
      refine Da 8 rfl (y_move rfl) ?_
      refine Dt 9 [12] rfl (y_lOS rfl) ?_
      refine d_call 10 rfl (by kernel_rfl) rfl rfl .free rfl (ihn (by omega) (hf.as 1 a.tree (by omega) rfl) hok.1.1 nm hnm hv _) ?_
      rintro _ J2 _ e2 ⟨cs2, rfl, hr_0, rfl⟩
      obtain ⟨o2, k2, _, rfl, -⟩ := hr_0.open
      have hf := hf.mono e2
      have hv := hv.mono e2
      have hle := hle.trans e2
      refine ⟨(.inr heldx), ?_⟩
      first | refine Da 11 rfl (y_ixD rfl rfl _ rfl) ?_ | refine Da 11 rfl (y_ixP rfl rfl _ rfl) ?_
      refine d_st 12 rfl (by kernel_rfl) rfl rfl rfl rfl rfl .free (.inl (by kernel_rfl)) ?_
      refine d_done (by kernel_rfl) ?_
      refine s_inBlock (o_enter rfl (Om rfl ?_))
      refine Or rfl rfl rfl ?_
      refine Oa rfl (o_done ?_)
      refine s_round ?_
      refine s_seq (Se rfl (Om rfl (Om rfl (Oc rfl rfl rfl (o_done ?_)))))
      refine s_condT rfl (by first | rfl | decide | (simp; done) | omega) ?_
      refine s_skip (s_seq (s_block (Se rfl ?_)))
      refine o_lOS rfl .free rfl ?_
      refine Om rfl ?_
      refine o_call rfl .free rfl (g_l2Binds hf.rep hok0 hb _ (by rw [hki]; decide) _) ?_
      rintro _ J1 _ e1 ⟨o1, k1, rfl, hs1, rfl⟩
      refine Om rfl ?_
      refine o_call rfl .free rfl (g_l1Has (hs1.rd _) k1 nm) ?_
      rintro _ _ _ _ ⟨rfl, rfl, rfl⟩
      refine o_not rfl .free rfl ?_
      refine o_mem (fun w h => Mem.le e1 h) ?_
      refine o_done ?_
      first | refine s_tp rfl (by simp [Ex.binds]) ?_ | refine s_tn rfl (by simp [Ex.binds]) ?_ | refine s_true (by simp [look, opd, *]) ?_
      refine d_all 13 rfl rfl ?_
      refine Da 0 rfl (y_fieldAddr rfl) ?_
      refine Dt 1 [12] rfl (y_lO1 rfl) ?_
      refine Da 2 rfl (y_move rfl) ?_
      refine Da 3 rfl (y_fieldAddr rfl) ?_
      refine Dt 4 [12] rfl (y_lO1 rfl) ?_
      refine Da 5 rfl (y_move rfl) ?_
      first | refine Da 6 rfl (y_ixD rfl rfl _ rfl) ?_ | refine Da 6 rfl (y_ixP rfl rfl _ rfl) ?_
      refine Dt 7 [12] rfl (y_lIS rfl) ?_
      refine Da 8 rfl (y_move rfl) ?_
      refine Dt 9 [12] rfl (y_lOS rfl) ?_
      refine d_call 10 rfl (by kernel_rfl) rfl rfl .free rfl (ihn (by omega) (hf.as 2 b.tree (by omega) rfl) hok.1.2 nm hnm hv _) ?_
      rintro _ J2 _ e2 ⟨cs2, rfl, hr_1, rfl⟩
      obtain ⟨o2, k2, _, rfl, -⟩ := hr_1.open
      have hf := hf.mono e2
      have hv := hv.mono e2
      have hle := hle.trans e2
      have hr_0 := hr_0.mono e2
      refine ⟨(.inr heldx), ?_⟩
      first | refine Da 11 rfl (y_ixD rfl rfl _ rfl) ?_ | refine Da 11 rfl (y_ixP rfl rfl _ rfl) ?_
      refine d_st 12 rfl (by kernel_rfl) rfl rfl rfl rfl rfl .free (.inl (by kernel_rfl)) ?_
      refine d_done (by kernel_rfl) ?_
      refine s_inBlock (o_enter rfl (Om rfl ?_))
      refine Or rfl rfl rfl ?_
      refine Oa rfl (o_done ?_)
      refine s_round ?_
      refine s_seq (Se rfl (Om rfl (Om rfl (Oc rfl rfl rfl (o_done ?_)))))
      refine s_condT rfl (by first | rfl | decide | (simp; done) | omega) ?_
      refine s_skip (s_seq (s_block (Se rfl ?_)))
      refine o_lOS rfl .free rfl ?_
      refine Om rfl ?_
      refine o_call rfl .free rfl (g_l2Binds hf.rep hok0 hb _ (by rw [hki]; decide) _) ?_
      rintro _ J1 _ e1 ⟨o1, k1, rfl, hs1, rfl⟩
      refine Om rfl ?_
      refine o_call rfl .free rfl (g_l1Has (hs1.rd _) k1 nm) ?_
      rintro _ _ _ _ ⟨rfl, rfl, rfl⟩
      refine o_not rfl .free rfl ?_
      refine o_mem (fun w h => Mem.le e1 h) ?_
      refine o_done ?_
      first | refine s_tp rfl (by simp [Ex.binds]) ?_ | refine s_tn rfl (by simp [Ex.binds]) ?_ | refine s_true (by simp [look, opd, *]) ?_
      refine d_all 13 rfl rfl ?_
      refine Da 0 rfl (y_fieldAddr rfl) ?_
      refine Dt 1 [12] rfl (y_lO1 rfl) ?_
      refine Da 2 rfl (y_move rfl) ?_
      refine Da 3 rfl (y_fieldAddr rfl) ?_
      refine Dt 4 [12] rfl (y_lO1 rfl) ?_
      refine Da 5 rfl (y_move rfl) ?_
      first | refine Da 6 rfl (y_ixD rfl rfl _ rfl) ?_ | refine Da 6 rfl (y_ixP rfl rfl _ rfl) ?_
      refine Dt 7 [12] rfl (y_lIS rfl) ?_
      refine Da 8 rfl (y_move rfl) ?_
      refine Dt 9 [12] rfl (y_lOS rfl) ?_
      refine d_call 10 rfl (by kernel_rfl) rfl rfl .free rfl (ihn (by omega) (hf.as 3 d.tree (by omega) rfl) hok.2 nm hnm hv _) ?_
      rintro _ J2 _ e2 ⟨cs2, rfl, hr_2, rfl⟩
      obtain ⟨o2, k2, _, rfl, -⟩ := hr_2.open
      have hf := hf.mono e2
      have hv := hv.mono e2
      have hle := hle.trans e2
      have hr_0 := hr_0.mono e2
      have hr_1 := hr_1.mono e2
      refine ⟨(.inr heldx), ?_⟩
      first | refine Da 11 rfl (y_ixD rfl rfl _ rfl) ?_ | refine Da 11 rfl (y_ixP rfl rfl _ rfl) ?_
      refine d_st 12 rfl (by kernel_rfl) rfl rfl rfl rfl rfl .free (.inl (by kernel_rfl)) ?_
      refine d_done (by kernel_rfl) ?_
      refine s_inBlock (o_enter rfl (Om rfl ?_))
      refine Or rfl rfl rfl ?_
      refine Oa rfl (o_done ?_)
      refine s_round ?_
      refine s_seq (Se rfl (Om rfl (Om rfl (Oc rfl rfl rfl (o_done ?_)))))
      refine s_condF rfl (by first | rfl | decide | (simp; done) | omega) ?_
      refine s_exit rfl ?_
      refine Se rfl ?_
      refine o_lOS rfl .free rfl ?_
      refine o_st rfl rfl rfl rfl .free ?_
      refine o_done ?_
      refine s_mem (fun w h => h.f1) (s_freeze ?_)
      intro hz
      have hf := hf.mono hz
      refine s_ret (.c rfl .nil) ?_
      exact ⟨_, L, hle.trans hz, drops, _, rfl, .mk' rfl (.cons (hf.as 0 (.node tIf []) (by omega) rfl) (.cons (hr_0.mono hz) (.cons (hr_1.mono hz) (.cons (hr_2.mono hz) .nil)))) (fun y hy => by cases hy; exact still_set (xs := [_, _, _, _, _, _, _, _])) (by simp) hcc (by simp [maxN]) (by simp [maxN]), rfl⟩
    · skip
      have hkr : kidRange (Ex.lt z a b).tree.head = (2, 4) := rfl
      rw [hkr]
      have hlen : (Ex.lt z a b).tree.parts.length = 4 := rfl
      have hki := kids_lt' z a b
      simp only [Ex.lt.sizeOf_spec] at hlt
      simp only [Ex.ok, Bool.and_eq_true] at hok
      simp only [show (Ex.lt z a b).tree.parts = [.node tLet [], .node z [], a.tree, b.tree] from rfl, cellsF, List.cons_append, List.nil_append]
      refine o_enter rfl (Om rfl (Oa rfl (o_done (s_block ?_))))
      refine s_loop ?_
      refine s_seq (Se rfl (Om rfl (Om rfl (Oc rfl rfl rfl (o_done ?_)))))
      refine s_condT rfl (by first | rfl | decide | (simp; done) | omega) ?_
      refine s_skip (s_seq (s_block (Se rfl ?_)))
      refine o_lOS rfl .free rfl ?_
      refine Om rfl ?_
      refine o_call rfl .free rfl (g_l2Binds hf.rep hok0 hb _ (by rw [hki]; decide) _) ?_
      rintro _ J1 _ e1 ⟨o1, k1, rfl, hs1, rfl⟩
      refine Om rfl ?_
      refine o_call rfl .free rfl (g_l1Has (hs1.rd _) k1 nm) ?_
      rintro _ _ _ _ ⟨rfl, rfl, rfl⟩
      refine o_not rfl .free rfl ?_
      refine o_mem (fun w h => Mem.le e1 h) ?_
      refine o_done ?_
      first | refine s_tp rfl (by simp [Ex.binds]) ?_ | refine s_tn rfl (by simp [Ex.binds]) ?_ | refine s_true (by simp [look, opd, *]) ?_
      refine d_all 13 rfl rfl ?_
      refine Da 0 rfl (y_fieldAddr rfl) ?_
      refine Dt 1 [12] rfl (y_lO1 rfl) ?_
      refine Da 2 rfl (y_move rfl) ?_
      refine Da 3 rfl (y_fieldAddr rfl) ?_
      refine Dt 4 [12] rfl (y_lO1 rfl) ?_
      refine Da 5 rfl (y_move rfl) ?_
      first | refine Da 6 rfl (y_ixD rfl rfl _ rfl) ?_ | refine Da 6 rfl (y_ixP rfl rfl _ rfl) ?_
      refine Dt 7 [12] rfl (y_lIS rfl) ?_
      refine Da 8 rfl (y_move rfl) ?_
      refine Dt 9 [12] rfl (y_lOS rfl) ?_
      refine d_call 10 rfl (by kernel_rfl) rfl rfl .free rfl (ihn (by omega) (hf.as 2 a.tree (by omega) rfl) hok.1.2 nm hnm hv _) ?_
      rintro _ J2 _ e2 ⟨cs2, rfl, hr_0, rfl⟩
      obtain ⟨o2, k2, _, rfl, -⟩ := hr_0.open
      have hf := hf.mono e2
      have hv := hv.mono e2
      have hle := hle.trans e2
      refine ⟨(.inr heldx), ?_⟩
      first | refine Da 11 rfl (y_ixD rfl rfl _ rfl) ?_ | refine Da 11 rfl (y_ixP rfl rfl _ rfl) ?_
      refine d_st 12 rfl (by kernel_rfl) rfl rfl rfl rfl rfl .free (.inl (by kernel_rfl)) ?_
      refine d_done (by kernel_rfl) ?_
      refine s_inBlock (o_enter rfl (Om rfl ?_))
      refine Or rfl rfl rfl ?_
      refine Oa rfl (o_done ?_)
      refine s_round ?_
      refine s_seq (Se rfl (Om rfl (Om rfl (Oc rfl rfl rfl (o_done ?_)))))
      refine s_condT rfl (by first | rfl | decide | (simp; done) | omega) ?_
      refine s_skip (s_seq (s_block (Se rfl ?_)))
      refine o_lOS rfl .free rfl ?_
      refine Om rfl ?_
      refine o_call rfl .free rfl (g_l2Binds hf.rep hok0 hb _ (by rw [hki]; decide) _) ?_
      rintro _ J1 _ e1 ⟨o1, k1, rfl, hs1, rfl⟩
      refine Om rfl ?_
      refine o_call rfl .free rfl (g_l1Has (hs1.rd _) k1 nm) ?_
      rintro _ _ _ _ ⟨rfl, rfl, rfl⟩
      refine o_not rfl .free rfl ?_
      refine o_mem (fun w h => Mem.le e1 h) ?_
      refine o_done ?_
      refine s_cond rfl ?_ ?_
      · intro c3
        try simp only [nb] at c3
        have c3 : ¬ nm ∈ [z] := c3
        refine d_all 13 rfl rfl ?_
        refine Da 0 rfl (y_fieldAddr rfl) ?_
        refine Dt 1 [12] rfl (y_lO1 rfl) ?_
        refine Da 2 rfl (y_move rfl) ?_
        refine Da 3 rfl (y_fieldAddr rfl) ?_
        refine Dt 4 [12] rfl (y_lO1 rfl) ?_
        refine Da 5 rfl (y_move rfl) ?_
        first | refine Da 6 rfl (y_ixD rfl rfl _ rfl) ?_ | refine Da 6 rfl (y_ixP rfl rfl _ rfl) ?_
        refine Dt 7 [12] rfl (y_lIS rfl) ?_
        refine Da 8 rfl (y_move rfl) ?_
        refine Dt 9 [12] rfl (y_lOS rfl) ?_
        refine d_call 10 rfl (by kernel_rfl) rfl rfl .free rfl (ihn (by omega) (hf.as 3 b.tree (by omega) rfl) hok.2 nm hnm hv _) ?_
        rintro _ J2 _ e2 ⟨cs2, rfl, hr_1, rfl⟩
        obtain ⟨o2, k2, _, rfl, -⟩ := hr_1.open
        have hf := hf.mono e2
        have hv := hv.mono e2
        have hle := hle.trans e2
        have hr_0 := hr_0.mono e2
        refine ⟨(.inr heldx), ?_⟩
        first | refine Da 11 rfl (y_ixD rfl rfl _ rfl) ?_ | refine Da 11 rfl (y_ixP rfl rfl _ rfl) ?_
        refine d_st 12 rfl (by kernel_rfl) rfl rfl rfl rfl rfl .free (.inl (by kernel_rfl)) ?_
        refine d_done (by kernel_rfl) ?_
        refine s_inBlock (o_enter rfl (Om rfl ?_))
        refine Or rfl rfl rfl ?_
        refine Oa rfl (o_done ?_)
        refine s_round ?_
        refine s_seq (Se rfl (Om rfl (Om rfl (Oc rfl rfl rfl (o_done ?_)))))
        refine s_condF rfl (by first | rfl | decide | (simp; done) | omega) ?_
        refine s_exit rfl ?_
        refine Se rfl ?_
        refine o_lOS rfl .free rfl ?_
        refine o_st rfl rfl rfl rfl .free ?_
        refine o_done ?_
        refine s_mem (fun w h => h.f1) (s_freeze ?_)
        intro hz
        have hf := hf.mono hz
        refine s_ret (.c rfl .nil) ?_
        first
          | (have hput : (Ex.lt z a b).put nm v = .lt z (a.put nm v) (b.put nm v) := by
               have : ¬ z = nm := fun h => c3 (by simp [h])
               simp [Ex.put, this]
             rw [hput]
             exact ⟨_, L, hle.trans hz, drops, _, rfl, .mk' rfl (.cons (hf.as 0 (.node tLet []) (by omega) rfl) (.cons (hf.as 1 (.node z []) (by omega) rfl) (.cons (hr_0.mono hz) (.cons (hr_1.mono hz) .nil)))) (fun y hy => by cases hy; exact still_set (xs := [_, _, _, _, _, _, _, _])) (by simp) hcc (by simp [maxN]) (by simp [maxN]), rfl⟩)
          | (have hput : (Ex.lt z a b).put nm v = .lt z (a.put nm v) b := by
               have : nm = z := by simpa using c3
               simp [Ex.put, this]
             rw [hput]
             exact ⟨_, L, hle.trans hz, drops, _, rfl, .mk' rfl (.cons (hf.as 0 (.node tLet []) (by omega) rfl) (.cons (hf.as 1 (.node z []) (by omega) rfl) (.cons (hr_0.mono hz) (.cons (hf.as 3 b.tree (by omega) rfl) .nil)))) (fun y hy => by cases hy; exact still_set (xs := [_, _, _, _, _, _, _, _])) (by simp) hcc (by simp [maxN]) (by simp [maxN]), rfl⟩)
      intro c3
      try simp only [nb] at c3
      have c3 : nm ∈ [z] := c3
      refine s_skip (s_inBlock (o_enter rfl (Om rfl ?_)))
      refine Or rfl rfl rfl ?_
      refine Oa rfl (o_done ?_)
      refine s_round ?_
      refine s_seq (Se rfl (Om rfl (Om rfl (Oc rfl rfl rfl (o_done ?_)))))
      refine s_condF rfl (by first | rfl | decide | (simp; done) | omega) ?_
      refine s_exit rfl ?_
      refine Se rfl ?_
      refine o_lOS rfl .free rfl ?_
      refine o_st rfl rfl rfl rfl .free ?_
      refine o_done ?_
      refine s_mem (fun w h => h.f1) (s_freeze ?_)
      intro hz
      have hf := hf.mono hz
      refine s_ret (.c rfl .nil) ?_
      first
        | (have hput : (Ex.lt z a b).put nm v = .lt z (a.put nm v) (b.put nm v) := by
             have : ¬ z = nm := fun h => c3 (by simp [h])
             simp [Ex.put, this]
           rw [hput]
           exact ⟨_, L, hle.trans hz, drops, _, rfl, .mk' rfl (.cons (hf.as 0 (.node tLet []) (by omega) rfl) (.cons (hf.as 1 (.node z []) (by omega) rfl) (.cons (hr_0.mono hz) (.cons (hr_1.mono hz) .nil)))) (fun y hy => by cases hy; exact still_set (xs := [_, _, _, _, _, _, _, _])) (by simp) hcc (by simp [maxN]) (by simp [maxN]), rfl⟩)
        | (have hput : (Ex.lt z a b).put nm v = .lt z (a.put nm v) b := by
             have : nm = z := by simpa using c3
             simp [Ex.put, this]
           rw [hput]
           exact ⟨_, L, hle.trans hz, drops, _, rfl, .mk' rfl (.cons (hf.as 0 (.node tLet []) (by omega) rfl) (.cons (hf.as 1 (.node z []) (by omega) rfl) (.cons (hr_0.mono hz) (.cons (hf.as 3 b.tree (by omega) rfl) .nil)))) (fun y hy => by cases hy; exact still_set (xs := [_, _, _, _, _, _, _, _])) (by simp) hcc (by simp [maxN]) (by simp [maxN]), rfl⟩)
    · skip
      have hkr : kidRange (Ex.fn g z s t b).tree.head = (5, 6) := rfl
      rw [hkr]
      have hlen : (Ex.fn g z s t b).tree.parts.length = 6 := rfl
      have hki := kids_fn g z s t b
      simp only [Ex.fn.sizeOf_spec] at hlt
      simp only [Ex.ok, Bool.and_eq_true] at hok
      simp only [show (Ex.fn g z s t b).tree.parts = [.node tFun [], .node g [], .node z [], s.tree, t.tree, b.tree] from rfl, cellsF, List.cons_append, List.nil_append]
      refine o_enter rfl (Om rfl (Oa rfl (o_done (s_block ?_))))
      refine s_loop ?_
      refine s_seq (Se rfl (Om rfl (Om rfl (Oc rfl rfl rfl (o_done ?_)))))
      refine s_condT rfl (by first | rfl | decide | (simp; done) | omega) ?_
      refine s_skip (s_seq (s_block (Se rfl ?_)))
      refine o_lOS rfl .free rfl ?_
      refine Om rfl ?_
      refine o_call rfl .free rfl (g_l2Binds hf.rep hok0 hb _ (by rw [hki]; decide) _) ?_
      rintro _ J1 _ e1 ⟨o1, k1, rfl, hs1, rfl⟩
      refine Om rfl ?_
      refine o_call rfl .free rfl (g_l1Has (hs1.rd _) k1 nm) ?_
      rintro _ _ _ _ ⟨rfl, rfl, rfl⟩
      refine o_not rfl .free rfl ?_
      refine o_mem (fun w h => Mem.le e1 h) ?_
      refine o_done ?_
      refine s_cond rfl ?_ ?_
      · intro c3
        try simp only [nb] at c3
        have c3 : ¬ nm ∈ [g, z] := c3
        refine d_all 13 rfl rfl ?_
        refine Da 0 rfl (y_fieldAddr rfl) ?_
        refine Dt 1 [12] rfl (y_lO1 rfl) ?_
        refine Da 2 rfl (y_move rfl) ?_
        refine Da 3 rfl (y_fieldAddr rfl) ?_
        refine Dt 4 [12] rfl (y_lO1 rfl) ?_
        refine Da 5 rfl (y_move rfl) ?_
        first | refine Da 6 rfl (y_ixD rfl rfl _ rfl) ?_ | refine Da 6 rfl (y_ixP rfl rfl _ rfl) ?_
        refine Dt 7 [12] rfl (y_lIS rfl) ?_
        refine Da 8 rfl (y_move rfl) ?_
        refine Dt 9 [12] rfl (y_lOS rfl) ?_
        refine d_call 10 rfl (by kernel_rfl) rfl rfl .free rfl (ihn (by omega) (hf.as 5 b.tree (by omega) rfl) hok.2 nm hnm hv _) ?_
        rintro _ J2 _ e2 ⟨cs2, rfl, hr_0, rfl⟩
        obtain ⟨o2, k2, _, rfl, -⟩ := hr_0.open
        have hf := hf.mono e2
        have hv := hv.mono e2
        have hle := hle.trans e2
        refine ⟨(.inr heldx), ?_⟩
        first | refine Da 11 rfl (y_ixD rfl rfl _ rfl) ?_ | refine Da 11 rfl (y_ixP rfl rfl _ rfl) ?_
        refine d_st 12 rfl (by kernel_rfl) rfl rfl rfl rfl rfl .free (.inl (by kernel_rfl)) ?_
        refine d_done (by kernel_rfl) ?_
        refine s_inBlock (o_enter rfl (Om rfl ?_))
        refine Or rfl rfl rfl ?_
        refine Oa rfl (o_done ?_)
        refine s_round ?_
        refine s_seq (Se rfl (Om rfl (Om rfl (Oc rfl rfl rfl (o_done ?_)))))
        refine s_condF rfl (by first | rfl | decide | (simp; done) | omega) ?_
        refine s_exit rfl ?_
        refine Se rfl ?_
        refine o_lOS rfl .free rfl ?_
        refine o_st rfl rfl rfl rfl .free ?_
        refine o_done ?_
        refine s_mem (fun w h => h.f1) (s_freeze ?_)
        intro hz
        have hf := hf.mono hz
        refine s_ret (.c rfl .nil) ?_
        first
          | (have hput : (Ex.fn g z s t b).put nm v = .fn g z s t (b.put nm v) := by
               have h1 : ¬ (g = nm ∨ z = nm) := by rintro (h | h) <;> exact c3 (by simp [h])
               simp only [Ex.put]; rw [if_neg h1]
             rw [hput]
             exact ⟨_, L, hle.trans hz, drops, _, rfl, .mk' rfl (.cons (hf.as 0 (.node tFun []) (by omega) rfl) (.cons (hf.as 1 (.node g []) (by omega) rfl) (.cons (hf.as 2 (.node z []) (by omega) rfl) (.cons (hf.as 3 (s.tree) (by omega) rfl) (.cons (hf.as 4 (t.tree) (by omega) rfl) (.cons (hr_0.mono hz) .nil)))))) (fun y hy => by cases hy; exact still_set (xs := [_, _, _, _, _, _, _, _, _, _, _, _])) (by simp) hcc (by simp [maxN]) (by simp [maxN]), rfl⟩)
          | (have hput : (Ex.fn g z s t b).put nm v = .fn g z s t b := by
               have h1 : g = nm ∨ z = nm := by simp at c3; rcases c3 with h | h <;> simp [h]
               simp only [Ex.put]; rw [if_pos h1]
             rw [hput]
             exact ⟨_, L, hle.trans hz, drops, _, rfl, .mk' rfl (.cons (hf.as 0 (.node tFun []) (by omega) rfl) (.cons (hf.as 1 (.node g []) (by omega) rfl) (.cons (hf.as 2 (.node z []) (by omega) rfl) (.cons (hf.as 3 (s.tree) (by omega) rfl) (.cons (hf.as 4 (t.tree) (by omega) rfl) (.cons (hf.as 5 b.tree (by omega) rfl) .nil)))))) (fun y hy => by cases hy; exact still_set (xs := [_, _, _, _, _, _, _, _, _, _, _, _])) (by simp) hcc (by simp [maxN]) (by simp [maxN]), rfl⟩)
      intro c3
      try simp only [nb] at c3
      have c3 : nm ∈ [g, z] := c3
      refine s_skip (s_inBlock (o_enter rfl (Om rfl ?_)))
      refine Or rfl rfl rfl ?_
      refine Oa rfl (o_done ?_)
      refine s_round ?_
      refine s_seq (Se rfl (Om rfl (Om rfl (Oc rfl rfl rfl (o_done ?_)))))
      refine s_condF rfl (by first | rfl | decide | (simp; done) | omega) ?_
      refine s_exit rfl ?_
      refine Se rfl ?_
      refine o_lOS rfl .free rfl ?_
      refine o_st rfl rfl rfl rfl .free ?_
      refine o_done ?_
      refine s_mem (fun w h => h.f1) (s_freeze ?_)
      intro hz
      have hf := hf.mono hz
      refine s_ret (.c rfl .nil) ?_
      first
        | (have hput : (Ex.fn g z s t b).put nm v = .fn g z s t (b.put nm v) := by
             have h1 : ¬ (g = nm ∨ z = nm) := by rintro (h | h) <;> exact c3 (by simp [h])
             simp only [Ex.put]; rw [if_neg h1]
           rw [hput]
           exact ⟨_, L, hle.trans hz, drops, _, rfl, .mk' rfl (.cons (hf.as 0 (.node tFun []) (by omega) rfl) (.cons (hf.as 1 (.node g []) (by omega) rfl) (.cons (hf.as 2 (.node z []) (by omega) rfl) (.cons (hf.as 3 (s.tree) (by omega) rfl) (.cons (hf.as 4 (t.tree) (by omega) rfl) (.cons (hr_0.mono hz) .nil)))))) (fun y hy => by cases hy; exact still_set (xs := [_, _, _, _, _, _, _, _, _, _, _, _])) (by simp) hcc (by simp [maxN]) (by simp [maxN]), rfl⟩)
        | (have hput : (Ex.fn g z s t b).put nm v = .fn g z s t b := by
             have h1 : g = nm ∨ z = nm := by simp at c3; rcases c3 with h | h <;> simp [h]
             simp only [Ex.put]; rw [if_pos h1]
           rw [hput]
           exact ⟨_, L, hle.trans hz, drops, _, rfl, .mk' rfl (.cons (hf.as 0 (.node tFun []) (by omega) rfl) (.cons (hf.as 1 (.node g []) (by omega) rfl) (.cons (hf.as 2 (.node z []) (by omega) rfl) (.cons (hf.as 3 (s.tree) (by omega) rfl) (.cons (hf.as 4 (t.tree) (by omega) rfl) (.cons (hf.as 5 b.tree (by omega) rfl) .nil)))))) (fun y hy => by cases hy; exact still_set (xs := [_, _, _, _, _, _, _, _, _, _, _, _])) (by simp) hcc (by simp [maxN]) (by simp [maxN]), rfl⟩)
    · skip
      have hkr : kidRange (Ex.un o a).tree.head = (1, 2) := by cases o <;> rfl
      rw [hkr]
      have hlen : (Ex.un o a).tree.parts.length = 2 := rfl
      have hki := kids_un o a
      simp only [Ex.un.sizeOf_spec] at hlt
      simp only [Ex.ok, Bool.and_eq_true] at hok
      simp only [show (Ex.un o a).tree.parts = [.node o.txt [], a.tree] from rfl, cellsF, List.cons_append, List.nil_append]
      refine o_enter rfl (Om rfl (Oa rfl (o_done (s_block ?_))))
      refine s_loop ?_
      refine s_seq (Se rfl (Om rfl (Om rfl (Oc rfl rfl rfl (o_done ?_)))))
      refine s_condT rfl (by first | rfl | decide | (simp; done) | omega) ?_
      refine s_skip (s_seq (s_block (Se rfl ?_)))
      refine o_lOS rfl .free rfl ?_
      refine Om rfl ?_
      refine o_call rfl .free rfl (g_l2Binds hf.rep hok0 hb _ (by rw [hki]; decide) _) ?_
      rintro _ J1 _ e1 ⟨o1, k1, rfl, hs1, rfl⟩
      refine Om rfl ?_
      refine o_call rfl .free rfl (g_l1Has (hs1.rd _) k1 nm) ?_
      rintro _ _ _ _ ⟨rfl, rfl, rfl⟩
      refine o_not rfl .free rfl ?_
      refine o_mem (fun w h => Mem.le e1 h) ?_
      refine o_done ?_
      first | refine s_tp rfl (by simp [Ex.binds]) ?_ | refine s_tn rfl (by simp [Ex.binds]) ?_ | refine s_true (by simp [look, opd, *]) ?_
      refine d_all 13 rfl rfl ?_
      refine Da 0 rfl (y_fieldAddr rfl) ?_
      refine Dt 1 [12] rfl (y_lO1 rfl) ?_
      refine Da 2 rfl (y_move rfl) ?_
      refine Da 3 rfl (y_fieldAddr rfl) ?_
      refine Dt 4 [12] rfl (y_lO1 rfl) ?_
      refine Da 5 rfl (y_move rfl) ?_
      first | refine Da 6 rfl (y_ixD rfl rfl _ rfl) ?_ | refine Da 6 rfl (y_ixP rfl rfl _ rfl) ?_
      refine Dt 7 [12] rfl (y_lIS rfl) ?_
      refine Da 8 rfl (y_move rfl) ?_
      refine Dt 9 [12] rfl (y_lOS rfl) ?_
      refine d_call 10 rfl (by kernel_rfl) rfl rfl .free rfl (ihn (by omega) (hf.as 1 a.tree (by omega) rfl) hok nm hnm hv _) ?_
      rintro _ J2 _ e2 ⟨cs2, rfl, hr_0, rfl⟩
      obtain ⟨o2, k2, _, rfl, -⟩ := hr_0.open
      have hf := hf.mono e2
      have hv := hv.mono e2
      have hle := hle.trans e2
      refine ⟨(.inr heldx), ?_⟩
      first | refine Da 11 rfl (y_ixD rfl rfl _ rfl) ?_ | refine Da 11 rfl (y_ixP rfl rfl _ rfl) ?_
      refine d_st 12 rfl (by kernel_rfl) rfl rfl rfl rfl rfl .free (.inl (by kernel_rfl)) ?_
      refine d_done (by kernel_rfl) ?_
      refine s_inBlock (o_enter rfl (Om rfl ?_))
      refine Or rfl rfl rfl ?_
      refine Oa rfl (o_done ?_)
      refine s_round ?_
      refine s_seq (Se rfl (Om rfl (Om rfl (Oc rfl rfl rfl (o_done ?_)))))
      refine s_condF rfl (by first | rfl | decide | (simp; done) | omega) ?_
      refine s_exit rfl ?_
      refine Se rfl ?_
      refine o_lOS rfl .free rfl ?_
      refine o_st rfl rfl rfl rfl .free ?_
      refine o_done ?_
      refine s_mem (fun w h => h.f1) (s_freeze ?_)
      intro hz
      have hf := hf.mono hz
      refine s_ret (.c rfl .nil) ?_
      exact ⟨_, L, hle.trans hz, drops, _, rfl, .mk' rfl (.cons (hf.as 0 (.node o.txt []) (by omega) rfl) (.cons (hr_0.mono hz) .nil)) (fun y hy => by cases hy; exact still_set (xs := [_, _, _, _])) (by simp) hcc (by simp [maxN]) (by simp [maxN]), rfl⟩
set_option maxRecDepth 100000
set_option linter.unusedVariables false
set_option linter.unusedSimpArgs false

/-- What 'ExprPut' returns. -/
def putOf (s nm by' : Txt) : Option Txt := match exOf s, closedOf by' with
 | some e, some v => if isName nm = true ∧ (e.put nm v).fine = true then some (e.put nm v).tree.text else none
 | _, _ => none
set_option maxRecDepth 100000
set_option linter.unusedVariables false
set_option linter.unusedSimpArgs false

def Ex.value : Ex → Bool
 | .num _ => true
 | .fn _ _ _ _ _ => true
 | .bin .pair a b => a.value && b.value
 | _ => false
def Ex.print : Ex → Tree
 | .bin .pair a b => .node [] [.node tPair [], a.print, b.print]
 | .fn _ _ _ _ _ => .node tFun []
 | e => e.tree
theorem Ex.is_pair {e : Ex} (h : e.tree.is tPair 3 = true) : ∃ a b, e = .bin .pair a b := by
 simp only [Tree.is, Bool.and_eq_true, decide_eq_true_eq] at h
 exact Ex.of_bin (o := .pair) h.2
theorem Ex.not_pair {e : Ex} (h : e.tree.is tPair 3 = false) : ∀ a b, e ≠ .bin .pair a b := by
 rintro a b rfl; simp [Tree.is, Ex.tree, Tree.parts, Tree.head, Tree.atom, B5.txt] at h
theorem Ex.value_other {e : Ex} (hok : e.ok = true) (h : ∀ a b, e ≠ .bin .pair a b) : e.value = (decide (e.tree.head = tFun) || (e.tree.parts.isEmpty && isNum e.tree.atom)) := by
 cases e with
 | num s => have h1 : isNum s = true := hok; simp [Ex.value, Ex.tree, Tree.parts, Tree.atom, h1]
 | name s =>
  have h1 := name_not_num (show isName s = true from hok)
  simp only [Ex.tree, Tree.parts, Tree.atom, h1]; rfl
 | bin o a b => cases o <;> first | exact absurd rfl (h a b) | rfl
 | ite a b c => rfl
 | lt x a b => rfl
 | fn f x s t b => rfl
 | un o a => cases o <;> rfl

theorem f_form_isValue : ∀ (n : Nat) {I : Heap} {e : Ex} {cs : List Value} (_ : SizeOf.sizeOf e < n) (_ : Rep I e.tree cs) (_ : e.ok = true) (L : Own), Fun Tryz.prog 43 [.agg cs.toArray] I L (Only (.bool e.value) I L) := by
 intro n
 induction n with
 | zero => intro I e cs h; omega
 | succ n ihn =>
  intro I e cs hlt h hok L
  obtain ⟨oa, c, oaf, cf, rfl, hf⟩ := h.at'
  have ha := hf.alen
  refine fun_intro (by simp) ?_
  refine Se rfl ?_
  refine o_box rfl rfl .free rfl ?_
  intro b1
  refine Oa rfl (o_done (s_seq (Se rfl ?_)))
  refine o_lOS rfl .free rfl ?_
  refine o_call rfl .free rfl (f_form_is hf.rep _ 3 _) ?_
  rintro _ _ _ _ ⟨rfl, rfl, rfl⟩
  refine o_done ?_
  refine s_cond rfl ?_ ?_
  ·intro c0
   try simp only [nb] at c0
   obtain ⟨a, b, rfl⟩ := Ex.is_pair c0
   simp only [Ex.ok, Bool.and_eq_true] at hok
   simp only [Ex.bin.sizeOf_spec] at hlt
   have hlen : (Ex.bin .pair a b).tree.parts.length = 3 := rfl
   refine Se rfl (Oh rfl ?_)
   refine o_lO1 rfl .free rfl ?_
   first | refine o_ixD rfl rfl 1 rfl .free rfl ?_ | refine o_ixP rfl rfl 1 rfl .free rfl ?_
   refine o_lIS rfl .free rfl ?_
   refine o_call rfl .free rfl (ihn (by omega) (hf.as 1 a.tree (by omega) rfl) hok.1 _) ?_
   rintro _ _ _ _ ⟨rfl, rfl, rfl⟩
   refine Om rfl ?_
   apply o_and 10 16 rfl
   ·intro g2_6 hk
    try simp only [nb] at g2_6
    refine o_fieldAddr rfl (.met rfl rfl) rfl ?_
    refine o_lO1 rfl (.met rfl rfl) rfl ?_
    first | refine o_ixD rfl rfl 2 rfl (.met rfl rfl) rfl ?_ | refine o_ixP rfl rfl 2 rfl (.met rfl rfl) rfl ?_
    refine o_lIS rfl (.met rfl rfl) rfl ?_
    refine o_call rfl (.met rfl rfl) rfl (ihn (by omega) (hf.as 2 b.tree (by omega) rfl) hok.2 _) ?_
    rintro _ _ _ _ ⟨rfl, rfl, rfl⟩
    refine Ot rfl rfl ?_
    exact o_fin 5 rfl rfl hk
   ·intro _ hk
    refine o_skips 5 rfl ?_
    refine Of rfl rfl ?_
    exact o_fin 5 rfl rfl hk
   refine Oa rfl (o_done (s_ret (.tmp rfl .nil) ?_))
   refine only rfl ?_
   rfl
  intro c0
  try simp only [nb] at c0
  refine s_skip (Se rfl ?_)
  refine o_lOS rfl .free rfl ?_
  refine o_call rfl .free rfl (f_form_head hf.rep _) ?_
  rintro _ _ _ _ ⟨rfl, rfl, rfl⟩
  refine Od rfl rfl rfl (Om rfl ?_)
  apply o_or 20 28 rfl
  ·intro g3_4 hk
   try simp only [nb] at g3_4
   refine o_lOS rfl (.met rfl rfl) rfl ?_
   refine o_call rfl (.met rfl rfl) rfl (f_form_isAtom hf.rep _) ?_
   rintro _ _ _ _ ⟨rfl, rfl, rfl⟩
   refine Ow rfl ?_
   apply o_and 23 27 rfl
   ·intro g3_7 hk
    try simp only [nb] at g3_7
    refine o_fieldAddr rfl (.met rfl rfl) rfl ?_
    refine o_lO1 rfl (.met rfl rfl) rfl ?_
    refine o_call rfl (.met rfl rfl) rfl (f_isNumeral e.tree.atom ha _ _) ?_
    rintro _ _ _ _ ⟨rfl, rfl, rfl⟩
    refine o_pick_true rfl rfl (.met rfl rfl) rfl ?_
    exact o_fin 3 rfl rfl hk
   ·intro _ hk
    refine o_skips 3 rfl ?_
    refine o_pick_false rfl rfl (.met rfl rfl) rfl ?_
    exact o_fin 3 rfl rfl hk
   refine Of rfl rfl ?_
   exact o_fin 4 rfl rfl hk
  ·intro _ hk
   refine o_skips 7 rfl ?_
   refine Ot rfl rfl ?_
   exact o_fin 7 rfl rfl hk
  refine Oa rfl (o_done (s_ret (.tmp rfl .nil) ?_))
  refine only rfl ?_
  rw [Ex.value_other hok (Ex.not_pair c0)]; rfl
theorem g_l4Is : ∀ (n : Nat) {I : Heap} {e : Ex} {cs : List Value} (_ : SizeOf.sizeOf e < n) (_ : Rep I e.tree cs) (_ : e.ok = true) (L : Own), Fun Tryz.prog 36 [.agg cs.toArray] I L (Only (.bool e.value) I L) := by
 intro n
 induction n with
 | zero => intro I e cs h; omega
 | succ n ihn =>
  intro I e cs hlt h hok L
  obtain ⟨oa, c, oaf, cf, rfl, hf⟩ := h.at'
  have ha := hf.alen
  refine fun_intro (by simp) ?_
  refine Se rfl ?_
  refine o_box rfl rfl .free rfl ?_
  intro b1
  refine Oa rfl (o_done (s_seq (Se rfl (Oh rfl ?_))))
  refine o_lO1 rfl .free rfl ?_
  refine Od rfl rfl rfl (o_done ?_)
  refine s_cond rfl ?_ ?_
  ·intro c0
   try simp only [nb] at c0
   refine Se rfl (Oh rfl ?_)
   refine o_lO1 rfl .free rfl ?_
   refine o_call rfl .free rfl (g_l2Name e.tree.atom ha _ _) ?_
   rintro _ _ _ _ ⟨rfl, rfl, rfl⟩
   refine o_not rfl .free rfl ?_
   refine Oa rfl (o_done (s_ret (.tmp rfl .nil) ?_))
   refine only rfl ?_
   have hb : e.bare = true := by
    cases hb : e.bare with
    | true => rfl
    | false => exact absurd ((Ex.atom_iff hok).2 hb) c0
   cases e with
   | num s =>
    have h2 : isName s = false := by
     cases h3 : isName s with
     | false => rfl
     | true => have h4 := name_not_num h3; rw [show isNum s = true from hok] at h4; cases h4
    simp [retOne, Ex.tree, Tree.atom, h2, Ex.value]
   | name s => simp [retOne, Ex.tree, Tree.atom, show isName s = true from hok, Ex.value]
   | _ => cases hb
  intro c0
  try simp only [nb] at c0
  obtain ⟨hne, h0⟩ := good_ne (Ex.tree_good hok).1 (by simpa using c0)
  have hhd := head_at h0
  refine s_skip (s_seq (Se rfl (Oh rfl ?_)))
  refine o_lO1 rfl .free rfl ?_
  first | refine o_ixD rfl rfl 0 rfl .free rfl ?_ | refine o_ixP rfl rfl 0 rfl .free rfl ?_
  refine o_fieldAddr' rfl .free rfl ?_
  refine o_lIF rfl .free rfl ?_
  refine Od rfl rfl rfl (o_done ?_)
  refine s_cond rfl ?_ ?_
  ·intro c1
   try simp only [nb] at c1
   obtain ⟨a, b, rfl⟩ := Ex.of_bin (o := .pair) (hhd.trans c1)
   simp only [Ex.ok, Bool.and_eq_true] at hok
   simp only [Ex.bin.sizeOf_spec] at hlt
   have hlen : (Ex.bin .pair a b).tree.parts.length = 3 := rfl
   refine Se rfl (Oh rfl ?_)
   refine o_lO1 rfl .free rfl ?_
   first | refine o_ixD rfl rfl 1 rfl .free rfl ?_ | refine o_ixP rfl rfl 1 rfl .free rfl ?_
   refine o_lIS rfl .free rfl ?_
   refine o_call rfl .free rfl (ihn (by omega) (hf.as 1 a.tree (by omega) rfl) hok.1 _) ?_
   rintro _ _ _ _ ⟨rfl, rfl, rfl⟩
   refine Om rfl ?_
   apply o_and 21 27 rfl
   ·intro g4_6 hk
    try simp only [nb] at g4_6
    refine o_fieldAddr rfl (.met rfl rfl) rfl ?_
    refine o_lO1 rfl (.met rfl rfl) rfl ?_
    first | refine o_ixD rfl rfl 2 rfl (.met rfl rfl) rfl ?_ | refine o_ixP rfl rfl 2 rfl (.met rfl rfl) rfl ?_
    refine o_lIS rfl (.met rfl rfl) rfl ?_
    refine o_call rfl (.met rfl rfl) rfl (ihn (by omega) (hf.as 2 b.tree (by omega) rfl) hok.2 _) ?_
    rintro _ _ _ _ ⟨rfl, rfl, rfl⟩
    refine Ot rfl rfl ?_
    exact o_fin 5 rfl rfl hk
   ·intro _ hk
    refine o_skips 5 rfl ?_
    refine Of rfl rfl ?_
    exact o_fin 5 rfl rfl hk
   refine Oa rfl (o_done (s_ret (.tmp rfl .nil) ?_))
   refine only rfl ?_
   rfl
  intro c1
  try simp only [nb] at c1
  refine s_skip (Se rfl (Oh rfl ?_))
  refine o_lO1 rfl .free rfl ?_
  first | refine o_ixD rfl rfl 0 rfl .free rfl ?_ | refine o_ixP rfl rfl 0 rfl .free rfl ?_
  refine o_fieldAddr' rfl .free rfl ?_
  refine o_lIF rfl .free rfl ?_
  refine Od rfl rfl rfl (Oa rfl (o_done (s_ret (.tmp rfl .nil) ?_)))
  refine only rfl ?_
  rw [Ex.value_other hok (by rintro a b rfl; exact c1 rfl), hhd]
  have : e.tree.parts.isEmpty = false := by cases hh : e.tree.parts with
   | nil => exact absurd hh hne
   | cons => rfl
  rw [this]; simp only [Bool.false_and, Bool.or_false]; rfl
/-- A value, if the text is one. -/
def valueOf (s : Txt) : Option Ex := match closedOf s with
 | some e => if e.value = true then some e else none
 | none => none
def printOf (s : Txt) : Option Txt := (valueOf s).map fun e => e.print.text
set_option maxRecDepth 100000
set_option linter.unusedVariables false
set_option linter.unusedSimpArgs false

theorem closed_nil {e : Ex} (h : e.closed = true) : e.occ [] = [] := by unfold Ex.closed at h; simpa using h
theorem closed_free {s : Txt} {e : Ex} (h : closedOf s = some e) : freeOf s = some [] := by
 obtain ⟨h1, h2, h3, h4, h5⟩ := closedOf_facts h
 unfold freeOf
 rw [h1]
 have : e.free = [] := by unfold Ex.free; rw [closed_nil h5]; rfl
 simp [this]
set_option maxRecDepth 100000
set_option linter.unusedVariables false
set_option linter.unusedSimpArgs false

def nul : Ex := .num [48]
theorem Ex.put0_occ : ∀ {e : Ex} {n x : Txt}, x ∈ (e.put n nul).occ [] ↔ x ∈ e.occ [] ∧ x ≠ n
 | .num s, n, x => by simp [Ex.put, Ex.occ]
 | .name s, n, x => by
  simp only [Ex.put]
  by_cases h : s = n
  ·subst h; simp [Ex.occ, nul]
  ·rw [if_neg h]
   simp only [Ex.occ, List.not_mem_nil, if_false, List.mem_singleton]
   constructor
   ·rintro rfl; exact ⟨rfl, h⟩
   ·exact fun hh => hh.1
 | .bin o a b, n, x => by
  simp only [Ex.put, Ex.occ, List.mem_append, Ex.put0_occ (e := a), Ex.put0_occ (e := b)]
  constructor
  ·rintro (⟨h1, h2⟩ | ⟨h1, h2⟩)
   ·exact ⟨.inl h1, h2⟩
   ·exact ⟨.inr h1, h2⟩
  ·rintro ⟨h1 | h1, h2⟩
   ·exact .inl ⟨h1, h2⟩
   ·exact .inr ⟨h1, h2⟩
 | .ite a b c, n, x => by
  simp only [Ex.put, Ex.occ, List.mem_append, Ex.put0_occ (e := a), Ex.put0_occ (e := b), Ex.put0_occ (e := c)]
  constructor
  ·rintro ((⟨h1, h2⟩ | ⟨h1, h2⟩) | ⟨h1, h2⟩)
   ·exact ⟨.inl (.inl h1), h2⟩
   ·exact ⟨.inl (.inr h1), h2⟩
   ·exact ⟨.inr h1, h2⟩
  ·rintro ⟨(h1 | h1) | h1, h2⟩
   ·exact .inl (.inl ⟨h1, h2⟩)
   ·exact .inl (.inr ⟨h1, h2⟩)
   ·exact .inr ⟨h1, h2⟩
 | .lt y a b, n, x => by
  simp only [Ex.put, Ex.occ, List.mem_append, List.nil_append, Ex.put0_occ (e := a)]
  rw [Ex.occ_mem (bd := [y]), Ex.occ_mem (e := b) (bd := [y])]
  simp only [List.mem_singleton]
  by_cases h : y = n
  ·subst h; rw [if_pos rfl]
   constructor
   ·rintro (⟨h1, h2⟩ | ⟨h1, h2⟩)
    ·exact ⟨.inl h1, h2⟩
    ·exact ⟨.inr ⟨h1, h2⟩, h2⟩
   ·rintro ⟨h1 | h1, h2⟩
    ·exact .inl ⟨h1, h2⟩
    ·exact .inr h1
  ·rw [if_neg h, Ex.put0_occ (e := b)]
   constructor
   ·rintro (⟨h1, h2⟩ | ⟨⟨h1, h3⟩, h2⟩)
    ·exact ⟨.inl h1, h2⟩
    ·exact ⟨.inr ⟨h1, h2⟩, h3⟩
   ·rintro ⟨h1 | ⟨h1, h3⟩, h2⟩
    ·exact .inl ⟨h1, h2⟩
    ·exact .inr ⟨⟨h1, h2⟩, h3⟩
 | .fn f y s t b, n, x => by
  simp only [Ex.put, Ex.occ, List.nil_append]
  rw [Ex.occ_mem (bd := [f, y]), Ex.occ_mem (e := b) (bd := [f, y])]
  simp only [List.mem_cons, List.not_mem_nil, or_false, not_or]
  by_cases h : f = n ∨ y = n
  ·rw [if_pos h]
   constructor
   ·rintro ⟨h1, h2, h3⟩
    refine ⟨⟨h1, h2, h3⟩, ?_⟩
    rcases h with rfl | rfl
    ·exact h2
    ·exact h3
   ·exact fun hh => hh.1
  ·rw [if_neg h, Ex.put0_occ (e := b)]
   constructor
   ·rintro ⟨⟨h1, h4⟩, h2⟩; exact ⟨⟨h1, h2⟩, h4⟩
   ·rintro ⟨⟨h1, h2⟩, h4⟩; exact ⟨⟨h1, h4⟩, h2⟩
 | .un o a, n, x => by
  simp only [Ex.put, Ex.occ, Ex.put0_occ (e := a)]
/-- Nought put for each of these names. -/
def Ex.puts (e : Ex) (l : List Txt) : Ex := l.foldl (fun e n => e.put n nul) e
/-- How often a name stands free. -/
def countOf (s n : Txt) : Int := match exOf s with
 | some e => if isName n = true then (((e.occ []).count n : Nat) : Int) else -1
 | none => -1
set_option maxRecDepth 100000
set_option linter.unusedVariables false
set_option linter.unusedSimpArgs false

theorem Ex.putSize : ∀ (e : Ex) (n : Txt) (v : Ex), (e.put n v).size + e.count n = e.size + e.count n * v.size
 | .num s, n, v => by simp [Ex.put, Ex.count]
 | .name s, n, v => by
  simp only [Ex.put, Ex.count]
  by_cases h : s = n
  ·rw [if_pos h, if_pos h]; simp only [Ex.size]; omega
  ·rw [if_neg h, if_neg h]; simp
 | .bin o a b, n, v => by have := a.putSize n v; have := b.putSize n v; simp only [Ex.put, Ex.size, Ex.count, Nat.add_mul]; omega
 | .ite a b c, n, v => by have := a.putSize n v; have := b.putSize n v; have := c.putSize n v; simp only [Ex.put, Ex.size, Ex.count, Nat.add_mul]; omega
 | .lt x a b, n, v => by
  have := a.putSize n v; have := b.putSize n v
  simp only [Ex.put, Ex.size, Ex.count]
  by_cases h : x = n
  ·rw [if_pos h, if_pos h]; simp only [Nat.add_zero]; omega
  ·rw [if_neg h, if_neg h]; simp only [Nat.add_mul]; omega
 | .fn f x s t b, n, v => by
  have := b.putSize n v
  simp only [Ex.put, Ex.size, Ex.count]
  by_cases h : f = n ∨ x = n
  ·rw [if_pos h, if_pos h]; simp
  ·rw [if_neg h, if_neg h]; omega
 | .un o a, n, v => by have := a.putSize n v; simp only [Ex.put, Ex.size, Ex.count]; omega
theorem occ_nil {v : Ex} (h : v.occ [] = []) (bd : List Txt) : v.occ bd = [] := by rw [Ex.occ_filter, h]; rfl
theorem Ex.put_occ0 {n : Txt} {v : Ex} (hv : v.occ [] = []) : ∀ (e : Ex) (bd : List Txt), (e.put n v).occ bd = (e.put n nul).occ bd
 | .num s, bd => rfl
 | .name s, bd => by
  simp only [Ex.put]
  by_cases h : s = n
  ·rw [if_pos h, if_pos h, occ_nil hv]; rfl
  ·rw [if_neg h, if_neg h]
 | .bin o a b, bd => by simp only [Ex.put, Ex.occ, Ex.put_occ0 hv a, Ex.put_occ0 hv b]
 | .ite a b c, bd => by simp only [Ex.put, Ex.occ, Ex.put_occ0 hv a, Ex.put_occ0 hv b, Ex.put_occ0 hv c]
 | .lt x a b, bd => by simp only [Ex.put, Ex.occ, Ex.put_occ0 hv a]; split <;> simp only [Ex.put_occ0 hv b]
 | .fn f x s t b, bd => by simp only [Ex.put, Ex.occ]; split <;> simp only [Ex.put_occ0 hv b]
 | .un o a, bd => by simp only [Ex.put, Ex.occ, Ex.put_occ0 hv a]
theorem Ex.put_occ {n x : Txt} {v e : Ex} (hv : v.occ [] = []) : x ∈ (e.put n v).occ [] ↔ x ∈ e.occ [] ∧ x ≠ n := by rw [Ex.put_occ0 hv e, Ex.put0_occ]
/-- What 'ExprAlike' answers. -/
def alikeOf (a b : Txt) : Bool := match exOf a, exOf b with
 | some e, some f => e.alk f [] []
 | _, _ => false
set_option maxRecDepth 100000
set_option linter.unusedVariables false
set_option linter.unusedSimpArgs false

/-- The number of the same rest from -500 on. -/
def shortN (n : Int) : Int := (n + 500) % 1000 - 500
theorem shortN_go (n : Int) : ((n + 500).tmod 1000 + 1000).tmod 1000 - 500 = shortN n := by
 unfold shortN
 rw [Int.tmod_eq_emod_of_nonneg (a := (n + 500).tmod 1000 + 1000) (by have := Int.lt_tmod_of_pos (n + 500) (b := 1000) (by decide); omega)]
 rw [Int.tmod_eq_emod]
 split <;> omega
theorem shortN_in (n : Int) : -500 ≤ shortN n ∧ shortN n ≤ 499 := by unfold shortN; omega
def B5.calc (o : B5) (x y : Int) : Int := match o with
 | .add => x + y
 | .sub => x - y
 | _ => x * y
def B5.nums : B5 → Bool
 | .call => false
 | .pair => false
 | _ => true
def reck (o : B5) (a b : Txt) : Txt := intT (shortN (o.calc (numVal a) (numVal b)))
theorem short_texts : ∀ k : Nat, k < 1000 → isNum (intT ((k : Int) - 500)) = true ∧ numVal (intT ((k : Int) - 500)) = (k : Int) - 500 := by decide +kernel
theorem intT_num {n : Int} (h0 : -500 ≤ n) (h1 : n ≤ 499) : isNum (intT n) = true ∧ numVal (intT n) = n := by
 have := short_texts (n + 500).toNat (by omega)
 rw [show ((n + 500).toNat : Int) - 500 = n by omega] at this
 exact this
theorem reck_num (o : B5) (a b : Txt) : isNum (reck o a b) = true ∧ numVal (reck o a b) = shortN (o.calc (numVal a) (numVal b)) := intT_num (shortN_in _).1 (shortN_in _).2
theorem digits_lt : ∀ (l : Txt), l.all digit = true → digitsVal l < 10 ^ l.length := by
 have key : ∀ (l : Txt) (a : Nat), l.all digit = true → l.foldl (fun n b => 10 * n + (b.toNat - 48)) a < (a + 1) * 10 ^ l.length := by
  intro l
  induction l with
  | nil => intro a _; simp
  | cons b r ih =>
   intro a h
   simp only [List.all_cons, Bool.and_eq_true] at h
   have hb : b.toNat - 48 ≤ 9 := by have := h.1; simp [digit] at this; omega
   refine Nat.lt_of_lt_of_le (ih _ h.2) ?_
   rw [List.length_cons, Nat.pow_succ]
   calc (10 * a + (b.toNat - 48) + 1) * 10 ^ r.length ≤ ((a + 1) * 10) * 10 ^ r.length := Nat.mul_le_mul_right _ (by omega)
    _ = (a + 1) * (10 ^ r.length * 10) := by rw [Nat.mul_assoc, Nat.mul_comm 10]
 intro l h
 have := key l 0 h
 simpa [digitsVal] using this
theorem numVal_in {s : Txt} (h : isNum s = true) : -999 ≤ numVal s ∧ numVal s ≤ 999 := by
 unfold numVal
 split
 ·omega
 ·rename_i h0
  simp only [isNum, h0, decide_false, Bool.false_or, Bool.and_eq_true, decide_eq_true_eq] at h
  have h1 := digits_lt (unsign s) h.1.2
  have h2 : 10 ^ (unsign s).length ≤ 10 ^ 3 := Nat.pow_le_pow_right (by decide) h.1.1.2
  split <;> omega
theorem numVal_zero {s : Txt} (h : isNum s = true) : numVal s = 0 ↔ s = [48] := by
 unfold numVal
 split
 ·rename_i h0; simp [h0]
 ·rename_i h0
  simp only [h0, iff_false]
  simp only [isNum, h0, decide_false, Bool.false_or, Bool.and_eq_true, decide_eq_true_eq, Bool.not_eq_true', decide_eq_false_iff_not] at h
  have h1 : 1 ≤ digitsVal (unsign s) := by
   cases hu : unsign s with
   | nil => rw [hu] at h; simp at h
   | cons b r =>
    rw [hu] at h
    have hb : 49 ≤ b.toNat := by
     have h3 := h.1.2
     have h4 := h.2
     simp [digit] at h3 h4
     omega
    have hm : ∀ (r : Txt) (a : Nat), 1 ≤ a → 1 ≤ r.foldl (fun n b => 10 * n + (b.toNat - 48)) a := by
     intro r
     induction r with
     | nil => intro a ha; exact ha
     | cons c r ih => intro a ha; exact ih (10 * a + (c.toNat - 48)) (by omega)
    exact hm r (10 * 0 + (b.toNat - 48)) (by omega)
  split <;> omega
/-- The step of an expression whose evaluated parts are values. -/
def Ex.turn : Ex → Option Ex
 | .bin .call (.fn f x s t b) v => some ((b.put f (.fn f x s t b)).put x v)
 | .bin o (.num a) (.num b) => if o.nums = true then some (.num (reck o a b)) else none
 | .ite (.num a) b c => some (if a = [48] then b else c)
 | .lt x a b => some (b.put x a)
 | .un .fst (.bin .pair a b) => some a
 | .un .snd (.bin .pair a b) => some b
 | _ => none
def Ex.step : Ex → Option Ex
 | .bin o a b => if a.value = false then a.step.map fun c => .bin o c b else if b.value = false then b.step.map fun c => .bin o a c else (Ex.bin o a b).turn
 | .ite a b c => if a.value = false then a.step.map fun d => .ite d b c else (Ex.ite a b c).turn
 | .lt x a b => if a.value = false then a.step.map fun d => .lt x d b else (Ex.lt x a b).turn
 | .un o a => if a.value = false then a.step.map fun d => .un o d else (Ex.un o a).turn
 | _ => none
theorem turn_bin {o : B5} {a b e' : Ex} (h : (Ex.bin o a b).turn = some e') : (∃ f x s t c, o = .call ∧ a = .fn f x s t c ∧ e' = (c.put f (.fn f x s t c)).put x b) ∨ (∃ p q, o.nums = true ∧ a = .num p ∧ b = .num q ∧ e' = .num (reck o p q)) := by
 cases a with
 | fn f x s t c =>
  cases o <;> first
   | (exact .inl ⟨f, x, s, t, c, rfl, rfl, (Option.some.inj h).symm⟩)
   | (cases b <;> cases h)
 | num p =>
  cases b with
  | num q =>
   have h : (if o.nums = true then some (Ex.num (reck o p q)) else none) = some e' := by cases o <;> exact h
   split at h
   ·rename_i ho; exact .inr ⟨p, q, ho, rfl, rfl, (Option.some.inj h).symm⟩
   ·cases h
  | _ => cases o <;> cases h
 | _ => cases o <;> first | cases h | (cases b <;> cases h)
theorem turn_ite {a b c e' : Ex} (h : (Ex.ite a b c).turn = some e') : ∃ p, a = .num p ∧ e' = if p = [48] then b else c := by
 cases a <;> first | exact ⟨_, rfl, (Option.some.inj h).symm⟩ | cases h
def U2.pick (o : U2) (p q : Ex) : Ex := match o with
 | .fst => p
 | .snd => q
theorem turn_un {o : U2} {a e' : Ex} (h : (Ex.un o a).turn = some e') : ∃ p q, a = .bin .pair p q ∧ e' = o.pick p q := by
 cases a with
 | bin k p q => cases k <;> cases o <;> first | exact ⟨p, q, rfl, (Option.some.inj h).symm⟩ | cases h
 | _ => cases o <;> cases h
theorem Ex.step_ok : ∀ {e e' : Ex}, e.ok = true → e.step = some e' → e'.ok = true
 | .num _, e', h, hs => by cases hs
 | .name _, e', h, hs => by cases hs
 | .fn _ _ _ _ _, e', h, hs => by cases hs
 | .bin o a b, e', h, hs => by
  simp only [Ex.ok, Bool.and_eq_true] at h
  simp only [Ex.step] at hs
  split at hs
  ·obtain ⟨c, hc, rfl⟩ := Option.map_eq_some_iff.1 hs
   simp only [Ex.ok, Bool.and_eq_true]; exact ⟨Ex.step_ok h.1 hc, h.2⟩
  ·split at hs
   ·obtain ⟨c, hc, rfl⟩ := Option.map_eq_some_iff.1 hs
    simp only [Ex.ok, Bool.and_eq_true]; exact ⟨h.1, Ex.step_ok h.2 hc⟩
   ·rcases turn_bin hs with ⟨f, x, s, t, c, rfl, rfl, rfl⟩ | ⟨p, q, ho, rfl, rfl, rfl⟩
    ·have hc : c.ok = true := by have := h.1; simp only [Ex.ok, Bool.and_eq_true] at this; exact this.2
     exact Ex.put_ok (Ex.put_ok hc h.1) h.2
    ·exact (reck_num o p q).1
 | .ite a b c, e', h, hs => by
  simp only [Ex.ok, Bool.and_eq_true] at h
  simp only [Ex.step] at hs
  split at hs
  ·obtain ⟨d, hd, rfl⟩ := Option.map_eq_some_iff.1 hs
   simp only [Ex.ok, Bool.and_eq_true]; exact ⟨⟨Ex.step_ok h.1.1 hd, h.1.2⟩, h.2⟩
  ·obtain ⟨p, rfl, rfl⟩ := turn_ite hs
   split
   ·exact h.1.2
   ·exact h.2
 | .lt x a b, e', h, hs => by
  simp only [Ex.ok, Bool.and_eq_true] at h
  simp only [Ex.step] at hs
  split at hs
  ·obtain ⟨d, hd, rfl⟩ := Option.map_eq_some_iff.1 hs
   simp only [Ex.ok, Bool.and_eq_true]; exact ⟨⟨h.1.1, Ex.step_ok h.1.2 hd⟩, h.2⟩
  ·obtain rfl := (Option.some.inj hs).symm
   exact Ex.put_ok h.2 h.1.2
 | .un o a, e', h, hs => by
  have h1 : a.ok = true := h
  simp only [Ex.step] at hs
  split at hs
  ·obtain ⟨d, hd, rfl⟩ := Option.map_eq_some_iff.1 hs
   show d.ok = true
   exact Ex.step_ok h1 hd
  ·obtain ⟨p, q, rfl, rfl⟩ := turn_un hs
   simp only [Ex.ok, Bool.and_eq_true] at h1
   cases o
   ·exact h1.1
   ·exact h1.2
theorem closed_app {a b : List Txt} (h : a ++ b = []) : a = [] ∧ b = [] := List.append_eq_nil_iff.1 h
theorem occ_none {e : Ex} {bd : List Txt} : e.occ bd = [] ↔ ∀ x ∈ e.occ [], x ∈ bd := by
 rw [Ex.occ_filter, List.filter_eq_nil_iff]
 constructor
 ·intro h x hx; have := h x hx; simpa using this
 ·intro h x hx; simpa using h x hx
theorem Ex.step_closed : ∀ {e e' : Ex}, e.occ [] = [] → e.step = some e' → e'.occ [] = []
 | .num _, e', h, hs => by cases hs
 | .name _, e', h, hs => by cases hs
 | .fn _ _ _ _ _, e', h, hs => by cases hs
 | .bin o a b, e', h, hs => by
  obtain ⟨h1, h2⟩ := closed_app (show a.occ [] ++ b.occ [] = [] from h)
  simp only [Ex.step] at hs
  split at hs
  ·obtain ⟨c, hc, rfl⟩ := Option.map_eq_some_iff.1 hs
   simp only [Ex.occ, Ex.step_closed h1 hc, h2, List.append_nil]
  ·split at hs
   ·obtain ⟨c, hc, rfl⟩ := Option.map_eq_some_iff.1 hs
    simp only [Ex.occ, Ex.step_closed h2 hc, h1, List.append_nil]
   ·rcases turn_bin hs with ⟨f, x, s, t, c, rfl, rfl, rfl⟩ | ⟨p, q, ho, rfl, rfl, rfl⟩
    ·have hc : ∀ y ∈ c.occ [], y ∈ [f, x] := occ_none.1 (show c.occ ([] ++ [f, x]) = [] from h1)
     rw [List.eq_nil_iff_forall_not_mem]
     intro y hy
     obtain ⟨hy, hx⟩ := (Ex.put_occ h2).1 hy
     obtain ⟨hy, hf⟩ := (Ex.put_occ h1).1 hy
     have := hc y hy
     simp only [List.mem_cons, List.not_mem_nil, or_false] at this
     exact this.elim hf hx
    ·rfl
 | .ite a b c, e', h, hs => by
  obtain ⟨h1, h3⟩ := closed_app (show (a.occ [] ++ b.occ []) ++ c.occ [] = [] from h)
  obtain ⟨h1, h2⟩ := closed_app h1
  simp only [Ex.step] at hs
  split at hs
  ·obtain ⟨d, hd, rfl⟩ := Option.map_eq_some_iff.1 hs
   simp only [Ex.occ, Ex.step_closed h1 hd, h2, h3, List.append_nil]
  ·obtain ⟨p, rfl, rfl⟩ := turn_ite hs
   split
   ·exact h2
   ·exact h3
 | .lt x a b, e', h, hs => by
  obtain ⟨h1, h2⟩ := closed_app (show a.occ [] ++ b.occ ([] ++ [x]) = [] from h)
  simp only [Ex.step] at hs
  split at hs
  ·obtain ⟨d, hd, rfl⟩ := Option.map_eq_some_iff.1 hs
   simp only [Ex.occ, Ex.step_closed h1 hd, List.nil_append]; exact h2
  ·obtain rfl := (Option.some.inj hs).symm
   have hc := occ_none.1 h2
   rw [List.eq_nil_iff_forall_not_mem]
   intro y hy
   obtain ⟨hy, hx⟩ := (Ex.put_occ h1).1 hy
   have := hc y hy
   simp only [List.nil_append, List.mem_cons, List.not_mem_nil, or_false] at this
   exact hx this
 | .un o a, e', h, hs => by
  have h : a.occ [] = [] := h
  simp only [Ex.step] at hs
  split at hs
  ·obtain ⟨d, hd, rfl⟩ := Option.map_eq_some_iff.1 hs
   show d.occ [] = []
   exact Ex.step_closed h hd
  ·obtain ⟨p, q, rfl, rfl⟩ := turn_un hs
   obtain ⟨h1, h2⟩ := closed_app (show p.occ [] ++ q.occ [] = [] from h)
   cases o
   ·exact h1
   ·exact h2
theorem step_room : ∀ F : Nat, F < 120 → F * (1 + F) * (121 - F) ≤ 300000 := by decide +kernel
theorem put_size_le (e : Ex) (n : Txt) (v : Ex) (hc : e.count n ≤ e.size) : (e.put n v).size ≤ e.size * (1 + v.size) := by
 have h := e.putSize n v
 have h2 : e.count n * v.size ≤ e.size * v.size := Nat.mul_le_mul_right _ hc
 rw [Nat.mul_add, Nat.mul_one]; omega
theorem Ex.count_size (n : Txt) : ∀ e : Ex, e.count n ≤ e.size
 | .num _ => by simp [Ex.count]
 | .name s => by simp only [Ex.count, Ex.size]; split <;> omega
 | .bin _ a b => by have := a.count_size n; have := b.count_size n; simp only [Ex.count, Ex.size]; omega
 | .ite a b c => by have := a.count_size n; have := b.count_size n; have := c.count_size n; simp only [Ex.count, Ex.size]; omega
 | .lt x a b => by have := a.count_size n; have := b.count_size n; simp only [Ex.count, Ex.size]; split <;> omega
 | .fn f x s t b => by have := b.count_size n; simp only [Ex.count, Ex.size]; split <;> omega
 | .un _ a => by have := a.count_size n; simp only [Ex.count, Ex.size]; omega
theorem Ex.step_size : ∀ {e e' : Ex}, e.size ≤ 120 → e.step = some e' → e'.size ≤ e.size + 300000
 | .num _, e', h, hs => by cases hs
 | .name _, e', h, hs => by cases hs
 | .fn _ _ _ _ _, e', h, hs => by cases hs
 | .bin o a b, e', h, hs => by
  simp only [Ex.size] at h
  simp only [Ex.step] at hs
  split at hs
  ·obtain ⟨c, hc, rfl⟩ := Option.map_eq_some_iff.1 hs
   have := Ex.step_size (e := a) (by omega) hc
   simp only [Ex.size]; omega
  ·split at hs
   ·obtain ⟨c, hc, rfl⟩ := Option.map_eq_some_iff.1 hs
    have := Ex.step_size (e := b) (by omega) hc
    simp only [Ex.size]; omega
   ·rcases turn_bin hs with ⟨f, x, s, t, c, rfl, rfl, rfl⟩ | ⟨p, q, ho, rfl, rfl, rfl⟩
    ·generalize hF : (Ex.fn f x s t c).size = F at h ⊢
     have hcF : c.size ≤ F := by rw [← hF]; simp only [Ex.size]; omega
     have h1 := put_size_le c f (.fn f x s t c) (c.count_size f)
     rw [hF] at h1
     have h2 := put_size_le (c.put f (.fn f x s t c)) x b (Ex.count_size x _)
     have h3 := step_room F (by omega)
     have h4 : (c.put f (.fn f x s t c)).size * (1 + b.size) ≤ F * (1 + F) * (121 - F) := Nat.mul_le_mul (Nat.le_trans h1 (Nat.mul_le_mul_right _ hcF)) (by omega)
     omega
    ·simp only [Ex.size]; omega
 | .ite a b c, e', h, hs => by
  simp only [Ex.size] at h
  simp only [Ex.step] at hs
  split at hs
  ·obtain ⟨d, hd, rfl⟩ := Option.map_eq_some_iff.1 hs
   have := Ex.step_size (e := a) (by omega) hd
   simp only [Ex.size]; omega
  ·obtain ⟨p, rfl, rfl⟩ := turn_ite hs
   simp only [Ex.size]
   split <;> omega
 | .lt x a b, e', h, hs => by
  simp only [Ex.size] at h
  simp only [Ex.step] at hs
  split at hs
  ·obtain ⟨d, hd, rfl⟩ := Option.map_eq_some_iff.1 hs
   have := Ex.step_size (e := a) (by omega) hd
   simp only [Ex.size]; omega
  ·obtain rfl := (Option.some.inj hs).symm
   have h2 := put_size_le b x a (b.count_size x)
   have h3 := step_room b.size (by omega)
   have h4 : b.size * (1 + a.size) ≤ b.size * (121 - b.size) := Nat.mul_le_mul_left _ (by omega)
   have h5 : b.size * (121 - b.size) ≤ b.size * (1 + b.size) * (121 - b.size) := Nat.mul_le_mul_right _ (Nat.le_mul_of_pos_right _ (by omega))
   simp only [Ex.size]; omega
 | .un o a, e', h, hs => by
  simp only [Ex.size] at h
  simp only [Ex.step] at hs
  split at hs
  ·obtain ⟨d, hd, rfl⟩ := Option.map_eq_some_iff.1 hs
   have := Ex.step_size (e := a) (by omega) hd
   simp only [Ex.size]; omega
  ·obtain ⟨p, q, rfl, rfl⟩ := turn_un hs
   simp only [Ex.size] at h ⊢
   cases o <;> simp only [U2.pick] <;> omega
/-- One step of a closed expression that is no value, if what it leads to fits. -/
def Ex.go (e : Ex) : Option Ex := if e.value = true then none else e.step.bind fun e' => if e'.fine = true then some e' else none
def stepOf (s : Txt) : Option Txt := (closedOf s).bind fun e => e.go.map fun e' => e'.tree.text
def stuckOf (s : Txt) : Bool := match closedOf s with
 | some e => !e.value && e.step.isNone
 | none => false
/-- Steps one behind another: what is reached, and how many there were. -/
def Ex.goes (e : Ex) : Nat → Ex × Nat
 | 0 => (e, 0)
 | n + 1 => match e.go with
  | some e' => ((e'.goes n).1, (e'.goes n).2 + 1)
  | none => (e, 0)
theorem go_some {e e' : Ex} (h : e.go = some e') : e.value = false ∧ e.step = some e' ∧ e'.fine = true := by
 unfold Ex.go at h
 split at h
 ·cases h
 ·rename_i hv
  cases hs : e.step with
  | none => rw [hs] at h; cases h
  | some d =>
   rw [hs] at h
   simp only [Option.bind_some] at h
   split at h
   ·rename_i hf; obtain rfl := Option.some.inj h; exact ⟨by simpa using hv, rfl, hf⟩
   ·cases h
theorem stepOf_some {s : Txt} {e : Ex} (h : closedOf s = some e) : stepOf s = e.go.map fun e' => e'.tree.text := by unfold stepOf; rw [h]; rfl
theorem stepOf_none {s : Txt} (h : closedOf s = none) : stepOf s = none := by unfold stepOf; rw [h]; rfl
theorem closed_text {e : Ex} (hf : e.fine = true) (hc : e.occ [] = []) : closedOf e.tree.text = some e := by
 unfold closedOf
 rw [exOf_fine hf]
 simp [Ex.closed, hc]
theorem go_closed {e e' : Ex} (hc : e.occ [] = []) (h : e.go = some e') : closedOf e'.tree.text = some e' ∧ e'.occ [] = [] :=
 ⟨closed_text (go_some h).2.2 (Ex.step_closed hc (go_some h).2.1), Ex.step_closed hc (go_some h).2.1⟩
set_option maxRecDepth 100000
set_option linter.unusedVariables false
set_option linter.unusedSimpArgs false

theorem value_step : ∀ {e : Ex}, e.value = true → e.step = none
 | .num _, h => rfl
 | .name _, h => rfl
 | .fn _ _ _ _ _, h => rfl
 | .bin o a b, h => by
  cases o <;> first | (cases h; done) | skip
  simp only [Ex.value, Bool.and_eq_true] at h
  simp only [Ex.step, h.1, h.2, Bool.true_eq_false, if_false]
  cases a with
  | num p => cases b <;> rfl
  | _ => rfl
/-- What 'StepMany' says of a text. -/
def manyS (s : Txt) (n : Int) : Option (Txt × Nat) := if 0 ≤ n ∧ n ≤ 500 then (closedOf s).map fun e => ((e.goes n.toNat).1.tree.text, (e.goes n.toNat).2) else none
open Go.Shelf
def lays172_ren : Go.Shelf.Ren := ⟨fun | 172 => 159 | 244 => 167 | 245 => 168 | 247 => 171 | 279 => 172 | 280 => 173 | 281 => 174 | 282 => 175 | 287 => 180 | 316 => 181 | 171 => 129 | 205 => 182 | 321 => 188 | 322 => 189 | 243 => 160 | 246 => 169 | 283 => 176 | 284 => 177 | 285 => 178 | 286 => 179 | 129 => 184 | 317 => 183 | 318 => 185 | 319 => 186 | 320 => 187 | 337 => 190 | 338 => 191 | n => n, fun | 9 => 9 | 3 => 3 | 75 => 114 | 76 => 115 | 4 => 4 | 5 => 5 | 167 => 171 | 37 => 22 | 0 => 0 | 85 => 172 | 2 => 2 | 168 => 174 | 53 => 178 | 175 => 183 | 46 => 185 | 210 => 187 | 127 => 117 | 145 => 198 | 143 => 196 | 21 => 21 | 171 => 177 | 173 => 181 | 212 => 190 | 51 => 191 | 20 => 20 | 213 => 192 | 232 => 200 | 233 => 201 | 80 => 43 | n => n, fun | 15 => 0 | 16 => 1 | 17 => 2 | 18 => 3 | 19 => 4 | n => n⟩
theorem lays172 : Go.Proofs.Lays.n172 Tryz.prog lays172_ren := {
 mixed := by kernel_rfl
 f129 := Tryz.func184.trans (congrArg some (by kernel_rfl))
 f171 := Tryz.func129.trans (congrArg some (by kernel_rfl))
 f172 := Tryz.func159.trans (congrArg some (by kernel_rfl))
 f205 := Tryz.func182.trans (congrArg some (by kernel_rfl))
 f243 := Tryz.func160.trans (congrArg some (by kernel_rfl))
 f244 := Tryz.func167.trans (congrArg some (by kernel_rfl))
 f245 := Tryz.func168.trans (congrArg some (by kernel_rfl))
 f246 := Tryz.func169.trans (congrArg some (by kernel_rfl))
 f247 := Tryz.func171.trans (congrArg some (by kernel_rfl))
 f279 := Tryz.func172.trans (congrArg some (by kernel_rfl))
 f280 := Tryz.func173.trans (congrArg some (by kernel_rfl))
 f281 := Tryz.func174.trans (congrArg some (by kernel_rfl))
 f282 := Tryz.func175.trans (congrArg some (by kernel_rfl))
 f283 := Tryz.func176.trans (congrArg some (by kernel_rfl))
 f284 := Tryz.func177.trans (congrArg some (by kernel_rfl))
 f285 := Tryz.func178.trans (congrArg some (by kernel_rfl))
 f286 := Tryz.func179.trans (congrArg some (by kernel_rfl))
 f287 := Tryz.func180.trans (congrArg some (by kernel_rfl))
 f316 := Tryz.func181.trans (congrArg some (by kernel_rfl))
 f317 := Tryz.func183.trans (congrArg some (by kernel_rfl))
 f318 := Tryz.func185.trans (congrArg some (by kernel_rfl))
 f319 := Tryz.func186.trans (congrArg some (by kernel_rfl))
 f320 := Tryz.func187.trans (congrArg some (by kernel_rfl))
 f321 := Tryz.func188.trans (congrArg some (by kernel_rfl))
 f322 := Tryz.func189.trans (congrArg some (by kernel_rfl))
 f337 := Tryz.func190.trans (congrArg some (by kernel_rfl))
 f338 := Tryz.func191.trans (congrArg some (by kernel_rfl))
 t0 := Tryz.underlying0
 a0 := Tryz.isAgg0
 z0 := Tryz.sizeOf0
 v0 := Tryz.zeroValue0
 t2 := Tryz.underlying2
 a2 := Tryz.isAgg2
 z2 := Tryz.sizeOf2
 v2 := Tryz.zeroValue2
 t3 := Tryz.underlying3
 a3 := Tryz.isAgg3
 z3 := Tryz.sizeOf3
 v3 := Tryz.zeroValue3
 t4 := Tryz.underlying4
 a4 := Tryz.isAgg4
 z4 := Tryz.sizeOf4
 v4 := Tryz.zeroValue4
 t5 := Tryz.underlying5
 a5 := Tryz.isAgg5
 z5 := Tryz.sizeOf5
 v5 := Tryz.zeroValue5
 t9 := Tryz.underlying9
 a9 := Tryz.isAgg9
 z9 := Tryz.sizeOf9
 v9 := Tryz.zeroValue9
 t20 := Tryz.underlying20
 a20 := Tryz.isAgg20
 z20 := Tryz.sizeOf20
 v20 := Tryz.zeroValue20
 t21 := Tryz.underlying21
 a21 := Tryz.isAgg21
 z21 := Tryz.sizeOf21
 v21 := Tryz.zeroValue21
 t37 := Tryz.underlying22
 a37 := Tryz.isAgg22
 z37 := Tryz.sizeOf22
 v37 := Tryz.zeroValue22
 t46 := Tryz.underlying185
 a46 := Tryz.isAgg185
 z46 := Tryz.sizeOf185
 v46 := Tryz.zeroValue185
 t51 := Tryz.underlying191
 a51 := Tryz.isAgg191
 z51 := Tryz.sizeOf191
 v51 := Tryz.zeroValue191
 t53 := Tryz.underlying178
 a53 := Tryz.isAgg178
 z53 := Tryz.sizeOf178
 v53 := Tryz.zeroValue178
 t75 := Tryz.underlying114
 a75 := Tryz.isAgg114
 z75 := Tryz.sizeOf114
 v75 := Tryz.zeroValue114
 t76 := Tryz.underlying115
 a76 := Tryz.isAgg115
 z76 := Tryz.sizeOf115
 v76 := Tryz.zeroValue115
 t85 := Tryz.underlying172
 a85 := Tryz.isAgg172
 z85 := Tryz.sizeOf172
 v85 := Tryz.zeroValue172
 t127 := Tryz.underlying117
 a127 := Tryz.isAgg117
 z127 := Tryz.sizeOf117
 v127 := Tryz.zeroValue117
 t143 := Tryz.underlying196
 a143 := Tryz.isAgg196
 z143 := Tryz.sizeOf196
 v143 := Tryz.zeroValue196
 t145 := Tryz.underlying198
 a145 := Tryz.isAgg198
 z145 := Tryz.sizeOf198
 v145 := Tryz.zeroValue198
 t167 := Tryz.underlying171
 a167 := Tryz.isAgg171
 z167 := Tryz.sizeOf171
 v167 := Tryz.zeroValue171
 t168 := Tryz.underlying174
 a168 := Tryz.isAgg174
 z168 := Tryz.sizeOf174
 v168 := Tryz.zeroValue174
 t171 := Tryz.underlying177
 a171 := Tryz.isAgg177
 z171 := Tryz.sizeOf177
 v171 := Tryz.zeroValue177
 t173 := Tryz.underlying181
 a173 := Tryz.isAgg181
 z173 := Tryz.sizeOf181
 v173 := Tryz.zeroValue181
 t175 := Tryz.underlying183
 a175 := Tryz.isAgg183
 z175 := Tryz.sizeOf183
 v175 := Tryz.zeroValue183
 t210 := Tryz.underlying187
 a210 := Tryz.isAgg187
 z210 := Tryz.sizeOf187
 v210 := Tryz.zeroValue187
 t212 := Tryz.underlying190
 a212 := Tryz.isAgg190
 z212 := Tryz.sizeOf190
 v212 := Tryz.zeroValue190
 t213 := Tryz.underlying192
 a213 := Tryz.isAgg192
 z213 := Tryz.sizeOf192
 t232 := Tryz.underlying200
 a232 := Tryz.isAgg200
 z232 := Tryz.sizeOf200
 v232 := Tryz.zeroValue200
 t233 := Tryz.underlying201
 a233 := Tryz.isAgg201
 z233 := Tryz.sizeOf201
 v233 := Tryz.zeroValue201
 g15 := by kernel_rfl
 g16 := by kernel_rfl
 g17 := by kernel_rfl
 g18 := by kernel_rfl
 g19 := by kernel_rfl }
set_option maxRecDepth 100000
set_option linter.unusedVariables false
set_option linter.unusedSimpArgs false

theorem Mem.frozenAt {I : Heap} {L : Own} {b k m : Nat} {o : Obj} {w : World} (h : Mem I ((b, o) :: L) w) : Mem I L (w.freeze ⟨b, k, none⟩ m) := by
 obtain ⟨h1, h2, h3⟩ := h
 have hb := h2 (b, o) (.head _)
 have hn : b ∉ L.map (·.1) ∧ (L.map (·.1)).Nodup := List.nodup_cons.1 h3
 unfold World.freeze
 split
 ·exact ⟨h1, fun p hp => h2 p (.tail _ hp), hn.2⟩
 ·refine ⟨⟨fun c u hc => ?_, h1.2⟩, fun p hp => ⟨?_, (h2 p (.tail _ hp)).2⟩, hn.2⟩
  ·have hne : b ≠ c := fun e => by subst e; rw [hb.2] at hc; cases hc
   simp only [Array.getElem?_modify, if_neg hne]
   exact h1.1 c u hc
  ·have hne : b ≠ p.1 := fun e => hn.1 (e ▸ List.mem_map.2 ⟨p, hp, rfl⟩)
   simp only [Array.getElem?_modify, if_neg hne]
   exact (h2 p (.tail _ hp)).1
theorem decFrom_all : ∀ (l : Txt) (a : Nat), l.all digit = true → Lib.decFrom a l = some (l.foldl (fun n b => 10 * n + (b.toNat - 48)) a)
 | [], a, _ => rfl
 | b :: r, a, h => by
  simp only [List.all_cons, Bool.and_eq_true] at h
  have hb : 48 ≤ b.toNat ∧ b.toNat ≤ 57 := by have := h.1; simpa [digit] using this
  have := decFrom_all r (a * 10 + (b.toNat - 48)) h.2
  rw [Nat.mul_comm a 10] at this
  simp only [Lib.decFrom, Lib.digitVal, if_pos hb, List.foldl_cons]
  rw [Nat.mul_comm a 10]; exact this
theorem decNat_all {l : Txt} (h : l.all digit = true) (h1 : 1 ≤ l.length) : Lib.decNat l = some (digitsVal l) := by
 unfold Lib.decNat
 rw [if_neg (by cases l <;> simp at h1 ⊢)]
 exact decFrom_all l 0 h
theorem atoi_num {s : Txt} (h : isNum s = true) : Lib.atoi s = some (numVal s) := by
 unfold numVal
 split
 ·rename_i h0; subst h0; rfl
 ·rename_i h0
  simp only [isNum, h0, decide_false, Bool.false_or, Bool.and_eq_true, decide_eq_true_eq] at h
  have h1 := decNat_all h.1.2 h.1.1.1
  cases s with
  | nil => simp [unsign] at h
  | cons b r =>
   simp only [List.getD_cons_zero] at *
   by_cases h45 : b.toNat = 45
   ·have hb : (b == 45) = true := by simpa using UInt8.toNat_inj.1 (by rw [h45]; rfl)
    have hu : unsign (b :: r) = r := by unfold unsign; simp [h45]
    rw [hu] at h1 ⊢
    simp only [Lib.atoi, hb, if_true, h1, h45]
    simp
   ·have hb : (b == 45) = false := by
     simp only [beq_eq_false_iff_ne]; intro e; exact h45 (by rw [e]; rfl)
    have hu : unsign (b :: r) = b :: r := by unfold unsign; simp [h45]
    rw [hu] at h1 h ⊢
    have hd : digit b = true := by have := h.1.2; simp only [List.all_cons, Bool.and_eq_true] at this; exact this.1
    have h43 : (b == 43) = false := by
     simp only [beq_eq_false_iff_ne]; intro e; rw [e] at hd; exact absurd hd (by decide)
    simp only [Lib.atoi, hb, h43, Bool.false_eq_true, if_false, h1, h45]
    simp
theorem f_number (s : Txt) (hs : isNum s = true) (I : Heap) (L : Own) : Fun Tryz.prog 128 [.string (str s)] I L (Only (.int .i64 (numVal s)) I L) := by
 have hat : Fun Tryz.prog 159 [.string (str s)] I L (Only (.tuple #[.int .i64 (numVal s), .nilIface]) I L) := by
  refine ⟨fun w hm => (Any.strconv_Atoi lays172 (str s) (numVal s) ?_ ?_ w).mono ?_⟩
  ·have := isNum_len hs
   show s.toArray.size ≤ 18
   simp; omega
  ·show Lib.atoi (s.toArray.toList) = _
   exact atoi_num hs
  ·rintro e w' ⟨rfl, t, rfl⟩
   exact ⟨_, I, L, rfl, .refl _, Mem.frozenAt (hm.alloc _), rfl, rfl, rfl⟩
 refine fun_intro (by simp) ?_
 refine Se rfl (Oa rfl (o_done (Se rfl (Om rfl ?_))))
 refine o_call rfl .free rfl hat ?_
 rintro _ _ _ _ ⟨rfl, rfl, rfl⟩
 refine Om rfl (Oe rfl rfl (Oe rfl rfl (Oa rfl (Oa rfl (o_done (Se rfl (Om rfl (Oa rfl (o_done (s_ret (.tmp rfl .nil) ?_))))))))))
 refine only rfl ?_
 simp [retOne, *]
set_option maxRecDepth 100000
set_option linter.unusedVariables false
set_option linter.unusedSimpArgs false

/-- A drawn text: its length is bounded, and so is how far the reader goes. -/
def DT (b : Nat) (oa : Option Addr) (l : List UInt8) (c p K B : Nat) (L : Own) : Post := fun v I' L' => ∃ s p', v = .string (str s) ∧ List.length s ≤ B ∧ p ≤ p' ∧ p' ≤ p + K ∧ L' = rd b oa l c p' :: L
def kT : Nat → Nat
 | 0 => 0
 | d + 1 => 2 + 2 * kT d
def bT : Nat → Nat
 | 0 => 1
 | d + 1 => 5 + 2 * bT d
set_option linter.unusedVariables false
set_option linter.unusedSimpArgs false

section rules
variable {P : Program} {f : FuncId} {n : Nat} {I₀ : Heap} {Q : Post} {k : List Item} {E : Env} {I : Heap} {L : Own}
variable {ops : Array Oper} {d : Nat} {ty : TypeId} {pos : String} {af : Array Edge} {g : Option (Nat × Bool)} {l : List Oper}
theorem wrap_u8 {m : Int} (h : 0 ≤ m ∧ m < 256) : IntKind.u8.wrap m = m := by
 simp [IntKind.wrap, IntKind.bits, IntKind.signed]; omega
/-- A number as a byte. -/
theorem y_intByte {S : World → Prop} {src dst sz bb sz2 bb2 : Nat} {z z2 : List Value} [hs : TyIs P src (.int .i64) sz bb z] [hd : TyIs P dst (.int .u8) sz2 bb2 z2] {x : Operand} {a : Nat} (hx : opd E x = some (.int .i64 (a : Nat))) (ha : a < 256) :
  Yld P E S ⟨some d, .convert src dst x, ty, pos, af, g⟩ (.int .u8 (a : Nat)) := fun ac w he _ => by
 simp only [execOp, he.eval hx]
 refine run_bind_ok (a := .int .u8 (a : Nat)) (w' := w) ?_ |>.trans rfl
 unfold convert
 rw [run_bind_ok (run_underlying hs.und w), run_bind_ok (run_underlying hd.und w)]
 simp only [Conv.intToInt]
 rw [wrap_u8 (by omega)]
 rfl
theorem o_intByte {src dst sz bb sz2 bb2 : Nat} {z z2 : List Value} [hs : TyIs P src (.int .i64) sz bb z] [hd : TyIs P dst (.int .u8) sz2 bb2 z2] {x : Operand} {a : Nat} (hx : opd E x = some (.int .i64 (a : Nat))) (ha : a < 256) (hg : Wants ops E g) (hdn : Nat.blt d n = true)
  (h : RunO P f n I₀ Q ops l k ((d, .int .u8 (a : Nat)) :: E) I L) : RunO P f n I₀ Q ops (⟨some d, .convert src dst x, ty, pos, af, g⟩ :: l) k E I L := o_yld (y_intByte hx ha) hg hdn h
/-- One byte as a text. -/
theorem y_byteStr {src dst e sz bb sz2 bb2 sz3 bb3 : Nat} {z z2 z3 : List Value} [hs : TyIs P src (.slice e) sz bb z] [he : TyIs P e (.int .u8) sz3 bb3 z3] [hd : TyIs P dst .string sz2 bb2 z2] {x : Operand} {ad : Addr} {c a : Nat} (hx : opd E x = some (.slice (some ad) 1 c)) (hr : Reads I L ad [.int .u8 (a : Nat)]) :
  Yld P E (Mem I L) ⟨some d, .convert src dst x, ty, pos, af, g⟩ (.string (str [UInt8.ofNat a])) := fun ac w he' hm => by
 simp only [execOp, he'.eval hx]
 refine run_bind_ok (a := .string (str [UInt8.ofNat a])) (w' := w) ?_ |>.trans rfl
 unfold convert
 rw [run_bind_ok (run_underlying hs.und w), run_bind_ok (run_underlying hd.und w)]
 simp only []
 rw [run_bind_ok (run_underlying he.und w)]
 simp only [Conv.bytesToString]
 have hl : (loadCells ad 1).run P w = .ok [Value.int .u8 (a : Nat)].toArray w := run_loadCells [.int .u8 (a : Nat)] (hr w hm)
 rw [run_bind_ok hl]
 rfl
end rules
set_option maxRecDepth 100000
set_option linter.unusedVariables false
set_option linter.unusedSimpArgs false

theorem decT_le {n : Nat} (h : n ≤ 1000000000) : (decT n).length ≤ 12 := by
 have key : ∀ (k m : Nat), m < 10 ^ (k + 1) → (decT m).length ≤ k + 1 := by
  intro k
  induction k with
  | zero => intro m hm; rw [decT_small (by omega)]; simp
  | succ k ih =>
   intro m hm
   by_cases h1 : m < 10
   ·rw [decT_small h1]; simp
   ·rw [decT_big h1, List.length_append]
    have := ih (m / 10) (by rw [Nat.pow_succ] at hm; omega)
    simp only [List.length_cons, List.length_nil]; omega
 exact Nat.le_trans (key 10 n (by omega)) (by decide)
theorem g_l6Dec : ∀ (k n : Nat) (_ : n < k) (_ : n ≤ 1000000000) (I : Heap) (L : Own), Fun Tryz.prog 100 [.int .i64 (n : Nat)] I L (Only (.string (str (decT n))) I L) := by
 intro k
 induction k with
 | zero => intro n h; omega
 | succ k ihk =>
  intro n hlt hn I L
  refine fun_intro (by simp) ?_
  refine Se rfl (Oa rfl (o_done (s_seq (Se rfl (Om rfl (Oc rfl rfl rfl (o_done ?_)))))))
  first | refine s_fp rfl (by omega) ?_ | refine s_fn rfl (by omega) ?_ | refine s_false (by simp [look, opd, *]) ?_
  refine s_skip (s_seq (Se rfl (Om rfl (Oc rfl rfl rfl (o_done ?_)))))
  first | refine s_fp rfl (by omega) ?_ | refine s_fn rfl (by omega) ?_ | refine s_false (by simp [look, opd, *]) ?_
  refine s_skip (s_seq (Se rfl (Om rfl (Oc rfl rfl rfl (o_done ?_)))))
  refine s_cond rfl ?_ ?_
  ·intro c2
   try simp only [nb] at c2
   refine s_seq ?_
   have h10 : n < 10 := by omega
   refine o_enter rfl (Om rfl ?_)
   refine Or rfl rfl rfl ?_
   refine o_put (t := 14) (v' := .int .i64 ((48 + n : Nat))) rfl (by congr 1) ?_
   refine o_intByte rfl (by omega) .free rfl ?_
   refine Ol rfl rfl ?_
   intro b16
   refine o_yld (y_byteStr rfl (reads_ownL (by repeat first | exact .head _ | apply List.Mem.tail | apply List.mem_append_right) (by rfl))) .free rfl ?_
   refine Oa rfl (o_done (s_ret (.tmp rfl .nil) ?_))
   refine only rfl ?_
   rw [decT_small h10]; rfl
  intro c2
  try simp only [nb] at c2
  refine s_skip (s_seq ?_)
  have h10 : ¬ n < 10 := by omega
  obtain ⟨q, hq, hq2⟩ : ∃ q, q = n / 10 ∧ q < n := ⟨_, rfl, by omega⟩
  obtain ⟨r, hr, hr2⟩ : ∃ r, r = n % 10 ∧ r < 10 := ⟨_, rfl, Nat.mod_lt _ (by omega)⟩
  have hdl := decT_le (n := q) (by omega)
  refine d_all 11 rfl rfl ?_
  refine Da 0 rfl (y_move rfl) ?_
  refine Da 1 rfl (y_quo (b := 10) rfl rfl (by omega) (by omega)) ?_
  refine d_put (t := 19) (v' := .int .i64 (q : Nat)) rfl (by rw [hq]) ?_
  refine Da 3 rfl (y_move rfl) ?_
  refine Da 4 rfl (y_rem (b := 10) rfl rfl (by omega)) ?_
  refine d_put (t := 22) (v' := .int .i64 (r : Nat)) rfl (by rw [hr]) ?_
  refine Da 5 rfl (y_arith rfl rfl rfl (by omega)) ?_
  refine d_put (t := 23) (v' := .int .i64 ((48 + r : Nat))) rfl (by congr 1) ?_
  refine Da 6 rfl (y_intByte rfl (by omega)) ?_
  refine d_two 2 7 (by kernel_rfl) ?_ ?_
  ·skip
   refine i_call 2 rfl rfl rfl .free rfl (ihk q (by omega) (by omega) _ _) ?_
   rintro _ _ _ _ ⟨rfl, rfl, rfl⟩
   refine ⟨(.inr heldx), ?_⟩
   refine d_lits 7 rfl (by kernel_rfl) rfl rfl rfl (by rfl) (by rfl) (by rfl) (by decide) (by decide) (by rfl) .free rfl (.inr heldx) ?_
   intro b25
   refine d_yld 8 rfl (by kernel_rfl) rfl (y_byteStr rfl (reads_ownL (by repeat first | exact .head _ | apply List.Mem.tail | apply List.mem_append_right) (by rfl))) .free rfl (.inr heldx) ?_
   refine d_takeA 9 rfl (by kernel_rfl) rfl (.inr heldx) (y_concat rfl rfl (by first | omega | (simp only [List.length_append, List.length_cons, List.length_nil]; omega) | (simp; omega))) .free rfl ?_
   refine Da 10 rfl (y_assign rfl) ?_
   refine d_done (by kernel_rfl) ?_
   refine s_ret (.tmp rfl .nil) ?_
   refine only rfl ?_
   rw [decT_big h10, ← hq, ← hr]; rfl
  ·skip
   refine i_lits 7 rfl rfl rfl rfl (by rfl) (by rfl) (by rfl) (by decide) (by decide) (by rfl) .free rfl (.inr heldx) ?_
   intro b25
   refine d_two 2 8 (by kernel_rfl) ?_ ?_
   ·skip
    refine i_call 2 rfl rfl rfl .free rfl (ihk q (by omega) (by omega) _ _) ?_
    rintro _ _ _ _ ⟨rfl, rfl, rfl⟩
    refine ⟨(.inr heldx), ?_⟩
    refine d_yld 8 rfl (by kernel_rfl) rfl (y_byteStr rfl (reads_ownL (by repeat first | exact .head _ | apply List.Mem.tail | apply List.mem_append_right) (by rfl))) .free rfl (.inr heldx) ?_
    refine d_takeA 9 rfl (by kernel_rfl) rfl (.inr heldx) (y_concat rfl rfl (by first | omega | (simp only [List.length_append, List.length_cons, List.length_nil]; omega) | (simp; omega))) .free rfl ?_
    refine Da 10 rfl (y_assign rfl) ?_
    refine d_done (by kernel_rfl) ?_
    refine s_ret (.tmp rfl .nil) ?_
    refine only rfl ?_
    rw [decT_big h10, ← hq, ← hr]; rfl
   ·skip
    refine i_yld 8 rfl rfl (y_byteStr rfl (reads_ownL (by repeat first | exact .head _ | apply List.Mem.tail | apply List.mem_append_right) (by rfl))) .free rfl (.inr heldx) ?_
    refine d_call 2 rfl (by kernel_rfl) rfl rfl .free rfl (ihk q (by omega) (by omega) _ _) ?_
    rintro _ _ _ _ ⟨rfl, rfl, rfl⟩
    refine ⟨(.inr heldx), ?_⟩
    refine d_takeA 9 rfl (by kernel_rfl) rfl (.inr heldx) (y_concat rfl rfl (by first | omega | (simp only [List.length_append, List.length_cons, List.length_nil]; omega) | (simp; omega))) .free rfl ?_
    refine Da 10 rfl (y_assign rfl) ?_
    refine d_done (by kernel_rfl) ?_
    refine s_ret (.tmp rfl .nil) ?_
    refine only rfl ?_
    rw [decT_big h10, ← hq, ← hr]; rfl
end Go.Proofs.YtfddjcmeejjhiaaGreatDoor

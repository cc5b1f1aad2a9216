/- The shelf's law on numbers, laid at this program in plain words by the kit's lay-plain.mjs. No conditions. -/
import Derived.Test.YtfddjcmeejjhiaaGreatDoorG10
import Derived.Shelf.Strconv.Itoa3
import Derived.Test.YtfddjcmeejjhiaaGreatDoorProg
import Derived.Shelf.Strconv.Atoi

namespace Go.Proofs.YtfddjcmeejjhiaaGreatDoor
open Go.Shelf
def Sz : Go.Shelf.Ren := ⟨fun | 171 => 129 | 243 => 160 | 246 => 169 | 283 => 176 | 284 => 177 | 285 => 178 | 286 => 179 | 129 => 184 | 317 => 183 | 318 => 185 | 319 => 186 | 320 => 187 | 337 => 190 | 338 => 191 | n => n, fun | 3 => 3 | 9 => 9 | 2 => 2 | 4 => 4 | 171 => 177 | 0 => 0 | 53 => 178 | 37 => 22 | 5 => 5 | 173 => 181 | 212 => 190 | 51 => 191 | 20 => 20 | 213 => 192 | 46 => 185 | 232 => 200 | 233 => 201 | n => n, fun | 17 => 2 | 18 => 3 | 19 => 4 | n => n⟩
theorem Aak : Go.Proofs.LaysM.n171 Tryz.prog Sz := {
 mixed := by kernel_rfl
 f129 := Tryz.func184.trans (congrArg some (by kernel_rfl))
 f171 := Tryz.func129.trans (congrArg some (by kernel_rfl))
 f243 := Tryz.func160.trans (congrArg some (by kernel_rfl))
 f246 := Tryz.func169.trans (congrArg some (by kernel_rfl))
 f283 := Tryz.func176.trans (congrArg some (by kernel_rfl))
 f284 := Tryz.func177.trans (congrArg some (by kernel_rfl))
 f285 := Tryz.func178.trans (congrArg some (by kernel_rfl))
 f286 := Tryz.func179.trans (congrArg some (by kernel_rfl))
 f317 := Tryz.func183.trans (congrArg some (by kernel_rfl))
 f318 := Tryz.func185.trans (congrArg some (by kernel_rfl))
 f319 := Tryz.func186.trans (congrArg some (by kernel_rfl))
 f320 := Tryz.func187.trans (congrArg some (by kernel_rfl))
 f337 := Tryz.func190.trans (congrArg some (by kernel_rfl))
 f338 := Tryz.func191.trans (congrArg some (by kernel_rfl))
 t0 := Tryz.underlying0
 a0 := Tryz.isAgg0
 z0 := Tryz.sizeOf0
 v0 := Tryz.zeroValue0
 t2 := Tryz.underlying2
 a2 := Tryz.isAgg2
 z2 := Tryz.sizeOf2
 v2 := Tryz.zeroValue2
 t3 := Tryz.underlying3
 a3 := Tryz.isAgg3
 z3 := Tryz.sizeOf3
 v3 := Tryz.zeroValue3
 t4 := Tryz.underlying4
 a4 := Tryz.isAgg4
 z4 := Tryz.sizeOf4
 v4 := Tryz.zeroValue4
 t5 := Tryz.underlying5
 a5 := Tryz.isAgg5
 z5 := Tryz.sizeOf5
 v5 := Tryz.zeroValue5
 t9 := Tryz.underlying9
 a9 := Tryz.isAgg9
 z9 := Tryz.sizeOf9
 v9 := Tryz.zeroValue9
 t20 := Tryz.underlying20
 a20 := Tryz.isAgg20
 z20 := Tryz.sizeOf20
 v20 := Tryz.zeroValue20
 t37 := Tryz.underlying22
 a37 := Tryz.isAgg22
 z37 := Tryz.sizeOf22
 v37 := Tryz.zeroValue22
 t46 := Tryz.underlying185
 a46 := Tryz.isAgg185
 z46 := Tryz.sizeOf185
 v46 := Tryz.zeroValue185
 t51 := Tryz.underlying191
 a51 := Tryz.isAgg191
 z51 := Tryz.sizeOf191
 v51 := Tryz.zeroValue191
 t53 := Tryz.underlying178
 a53 := Tryz.isAgg178
 z53 := Tryz.sizeOf178
 v53 := Tryz.zeroValue178
 t171 := Tryz.underlying177
 a171 := Tryz.isAgg177
 z171 := Tryz.sizeOf177
 v171 := Tryz.zeroValue177
 t173 := Tryz.underlying181
 a173 := Tryz.isAgg181
 z173 := Tryz.sizeOf181
 v173 := Tryz.zeroValue181
 t212 := Tryz.underlying190
 a212 := Tryz.isAgg190
 z212 := Tryz.sizeOf190
 v212 := Tryz.zeroValue190
 t213 := Tryz.underlying192
 a213 := Tryz.isAgg192
 z213 := Tryz.sizeOf192
 t232 := Tryz.underlying200
 a232 := Tryz.isAgg200
 z232 := Tryz.sizeOf200
 v232 := Tryz.zeroValue200
 t233 := Tryz.underlying201
 a233 := Tryz.isAgg201
 z233 := Tryz.sizeOf201
 v233 := Tryz.zeroValue201
 g17 := by kernel_rfl
 g18 := by kernel_rfl
 g19 := by kernel_rfl
 i0 := by kernel_rfl
 i2 := by kernel_rfl
 i3 := by kernel_rfl
 i4 := by kernel_rfl
 i5 := by kernel_rfl
 i9 := by kernel_rfl
 i20 := by kernel_rfl
 i37 := by kernel_rfl
 i46 := by kernel_rfl
 i51 := by kernel_rfl
 i53 := by kernel_rfl
 i171 := by kernel_rfl
 i173 := by kernel_rfl
 i212 := by kernel_rfl
 i232 := by kernel_rfl
 i233 := by kernel_rfl
 m17 := by kernel_rfl
 m18 := by kernel_rfl
 m19 := by kernel_rfl }
open Go.Shelf
def Acg : Go.Shelf.Ren := ⟨fun | 171 => 129 | 243 => 160 | 246 => 169 | 283 => 176 | 284 => 177 | 285 => 178 | 286 => 179 | 129 => 184 | 317 => 183 | 318 => 185 | 319 => 186 | 320 => 187 | 337 => 190 | 338 => 191 | n => n, fun | 3 => 3 | 9 => 9 | 2 => 2 | 4 => 4 | 171 => 177 | 0 => 0 | 53 => 178 | 37 => 22 | 5 => 5 | 173 => 181 | 212 => 190 | 51 => 191 | 20 => 20 | 213 => 192 | 46 => 185 | 232 => 200 | 233 => 201 | n => n, fun | 17 => 2 | 18 => 3 | 19 => 4 | n => n⟩
set_option maxRecDepth 100000
set_option linter.unusedVariables false
set_option linter.unusedSimpArgs false

def Iy (n : Nat) : Ap := if n < 10 then [UInt8.ofNat (48 + n)] else Iy (n / 10) ++ [UInt8.ofNat (48 + n % 10)]
theorem Gr {n : Nat} (h : n < 10) : Iy n = [UInt8.ofNat (48 + n)] := by rw [Iy, if_pos h]
theorem Il {n : Nat} (h : ¬ n < 10) : Iy n = Iy (n / 10) ++ [UInt8.ofNat (48 + n % 10)] := by rw [Iy, if_neg h]
set_option maxRecDepth 100000
set_option linter.unusedVariables false
set_option linter.unusedSimpArgs false

set_option maxRecDepth 100000
set_option linter.unusedVariables false
set_option linter.unusedSimpArgs false

def Tab (I : Heap) : Prop := ∀ L w, Mem I L w → Lib.TabIs Tryz.prog w "internal/strconv.uint64pow10" .u64 Lib.pow10Tab
theorem Tab.mono {I I' : Heap} (h : Tab I) (hle : HLe I I') : Tab I' := fun L w hm => h L w (hm.le hle)
theorem W9 (n : Nat) : Lib.decDigits n = Iy n := by
 induction n using Nat.strongRecOn with
 | _ n ih =>
  rw [Lib.decDigits]
  by_cases h : n < 10
  ·rw [dif_pos h, Gr h]
  ·rw [dif_neg h, Il h, ih (n / 10) (by omega)]
def Mp (n : Int) : Ap := if n < 0 then 45 :: Iy n.natAbs else Iy n.toNat
theorem P6 (n : Nat) : Mp (n : Nat) = Iy n := by unfold Mp; rw [if_neg (by omega)]; rfl
theorem Yn (n : Int) : Lib.itoa n = Mp n := by unfold Lib.itoa Mp; rw [W9, W9]
theorem Mem.grow {I : Heap} {L : Bh} {w : World} (h : Mem I L w) (k : Nat) (os : Array Obj) : Mem I L (Sort.grow (w.drewN k) os) := by
 have hk : ∀ b o, w.heap[b]? = some o → (w.heap ++ os)[b]? = some o := fun b o hb => by
  have hlt : b < w.heap.size := by
   rcases Nat.lt_or_ge b w.heap.size with g | g
   ·exact g
   ·rw [Array.getElem?_eq_none g] at hb; cases hb
  rw [Array.getElem?_append_left hlt]; exact hb
 exact ⟨⟨fun b o hb => hk b o (h.1.1 b o hb), h.1.2⟩, fun p hp => ⟨hk _ _ (h.2.1 p hp).1, (h.2.1 p hp).2⟩, h.2.2⟩
theorem Hy {I : Heap} (ht : Tab I) (n : Int) (h0 : -9223372036854775808 ≤ n) (h1 : n ≤ 9223372036854775807) (L : Bh) : Fun Tryz.prog 129 [.int .i64 n] I L (D0 (.string (str (Mp n))) I L) := by
 refine ⟨fun w hm => (Any.strconv_Itoa Aak n h0 h1 w (ht L w hm)).mono ?_⟩; rintro e w' ⟨rfl, k, os, rfl⟩; refine ⟨_, I, L, rfl, .refl _, hm.grow k os, ?_⟩; rw [Yn]
 exact ⟨rfl, rfl, rfl⟩
set_option maxRecDepth 100000
set_option linter.unusedVariables false
set_option linter.unusedSimpArgs false

def Ex.many : Ex → Nat
 | .num _ => 1
 | .name _ => 1
 | .bin _ a b => 1 + a.many + b.many
 | .ite a b c => 1 + a.many + b.many + c.many
 | .lt _ a b => 1 + a.many + b.many
 | .fn _ _ _ _ b => 1 + b.many
 | .un _ a => 1 + a.many
theorem Ex.put_id : ∀ {e : Ex} {n : Ap} {v : Ex}, n ∉ e.occ [] → e.put n v = e
 | .num _, n, v, h => rfl
 | .name s, n, v, h => by
  simp only [Ex.occ, List.not_mem_nil, if_false, List.mem_singleton] at h
  simp only [Ex.put]; rw [if_neg (fun e => h e.symm)]
 | .bin o a b, n, v, h => by
  simp only [Ex.occ, List.mem_append, not_or] at h
  simp only [Ex.put, Ex.put_id h.1, Ex.put_id h.2]
 | .ite a b c, n, v, h => by
  simp only [Ex.occ, List.mem_append, not_or] at h
  simp only [Ex.put, Ex.put_id h.1.1, Ex.put_id h.1.2, Ex.put_id h.2]
 | .lt x a b, n, v, h => by
  simp only [Ex.occ, List.mem_append, not_or, List.nil_append] at h
  simp only [Ex.put, Ex.put_id h.1]
  by_cases hx : x = n
  ·rw [if_pos hx]
  ·rw [if_neg hx, Ex.put_id]; intro hb; exact h.2 (Ex.occ_mem.2 ⟨hb, by simp only [List.mem_singleton]; exact fun e => hx e.symm⟩)
 | .fn f x s t b, n, v, h => by
  simp only [Ex.occ, List.nil_append] at h
  simp only [Ex.put]
  by_cases hx : f = n ∨ x = n
  ·rw [if_pos hx]
  ·rw [if_neg hx, Ex.put_id]; intro hb; refine h (Ex.occ_mem.2 ⟨hb, ?_⟩)
   simp only [List.mem_cons, List.not_mem_nil, or_false]
   rintro (e | e)
   ·exact hx (.inl e.symm)
   ·exact hx (.inr e.symm)
 | .un o a, n, v, h => by
  simp only [Ex.occ] at h
  simp only [Ex.put, Ex.put_id h]
def Ex.hd : Ex → Ap
 | .num _ => [110, 117, 109, 98, 101, 114]
 | .name _ => [110, 97, 109, 101]
 | e => e.tree.head
def Ady (s : Ap) : Ap := match E5 s with
 | some e => e.hd
 | none => []
def Ad1 (s : Ap) : Option (List Ap) := (E5 s).map fun e => e.sub.map fun a => a.tree.text
def Ad3 (s : Ap) : Int := match E5 s with
 | some e => (e.many : Nat)
 | none => -1
def Adv (s : Ap) : Int := match C7 s with
 | some t => (t.size : Nat)
 | none => -1
set_option maxRecDepth 100000
set_option linter.unusedVariables false
set_option linter.unusedSimpArgs false

def Aam (s : Ap) : Nat := s.foldl (fun a c => 10 * a + (c.toNat - 48)) 0
theorem Aan (s : Ap) (c : UInt8) : Aam (s ++ [c]) = 10 * Aam s + (c.toNat - 48) := by simp [Aam]
theorem Q5 {d : Nat} (h : d < 10) : (UInt8.ofNat (48 + d)).toNat - 48 = d := by
 have : (UInt8.ofNat (48 + d)).toNat = 48 + d := by simp [UInt8.toNat_ofNat]; omega
 omega
theorem Rl : ∀ n : Nat, Aam (Iy n) = n := by
 intro n
 induction n using Nat.strongRecOn with
 | _ n ih =>
  by_cases h : n < 10
  ·rw [Gr h]
   show 10 * 0 + ((UInt8.ofNat (48 + n)).toNat - 48) = n
   rw [Q5 h]; omega
  ·rw [Il h, Aan, ih (n / 10) (by omega), Q5 (Nat.mod_lt _ (by omega))]
   omega
theorem Zm {a b : Nat} (h : Iy a = Iy b) : a = b := by
 have := congrArg Aam h
 rwa [Rl, Rl] at this
def nm (c : UInt8) (n : Nat) : Ap := c :: Iy n
theorem Ac1 {c : UInt8} {a b : Nat} (h : nm c a = nm c b) : a = b := Zm (List.cons.inj h).2
def Aeo (c : UInt8) (av : List Ap) (n : Nat) : Nat := ((List.range n).filter fun k => decide (nm c k ∈ av)).length
def frs (c : UInt8) (av : List Ap) : Nat → Nat → Nat
 | 0, n => n
 | k + 1, n => if nm c n ∈ av then frs c av k (n + 1) else n
def fr (c : UInt8) (av : List Ap) (n : Nat) : Nat := frs c av av.length n
def Ex.pl (av : List Ap) : Ex → List Ap → List Ap → Nat → Ex × Nat
 | .num s, _, _, n => (.num s, n)
 | .name s, f, t, n => (.name (match C1 f s with | some i => t.getD i [] | none => s), n)
 | .bin o a b, f, t, n => let p := a.pl av f t n; let q := b.pl av f t p.2; (.bin o p.1 q.1, q.2)
 | .ite a b c, f, t, n => let p := a.pl av f t n; let q := b.pl av f t p.2; let r := c.pl av f t q.2; (.ite p.1 q.1 r.1, r.2)
 | .lt x a b, f, t, n => let k := fr 120 av n; let p := a.pl av f t (k + 1); let q := b.pl av (f ++ [x]) (t ++ [nm 120 k]) p.2; (.lt (nm 120 k) p.1 q.1, q.2)
 | .fn g x s u b, f, t, n => let k := fr 120 av n; let j := fr 120 av (k + 1); let p := b.pl av (f ++ [g, x]) (t ++ [nm 120 k, nm 120 j]) (j + 1); (.fn (nm 120 k) (nm 120 j) s u p.1, p.2)
 | .un o a, f, t, n => let p := a.pl av f t n; (.un o p.1, p.2)
def Ex.nb : Ex → Nat
 | .num _ => 0
 | .name _ => 0
 | .bin _ a b => a.nb + b.nb
 | .ite a b c => a.nb + b.nb + c.nb
 | .lt _ a b => 1 + a.nb + b.nb
 | .fn _ _ _ _ b => 2 + b.nb
 | .un _ a => a.nb
set_option maxRecDepth 100000
set_option linter.unusedVariables false
set_option linter.unusedSimpArgs false

def namesL (l : List Ap) : Prop := ∀ s ∈ l, Bv s = true
theorem namesL.add {l m : List Ap} (h : namesL l) (h' : namesL m) : namesL (l ++ m) := by
 intro s hs
 rcases List.mem_append.1 hs with hs | hs
 ·exact h s hs
 ·exact h' s hs
theorem B5.txt_len (o : B5) : o.txt.length ≤ 4 := by cases o <;> decide
theorem U2.txt_len (o : U2) : o.txt.length ≤ 3 := by cases o <;> decide
theorem Ex.len_size : ∀ {e : Ex}, e.ok = true → e.tree.len + 1 ≤ 8 * e.size
 | .num s, h => by
  have h : By s = true := h
  have : s.length ≤ 4 := by
   simp only [By, Bool.or_eq_true, Bool.and_eq_true, decide_eq_true_eq] at h
   rcases h with h | h
   ·rw [h]; decide
   ·have h1 := h.1.1.2
    unfold Cy at h1
    split at h1
    ·simp only [List.length_drop] at h1; omega
    ·omega
  simp only [Ex.tree, Tree.len, List.isEmpty_nil, cond_true, Ex.size]; omega
 | .name s, h => by
  have := Fh (show Bv s = true from h)
  simp only [Ex.tree, Tree.len, List.isEmpty_nil, cond_true, Ex.size]; omega
 | .bin o a b, h => by
  simp only [Ex.ok, Bool.and_eq_true] at h
  have h1 := Ex.len_size h.1; have h2 := Ex.len_size h.2; have h3 := o.txt_len
  simp only [Ex.tree, Tree.len, Fn, List.isEmpty_nil, List.isEmpty_cons, cond_true, cond_false, Ex.size]; omega
 | .ite a b c, h => by
  simp only [Ex.ok, Bool.and_eq_true] at h
  have h1 := Ex.len_size h.1.1; have h2 := Ex.len_size h.1.2; have h3 := Ex.len_size h.2
  simp only [Ex.tree, Tree.len, Fn, List.isEmpty_nil, List.isEmpty_cons, cond_true, cond_false, Ex.size, F5, List.length_cons, List.length_nil]; omega
 | .lt x a b, h => by
  simp only [Ex.ok, Bool.and_eq_true] at h
  have h1 := Ex.len_size h.1.2; have h2 := Ex.len_size h.2; have h3 := Fh h.1.1
  simp only [Ex.tree, Tree.len, Fn, List.isEmpty_nil, List.isEmpty_cons, cond_true, cond_false, Ex.size, Dk, List.length_cons, List.length_nil]; omega
 | .fn f x s t b, h => by
  simp only [Ex.ok, Bool.and_eq_true, decide_eq_true_eq] at h
  obtain ⟨⟨⟨⟨⟨h1, h2⟩, h3⟩, h4⟩, h5⟩, h6⟩ := h
  have k1 := Ex.len_size h6; have k2 := Fh h1; have k3 := Fh h2
  have k4 := s.tree_small; have k5 := t.tree_small; have k6 := s.size_pos; have k7 := t.size_pos
  simp only [Ex.tree, Tree.len, Fn, List.isEmpty_nil, List.isEmpty_cons, cond_true, cond_false, Ex.size, Dj, List.length_cons, List.length_nil]; omega
 | .un o a, h => by
  have h1 := Ex.len_size (e := a) h; have h3 := o.txt_len
  simp only [Ex.tree, Tree.len, Fn, List.isEmpty_nil, List.isEmpty_cons, cond_true, cond_false, Ex.size]; omega
def Ex.plain (e : Ex) : Ex := (e.pl e.free [] [] 0).1
def Adu (s : Ap) : Option Ap := (E5 s).map fun e => e.plain.tree.text
set_option maxRecDepth 100000
set_option linter.unusedVariables false
set_option linter.unusedSimpArgs false

theorem P8 {l r : List Ap} {y : Ap} : ∀ {n : Nat}, n ≤ l.length → Gt (l ++ r) y n = Gt l y n
 | 0, _ => rfl
 | n + 1, h => by
  simp only [Gt]
  rw [show (l ++ r).getD n [] = l.getD n [] by simp [List.getElem?_append_left (show n < l.length by omega)], P8 (by omega)]
theorem I3 (l : List Ap) (x y : Ap) : C1 (l ++ [x]) y = if x = y then some l.length else C1 l y := by
 unfold C1
 rw [show (l ++ [x]).length = l.length + 1 by simp]
 simp only [Gt]
 rw [show (l ++ [x]).getD l.length [] = x by simp, P8 (Nat.le_refl _)]
theorem Hl {l : List Ap} {m : List Ty} (h : l.length = m.length) (x y : Ap) (s : Ty) : Fp (l ++ [x]) (m ++ [s]) y = if x = y then some s else Fp l m y := by
 unfold Fp
 rw [I3]
 by_cases hx : x = y
 ·rw [if_pos hx, if_pos hx]; simp [h]
 ·rw [if_neg hx, if_neg hx]
  cases hi : C1 l y with
  | none => rfl
  | some i =>
   have h1 := (Nn (show Gt l y l.length = some i from hi)).1
   simp [List.getElem?_append_left (show i < m.length by omega)]
theorem Hu {l : List Ap} {m : List Ty} (h : l.length = m.length) (f x y : Ap) (s t : Ty) : Fp (l ++ [f, x]) (m ++ [s, t]) y = if x = y then some t else if f = y then some s else Fp l m y := by
 have h1 := Hl (l := l ++ [f]) (m := m ++ [s]) (by simp [h]) x y t
 rw [Hl h, List.append_assoc, List.append_assoc] at h1
 exact h1
theorem Ex.chk_congr : ∀ {e : Ex} {l l' : List Ap} {m m' : List Ty}, l.length = m.length → l'.length = m'.length → (∀ x ∈ e.occ [], Fp l m x = Fp l' m' x) → e.chk l m = e.chk l' m'
 | .num _, l, l', m, m', _, _, _ => rfl
 | .name s, l, l', m, m', _, _, h => by
  have := h s (by simp [Ex.occ])
  simp only [Ex.chk, this]
 | .bin o a b, l, l', m, m', h1, h2, h => by
  simp only [Ex.occ, List.mem_append] at h
  simp only [Ex.chk, Ex.chk_congr h1 h2 fun x hx => h x (.inl hx), Ex.chk_congr h1 h2 fun x hx => h x (.inr hx)]
 | .ite a b c, l, l', m, m', h1, h2, h => by
  simp only [Ex.occ, List.mem_append] at h
  simp only [Ex.chk, Ex.chk_congr h1 h2 fun x hx => h x (.inl (.inl hx)), Ex.chk_congr h1 h2 fun x hx => h x (.inl (.inr hx)), Ex.chk_congr h1 h2 fun x hx => h x (.inr hx)]
 | .lt y a b, l, l', m, m', h1, h2, h => by
  simp only [Ex.occ, List.mem_append, List.nil_append] at h
  simp only [Ex.chk, Ex.chk_congr h1 h2 fun x hx => h x (.inl hx)]
  cases a.chk l' m' with
  | error x => rfl
  | ok s =>
   refine Ex.chk_congr (by simp [h1]) (by simp [h2]) fun x hx => ?_
   rw [Hl h1, Hl h2]
   by_cases hy : y = x
   ·rw [if_pos hy, if_pos hy]
   ·rw [if_neg hy, if_neg hy]
    exact h x (.inr (Ex.occ_mem.2 ⟨hx, by simp only [List.mem_singleton]; exact fun e => hy e.symm⟩))
 | .fn f y s t b, l, l', m, m', h1, h2, h => by
  simp only [Ex.occ, List.nil_append] at h
  simp only [Ex.chk]
  rw [Ex.chk_congr (e := b) (l := l ++ [f, y]) (l' := l' ++ [f, y]) (m := m ++ [.fn s t, s]) (m' := m' ++ [.fn s t, s]) (by simp [h1]) (by simp [h2]) fun x hx => ?_]; rw [Hu h1, Hu h2]
  by_cases hy : y = x
  ·rw [if_pos hy, if_pos hy]
  ·rw [if_neg hy, if_neg hy]
   by_cases hf : f = x
   ·rw [if_pos hf, if_pos hf]
   ·rw [if_neg hf, if_neg hf]; refine h x (Ex.occ_mem.2 ⟨hx, ?_⟩)
    simp only [List.mem_cons, List.not_mem_nil, or_false]
    rintro (e | e)
    ·exact hf e.symm
    ·exact hy e.symm
 | .un o a, l, l', m, m', h1, h2, h => by
  simp only [Ex.occ] at h
  simp only [Ex.chk, Ex.chk_congr h1 h2 h]
theorem Ex.chk_closed {e : Ex} {t : Ty} (h : e.chk [] [] = .ok t) {l : List Ap} {m : List Ty} (hl : l.length = m.length) : e.chk l m = .ok t := by
 rw [← h]; refine (Ex.chk_congr (l := []) (m := []) rfl hl fun x hx => ?_).symm
 have := Ex.chk_occ h x hx
 cases this
theorem Ex.put_chk : ∀ {e : Ex} {n : Ap} {v : Ex} {k t : Ty} {l : List Ap} {m : List Ty}, l.length = m.length → v.chk [] [] = .ok k → Fp l m n = some k → e.chk l m = .ok t → (e.put n v).chk l m = .ok t
 | .num _, n, v, k, t, l, m, _, _, _, h => h
 | .name s, n, v, k, t, l, m, hl, hv, hn, h => by
  simp only [Ex.put]
  split
  ·rename_i e; subst e
   simp only [Ex.chk, hn] at h
   cases h
   exact Ex.chk_closed hv hl
  ·exact h
 | .bin o a b, n, v, k, t, l, m, hl, hv, hn, h => by
  simp only [Ex.chk] at h
  split at h
  ·cases h
  ·rename_i s h1
   split at h
   ·cases h
   ·rename_i u h2
    simp only [Ex.put, Ex.chk, Ex.put_chk hl hv hn h1, Ex.put_chk hl hv hn h2]
    split at h
    ·rename_i w h3; cases h; simp only [h3]
    ·cases h
 | .ite a b c, n, v, k, t, l, m, hl, hv, hn, h => by
  simp only [Ex.chk] at h
  split at h
  ·cases h
  ·rename_i s h1
   split at h
   ·cases h
   ·rename_i u h2
    split at h
    ·cases h
    ·rename_i w h3
     simp only [Ex.put, Ex.chk, Ex.put_chk hl hv hn h1, Ex.put_chk hl hv hn h2, Ex.put_chk hl hv hn h3]
     split at h
     ·rename_i h4; cases h; rw [if_pos h4]
     ·cases h
 | .lt y a b, n, v, k, t, l, m, hl, hv, hn, h => by
  simp only [Ex.chk] at h
  split at h
  ·cases h
  ·rename_i s h1
   simp only [Ex.put, Ex.chk, Ex.put_chk hl hv hn h1]
   by_cases hy : y = n
   ·rw [if_pos hy]; exact h
   ·rw [if_neg hy]
    exact Ex.put_chk (by simp [hl]) hv (by rw [Hl hl, if_neg hy]; exact hn) h
 | .fn f y s u b, n, v, k, t, l, m, hl, hv, hn, h => by
  simp only [Ex.chk] at h
  split at h
  ·rename_i hz
   split at h
   ·cases h
   ·rename_i w h1
    simp only [Ex.put, Ex.chk, hz, if_true]
    have h2 : (if f = n ∨ y = n then b else b.put n v).chk (l ++ [f, y]) (m ++ [.fn s u, s]) = .ok w := by
     by_cases hy : f = n ∨ y = n
     ·rw [if_pos hy]; exact h1
     ·rw [if_neg hy]; refine Ex.put_chk (by simp [hl]) hv ?_ h1; rw [Hu hl, if_neg fun e => hy (.inr e), if_neg fun e => hy (.inl e)]; exact hn
    rw [h2]
    simp only
    split at h
    ·rename_i h3; cases h; rw [if_pos h3]
    ·cases h
  ·cases h
 | .un o a, n, v, k, t, l, m, hl, hv, hn, h => by
  simp only [Ex.chk] at h
  split at h
  ·cases h
  ·rename_i s h1
   simp only [Ex.put, Ex.chk, Ex.put_chk hl hv hn h1]
   split at h
   ·rename_i w h3; cases h; simp only [h3]
   ·cases h
set_option maxRecDepth 100000
set_option linter.unusedVariables false
set_option linter.unusedSimpArgs false

theorem K1 (l : List Ap) (y : Ap) : ∀ (a : List Ap), C1 (l ++ a) y = match C1 a y with | some i => some (l.length + i) | none => C1 l y := by
 intro a
 induction a generalizing l with
 | nil => rw [List.append_nil]; rfl
 | cons x a ih =>
  have h1 := ih (l ++ [x])
  have h2 := ih [x]
  rw [List.append_assoc] at h1
  simp only [List.cons_append, List.nil_append] at h1 h2
  rw [h1, h2, I3]
  have h3 := I3 [] x y
  simp only [List.nil_append, List.length_nil] at h3
  rw [h3]
  cases C1 a y with
  | some i => simp only [List.length_append, List.length_cons, List.length_nil]; congr 1; omega
  | none =>
   simp only
   by_cases e : x = y
   ·rw [if_pos e, if_pos e]; simp
   ·rw [if_neg e, if_neg e]; rfl
theorem Wi {l : List Ap} {y : Ap} {i : Nat} (h : C1 l y = some i) : i < l.length ∧ l.getD i [] = y := Nn h
theorem H8 {l : List Ap} {y : Ap} : C1 l y = none ↔ y ∉ l := by
 induction l with
 | nil => simp [C1, Gt]
 | cons x l ih =>
  have h := K1 [x] y l
  simp only [List.cons_append, List.nil_append] at h
  rw [h]
  have h3 := I3 [] x y
  simp only [List.nil_append, List.length_nil] at h3
  rw [h3]
  cases hl : C1 l y with
  | some i =>
   have := Iq hl
   simp [this]
  | none =>
   rw [hl] at ih
   have h4 : y ∉ l := ih.1 rfl
   by_cases e : x = y
   ·simp [e]
   ·rw [if_neg e]
    simp only [List.mem_cons, not_or]
    exact ⟨fun _ => ⟨fun e' => e e'.symm, h4⟩, fun _ => rfl⟩
def bnd (i : Nat) : Ap := 0 :: List.replicate i 0
theorem W5 {i j : Nat} (h : bnd i = bnd j) : i = j := by
 have := congrArg List.length h
 simpa [bnd] using this
theorem Tx (i : Nat) : Bv (bnd i) = false := by simp [bnd, Bv, Oy]
theorem R9 {s : Ap} (h : Bv s = true) (i : Nat) : bnd i ≠ s := fun e => by rw [← e, Tx] at h; cases h
def Ex.db : Ex → List Ap → Ex
 | .num s, _ => .num s
 | .name s, a => .name (match C1 a s with | some i => bnd i | none => s)
 | .bin o a b, l => .bin o (a.db l) (b.db l)
 | .ite a b c, l => .ite (a.db l) (b.db l) (c.db l)
 | .lt x a b, l => .lt [] (a.db l) (b.db (l ++ [x]))
 | .fn g x s t b, l => .fn [] [] s t (b.db (l ++ [g, x]))
 | .un o a, l => .un o (a.db l)
def Ex.alk : Ex → Ex → List Ap → List Ap → Bool
 | .num s, .num t, _, _ => decide (s = t)
 | .name s, .name t, a, b => decide (C1 a s = C1 b t) && ((C1 a s).isSome || decide (s = t))
 | .bin o p q, .bin o' p' q', a, b => decide (o.txt = o'.txt) && p.alk p' a b && q.alk q' a b
 | .ite p q r, .ite p' q' r', a, b => p.alk p' a b && q.alk q' a b && r.alk r' a b
 | .lt x p q, .lt x' p' q', a, b => p.alk p' a b && q.alk q' (a ++ [x]) (b ++ [x'])
 | .fn g x s t q, .fn g' x' s' t' q', a, b => decide (s = s') && decide (t = t') && q.alk q' (a ++ [g, x]) (b ++ [g', x'])
 | .un o p, .un o' p', a, b => decide (o.txt = o'.txt) && p.alk p' a b
 | _, _, _, _ => false
def freshT (av t : List Ap) (n : Nat) : Prop := t.Nodup ∧ ∀ x ∈ t, x ∉ av ∧ ∃ k, k < n ∧ x = nm 120 k
theorem freshT.up {av t : List Ap} {n m : Nat} (h : freshT av t n) (hm : n ≤ m) : freshT av t m := ⟨h.1, fun x hx => by obtain ⟨h1, k, h2, h3⟩ := h.2 x hx; exact ⟨h1, k, by omega, h3⟩⟩
theorem freshT.add {av t : List Ap} {n k : Nat} (h : freshT av t n) (hk : n ≤ k) (ha : nm 120 k ∉ av) : freshT av (t ++ [nm 120 k]) (k + 1) := by
 refine ⟨?_, fun x hx => ?_⟩
 ·rw [List.nodup_append]; refine ⟨h.1, by simp, ?_⟩; intro x hx y hy e
  simp only [List.mem_singleton] at hy
  subst hy; subst e; obtain ⟨_, j, hj, e⟩ := h.2 _ hx
  have := Ac1 e
  omega
 ·rcases List.mem_append.1 hx with hx | hx
  ·obtain ⟨h1, j, h2, h3⟩ := h.2 x hx; exact ⟨h1, j, by omega, h3⟩
  ·simp only [List.mem_singleton] at hx; subst hx; exact ⟨ha, k, by omega, rfl⟩
def Ex.fv : Ex → List Ap
 | .num _ => []
 | .name s => if Bv s = true then [s] else []
 | .bin _ a b => a.fv ++ b.fv
 | .ite a b c => a.fv ++ b.fv ++ c.fv
 | .lt _ a b => a.fv ++ b.fv
 | .fn _ _ _ _ b => b.fv
 | .un _ a => a.fv
theorem Ex.occ_db : ∀ {e : Ex} {a : List Ap}, e.ok = true → e.occ a = (e.db a).fv := by
 intro e
 induction e with
 | num s => intro a _; rfl
 | name s =>
  intro a h
  simp only [Ex.ok] at h
  simp only [Ex.occ, Ex.db, Ex.fv]
  cases hs : C1 a s with
  | none => simp only [if_pos h]; rw [if_neg (H8.1 hs)]
  | some i => simp only [Tx, Bool.false_eq_true, if_false]; rw [if_pos (Iq hs)]
 | bin o p q ih1 ih2 => intro a h; simp only [Ex.ok, Bool.and_eq_true] at h; simp only [Ex.occ, Ex.db, Ex.fv, ih1 h.1, ih2 h.2]
 | ite p q r ih1 ih2 ih3 => intro a h; simp only [Ex.ok, Bool.and_eq_true] at h; simp only [Ex.occ, Ex.db, Ex.fv, ih1 h.1.1, ih2 h.1.2, ih3 h.2]
 | lt x p q ih1 ih2 => intro a h; simp only [Ex.ok, Bool.and_eq_true] at h; simp only [Ex.occ, Ex.db, Ex.fv, ih1 h.1.2, ih2 h.2]
 | fn g x s u q ih => intro a h; simp only [Ex.ok, Bool.and_eq_true] at h; simp only [Ex.occ, Ex.db, Ex.fv, ih h.2]
 | un o p ih => intro a h; simp only [Ex.ok] at h; simp only [Ex.occ, Ex.db, Ex.fv, ih h]
def Ex.as (e e' : Ex) : Prop := e.db [] = e'.db []
theorem Ex.as.free {e e' : Ex} (h : e.as e') (ho : e.ok = true) (ho' : e'.ok = true) : e.free = e'.free ∧ e.occ [] = e'.occ [] := by
 have h1 : e.occ [] = e'.occ [] := by rw [Ex.occ_db ho, Ex.occ_db ho', show e.db [] = e'.db [] from h]
 exact ⟨by unfold Ex.free; rw [h1], h1⟩
theorem Ex.db_size : ∀ (e : Ex) (a : List Ap), (e.db a).size = e.size ∧ (e.db a).tree.depth = e.tree.depth := by
 intro e
 induction e with
 | num s => intro a; exact ⟨rfl, rfl⟩
 | name s => intro a; exact ⟨rfl, rfl⟩
 | bin o p q ih1 ih2 => intro a; obtain ⟨h1, h2⟩ := ih1 a; obtain ⟨h3, h4⟩ := ih2 a; simp only [Ex.db, Ex.size, Ex.tree, Tree.depth, Du, List.isEmpty_cons, cond_false, h1, h2, h3, h4, and_self]
 | ite p q r ih1 ih2 ih3 => intro a; obtain ⟨h1, h2⟩ := ih1 a; obtain ⟨h3, h4⟩ := ih2 a; obtain ⟨h5, h6⟩ := ih3 a; simp only [Ex.db, Ex.size, Ex.tree, Tree.depth, Du, List.isEmpty_cons, cond_false, h1, h2, h3, h4, h5, h6, and_self]
 | lt x p q ih1 ih2 => intro a; obtain ⟨h1, h2⟩ := ih1 a; obtain ⟨h3, h4⟩ := ih2 (a ++ [x]); simp only [Ex.db, Ex.size, Ex.tree, Tree.depth, Du, List.isEmpty_cons, List.isEmpty_nil, cond_true, cond_false, h1, h2, h3, h4, and_self]
 | fn g x s u q ih => intro a; obtain ⟨h1, h2⟩ := ih (a ++ [g, x]); simp only [Ex.db, Ex.size, Ex.tree, Tree.depth, Du, List.isEmpty_cons, List.isEmpty_nil, cond_true, cond_false, h1, h2, and_self]
 | un o p ih => intro a; obtain ⟨h1, h2⟩ := ih a; simp only [Ex.db, Ex.size, Ex.tree, Tree.depth, Du, List.isEmpty_cons, cond_false, h1, h2, and_self]
theorem Ex.as.size {e e' : Ex} (h : e.as e') : e.size = e'.size ∧ e.tree.depth = e'.tree.depth := by
 have h1 := e.db_size []
 have h2 := e'.db_size []
 rw [show e.db [] = e'.db [] from h] at h1
 exact ⟨h1.1.symm.trans h2.1, h1.2.symm.trans h2.2⟩
theorem Ex.db_in : ∀ {v : Ex} {a b c : List Ap}, a.length = b.length → v.occ c = [] → v.db (a ++ c) = v.db (b ++ c) := by
 intro v
 induction v with
 | num s => intro a b c _ _; rfl
 | name s =>
  intro a b c hl h
  simp only [Ex.occ] at h
  have hc : s ∈ c := by
   by_cases hm : s ∈ c
   ·exact hm
   ·rw [if_neg hm] at h; cases h
  simp only [Ex.db, K1]
  cases hs : C1 c s with
  | none => exact absurd hc (H8.1 hs)
  | some i => simp only [hl]
 | bin o p q ih1 ih2 => intro a b c hl h; simp only [Ex.occ, List.append_eq_nil_iff] at h; simp only [Ex.db, ih1 hl h.1, ih2 hl h.2]
 | ite p q r ih1 ih2 ih3 => intro a b c hl h; simp only [Ex.occ, List.append_eq_nil_iff] at h; simp only [Ex.db, ih1 hl h.1.1, ih2 hl h.1.2, ih3 hl h.2]
 | lt x p q ih1 ih2 => intro a b c hl h; simp only [Ex.occ, List.append_eq_nil_iff] at h; simp only [Ex.db, List.append_assoc, ih1 hl h.1, ih2 hl h.2]
 | fn g x s u q ih => intro a b c hl h; simp only [Ex.occ] at h; simp only [Ex.db, List.append_assoc, ih hl h]
 | un o p ih => intro a b c hl h; simp only [Ex.occ] at h; simp only [Ex.db, ih hl h]
theorem Ex.db_cl {v : Ex} (h : v.occ [] = []) {a b : List Ap} (hl : a.length = b.length) : v.db a = v.db b := by
 have := Ex.db_in (v := v) (c := []) hl h
 simpa using this
def Ex.putIf (e : Ex) (n : Ap) (v : Ex) (a : List Ap) : Ex := if n ∈ a then e else e.put n v
theorem It {e : Ex} {n : Ap} {v : Ex} {a : List Ap} (h : n ∈ a) : e.putIf n v a = e := if_pos h
theorem Ew {e : Ex} {n : Ap} {v : Ex} {a : List Ap} (h : n ∉ a) : e.putIf n v a = e.put n v := if_neg h
theorem Rp (o : B5) (p q : Ex) (n : Ap) (v : Ex) (a : List Ap) : (Ex.bin o p q).putIf n v a = .bin o (p.putIf n v a) (q.putIf n v a) := by unfold Ex.putIf; split <;> rfl
theorem Rq (p q r : Ex) (n : Ap) (v : Ex) (a : List Ap) : (Ex.ite p q r).putIf n v a = .ite (p.putIf n v a) (q.putIf n v a) (r.putIf n v a) := by unfold Ex.putIf; split <;> rfl
theorem U8 (o : U2) (p : Ex) (n : Ap) (v : Ex) (a : List Ap) : (Ex.un o p).putIf n v a = .un o (p.putIf n v a) := by unfold Ex.putIf; split <;> rfl
theorem U7 (x : Ap) (p q : Ex) (n : Ap) (v : Ex) (a : List Ap) : (Ex.lt x p q).putIf n v a = .lt x (p.putIf n v a) (q.putIf n v (a ++ [x])) := by
 unfold Ex.putIf
 simp only [List.mem_append, List.mem_singleton, Ex.put]
 by_cases h : n ∈ a
 ·simp [h]
 ·by_cases h2 : x = n
  ·subst h2; simp [h]
  ·have h3 : ¬ n = x := fun e => h2 e.symm
   simp [h, h2, h3]
theorem U6 (g x : Ap) (s u : Ty) (q : Ex) (n : Ap) (v : Ex) (a : List Ap) : (Ex.fn g x s u q).putIf n v a = .fn g x s u (q.putIf n v (a ++ [g, x])) := by
 unfold Ex.putIf
 simp only [List.mem_append, List.mem_cons, List.not_mem_nil, or_false, Ex.put]
 by_cases h : n ∈ a
 ·simp [h]
 ·by_cases h2 : g = n ∨ x = n
  ·have : n = g ∨ n = x := h2.imp Eq.symm Eq.symm
   simp [h, h2, this]
  ·have : ¬ (n = g ∨ n = x) := fun e => h2 (e.imp Eq.symm Eq.symm)
   simp [h, h2, this]
theorem Ex.put_db {n : Ap} {v : Ex} (hv : v.occ [] = []) : ∀ {e e' : Ex} {a b : List Ap}, a.length = b.length → e.ok = true → e'.ok = true → e.db a = e'.db b → (e.putIf n v a).db a = (e'.putIf n v b).db b := by
 intro e
 induction e with
 | num s => intro e' a b hl h h' hd; cases e' <;> simp only [Ex.db, reduceCtorEq] at hd; cases hd; unfold Ex.putIf; split <;> split <;> rfl
 | name s =>
  intro e' a b hl h h' hd
  cases e' <;> simp only [Ex.db, reduceCtorEq] at hd
  rename_i s'
  simp only [Ex.ok] at h h'
  simp only [Ex.name.injEq] at hd
  cases hs : C1 a s with
  | none => cases ht : C1 b s' with
   | none =>
    rw [hs, ht] at hd; simp only at hd; subst hd
    have h1 := H8.1 hs
    have h2 := H8.1 ht
    by_cases e : s = n
    ·subst e; rw [Ew h1, Ew h2]
     simp only [Ex.put, if_true]
     exact Ex.db_cl hv hl
    ·have h3 : ∀ c, (Ex.name s).putIf n v c = .name s := fun c => by unfold Ex.putIf; split <;> simp [Ex.put, e]
     rw [h3, h3]; simp only [Ex.db, hs, ht]
   | some j => rw [hs, ht] at hd; exact absurd hd.symm (R9 h j)
  | some i => cases ht : C1 b s' with
   | none => rw [hs, ht] at hd; exact absurd hd (R9 h' i)
   | some j =>
    rw [hs, ht] at hd
    have h3 : ∀ {c : List Ap} {z : Ap}, z ∈ c → (Ex.name z).putIf n v c = .name z := fun {c z} hz => by
     by_cases e : z = n
     ·subst e; exact It hz
     ·unfold Ex.putIf; split <;> simp [Ex.put, e]
    rw [h3 (Iq hs), h3 (Iq ht)]
    simp only [Ex.db, hs, ht, W5 hd]
 | bin o p q ih1 ih2 =>
  intro e' a b hl h h' hd
  cases e' <;> simp only [Ex.db, reduceCtorEq] at hd
  simp only [Ex.ok, Bool.and_eq_true] at h h'
  simp only [Ex.bin.injEq] at hd
  simp only [Rp, Ex.db, ih1 hl h.1 h'.1 hd.2.1, ih2 hl h.2 h'.2 hd.2.2, hd.1]
 | ite p q r ih1 ih2 ih3 =>
  intro e' a b hl h h' hd
  cases e' <;> simp only [Ex.db, reduceCtorEq] at hd
  simp only [Ex.ok, Bool.and_eq_true] at h h'
  simp only [Ex.ite.injEq] at hd
  simp only [Rq, Ex.db, ih1 hl h.1.1 h'.1.1 hd.1, ih2 hl h.1.2 h'.1.2 hd.2.1, ih3 hl h.2 h'.2 hd.2.2]
 | lt x p q ih1 ih2 =>
  intro e' a b hl h h' hd
  cases e' <;> simp only [Ex.db, reduceCtorEq] at hd
  rename_i x' p' q'
  simp only [Ex.ok, Bool.and_eq_true] at h h'
  simp only [Ex.lt.injEq] at hd
  simp only [U7, Ex.db, ih1 hl h.1.2 h'.1.2 hd.2.1, ih2 (a := a ++ [x]) (b := b ++ [x']) (by simp [hl]) h.2 h'.2 hd.2.2]
 | fn g x s u q ih =>
  intro e' a b hl h h' hd
  cases e' <;> simp only [Ex.db, reduceCtorEq] at hd
  rename_i g' x' s' u' q'
  simp only [Ex.ok, Bool.and_eq_true] at h h'
  simp only [Ex.fn.injEq] at hd
  simp only [U6, Ex.db, ih (a := a ++ [g, x]) (b := b ++ [g', x']) (by simp [hl]) h.2 h'.2 hd.2.2.2.2, hd.2.2.1, hd.2.2.2.1]
 | un o p ih =>
  intro e' a b hl h h' hd
  cases e' <;> simp only [Ex.db, reduceCtorEq] at hd
  simp only [Ex.ok] at h h'
  simp only [Ex.un.injEq] at hd
  simp only [U8, Ex.db, ih hl h h' hd.2, hd.1]
theorem Ex.as.put {e e' : Ex} (h : e.as e') (ho : e.ok = true) (ho' : e'.ok = true) {n : Ap} {v : Ex} (hv : v.occ [] = []) : (e.put n v).as (e'.put n v) := by
 have := Ex.put_db (n := n) hv (a := []) (b := []) rfl ho ho' h
 rwa [Ew (by simp), Ew (by simp)] at this
/- Types of alike expressions. -/
theorem ty_bin (o : B5) (a b : Ex) (l : List Ap) (m : List Ty) : (Ex.bin o a b).ty l m = (a.ty l m).bind fun s => (b.ty l m).bind fun t => o.ty s t := by
 unfold Ex.ty; simp only [Ex.chk]
 cases a.chk l m with
 | error x => rfl
 | ok s => cases b.chk l m with
  | error x => rfl
  | ok t => simp only [Option.bind_some]; cases o.ty s t <;> rfl
theorem ty_ite (a b c : Ex) (l : List Ap) (m : List Ty) : (Ex.ite a b c).ty l m = (a.ty l m).bind fun s => (b.ty l m).bind fun t => (c.ty l m).bind fun u => if s = .i ∧ t = u then some t else none := by
 unfold Ex.ty; simp only [Ex.chk]
 cases a.chk l m with
 | error x => rfl
 | ok s => cases b.chk l m with
  | error x => rfl
  | ok t => cases c.chk l m with
   | error x => rfl
   | ok u =>
    simp only [Option.bind_some]
    by_cases h : s = .i ∧ t = u
    ·rw [if_pos h, if_pos h]
    ·rw [if_neg h, if_neg h]
theorem ty_lt (x : Ap) (a b : Ex) (l : List Ap) (m : List Ty) : (Ex.lt x a b).ty l m = (a.ty l m).bind fun s => b.ty (l ++ [x]) (m ++ [s]) := by
 unfold Ex.ty; simp only [Ex.chk]
 cases a.chk l m <;> rfl
theorem ty_fn (f x : Ap) (s t : Ty) (b : Ex) (l : List Ap) (m : List Ty) : (Ex.fn f x s t b).ty l m = if (Ty.fn s t).size ≤ 16 then (b.ty (l ++ [f, x]) (m ++ [.fn s t, s])).bind fun u => if u = t then some (.fn s t) else none else none := by
 unfold Ex.ty; simp only [Ex.chk]
 by_cases h : (Ty.fn s t).size ≤ 16
 ·rw [if_pos h, if_pos h]
  cases b.chk (l ++ [f, x]) (m ++ [.fn s t, s]) with
  | error x => rfl
  | ok u =>
   simp only [Option.bind_some]
   by_cases h : u = t
   ·rw [if_pos h, if_pos h]
   ·rw [if_neg h, if_neg h]
 ·rw [if_neg h, if_neg h]
theorem ty_un (o : U2) (a : Ex) (l : List Ap) (m : List Ty) : (Ex.un o a).ty l m = (a.ty l m).bind fun s => o.ty s := by
 unfold Ex.ty; simp only [Ex.chk]
 cases a.chk l m with
 | error x => rfl
 | ok s => simp only [Option.bind_some]; cases o.ty s <;> rfl
theorem ty_name (s : Ap) (l : List Ap) (m : List Ty) : (Ex.name s).ty l m = Fp l m s := by
 unfold Ex.ty; simp only [Ex.chk]
 cases Fp l m s <;> rfl
theorem Qn {l a : List Ap} {m k : List Ty} (h : l.length = m.length) (s : Ap) : Fp (l ++ a) (m ++ k) s = match C1 a s with | some i => k[i]? | none => Fp l m s := by
 unfold Fp
 rw [K1]
 cases hs : C1 a s with
 | some i => simp only [Option.bind_some, h]; rw [List.getElem?_append_right (by omega)]; congr 1; omega
 | none =>
  simp only
  cases hi : C1 l s with
  | none => rfl
  | some i =>
   have := (Wi hi).1
   simp only [Option.bind_some]; rw [List.getElem?_append_left (by omega)]
theorem Ex.ty_db {l : List Ap} {m : List Ty} (hlm : l.length = m.length) : ∀ {e e' : Ex} {a b : List Ap} {k : List Ty}, a.length = k.length → b.length = k.length → e.ok = true → e'.ok = true → e.db a = e'.db b → e.ty (l ++ a) (m ++ k) = e'.ty (l ++ b) (m ++ k) := by
 intro e
 induction e with
 | num s => intro e' a b k h1 h2 h h' hd; cases e' <;> simp only [Ex.db, reduceCtorEq] at hd; rfl
 | name s =>
  intro e' a b k h1 h2 h h' hd
  cases e' <;> simp only [Ex.db, reduceCtorEq] at hd
  rename_i s'
  simp only [Ex.ok] at h h'
  simp only [Ex.name.injEq] at hd
  rw [ty_name, ty_name, Qn hlm, Qn hlm]
  cases hs : C1 a s with
  | none => cases ht : C1 b s' with
   | none => rw [hs, ht] at hd; simp only at hd; subst hd; rfl
   | some j => rw [hs, ht] at hd; exact absurd hd.symm (R9 h j)
  | some i => cases ht : C1 b s' with
   | none => rw [hs, ht] at hd; exact absurd hd (R9 h' i)
   | some j => rw [hs, ht] at hd; rw [W5 hd]
 | bin o p q ih1 ih2 =>
  intro e' a b k h1 h2 h h' hd
  cases e' <;> simp only [Ex.db, reduceCtorEq] at hd
  simp only [Ex.ok, Bool.and_eq_true] at h h'
  simp only [Ex.bin.injEq] at hd
  rw [ty_bin, ty_bin, ih1 h1 h2 h.1 h'.1 hd.2.1, ih2 h1 h2 h.2 h'.2 hd.2.2, hd.1]
 | ite p q r ih1 ih2 ih3 =>
  intro e' a b k h1 h2 h h' hd
  cases e' <;> simp only [Ex.db, reduceCtorEq] at hd
  simp only [Ex.ok, Bool.and_eq_true] at h h'
  simp only [Ex.ite.injEq] at hd
  rw [ty_ite, ty_ite, ih1 h1 h2 h.1.1 h'.1.1 hd.1, ih2 h1 h2 h.1.2 h'.1.2 hd.2.1, ih3 h1 h2 h.2 h'.2 hd.2.2]
 | lt x p q ih1 ih2 =>
  intro e' a b k h1 h2 h h' hd
  cases e' <;> simp only [Ex.db, reduceCtorEq] at hd
  rename_i x' p' q'
  simp only [Ex.ok, Bool.and_eq_true] at h h'
  simp only [Ex.lt.injEq] at hd
  rw [ty_lt, ty_lt, ih1 h1 h2 h.1.2 h'.1.2 hd.2.1]
  congr 1; funext s
  have := ih2 (a := a ++ [x]) (b := b ++ [x']) (k := k ++ [s]) (by simp [h1]) (by simp [h2]) h.2 h'.2 hd.2.2
  simpa only [List.append_assoc] using this
 | fn g x s u q ih =>
  intro e' a b k h1 h2 h h' hd
  cases e' <;> simp only [Ex.db, reduceCtorEq] at hd
  rename_i g' x' s' u' q'
  simp only [Ex.ok, Bool.and_eq_true] at h h'
  simp only [Ex.fn.injEq] at hd
  obtain ⟨-, -, rfl, rfl, hd⟩ := hd
  have := ih (a := a ++ [g, x]) (b := b ++ [g', x']) (k := k ++ [.fn s u, s]) (by simp [h1]) (by simp [h2]) h.2 h'.2 hd
  simp only [← List.append_assoc] at this
  rw [ty_fn, ty_fn, this]
 | un o p ih =>
  intro e' a b k h1 h2 h h' hd
  cases e' <;> simp only [Ex.db, reduceCtorEq] at hd
  simp only [Ex.ok] at h h'
  simp only [Ex.un.injEq] at hd
  rw [ty_un, ty_un, ih h1 h2 h h' hd.2, hd.1]
theorem Ex.as.ty {e e' : Ex} (h : e.as e') (ho : e.ok = true) (ho' : e'.ok = true) {l : List Ap} {m : List Ty} (hlm : l.length = m.length) : e.ty l m = e'.ty l m := by
 have := Ex.ty_db hlm (a := []) (b := []) (k := []) rfl rfl ho ho' h
 simpa using this
theorem Ex.as.hd {e e' : Ex} (h : e.as e') : e.hd = e'.hd := by
 have h : e.db [] = e'.db [] := h
 cases e <;> cases e' <;> simp only [Ex.db, reduceCtorEq] at h <;> first
  | rfl
  | (simp only [Ex.bin.injEq] at h; simp only [Ex.hd, h.1]; rfl)
  | (simp only [Ex.un.injEq] at h; simp only [Ex.hd, h.1]; rfl)
theorem Ex.as.symm {e e' : Ex} (h : e.as e') : e'.as e := Eq.symm h
theorem Ex.as.trans {e e' e'' : Ex} (h : e.as e') (h' : e'.as e'') : e.as e'' := Eq.trans h h'
set_option maxRecDepth 100000
set_option linter.unusedVariables false
set_option linter.unusedSimpArgs false

theorem L7         : ∀ (n : Nat) {I : Heap} {e : Ex} {cs : List Value} (_ : SizeOf.sizeOf e < n) (_ : Rep I e.tree cs) (_ : e.ok = true) (nm : Ap ) (_ : Bv     nm = true) {v : Ex} {ds : List Value} (_ : Rep I v.tree ds) (L : Bh ),
    Fun Tryz.prog 88 [.agg cs.toArray, .string (str nm), .agg ds.toArray] I L (RP (e.put nm v).tree L) := by
  intro n
  induction n with
  | zero => intro I e cs h; omega
  | succ n ihn =>
    intro I e cs hlt h hok nm hnm v ds hv L
    obtain ⟨oa, c, oaf, cf, rfl, hf, hcl, hcs⟩ := h.cells
    obtain ⟨ov, cv, _, rfl, -⟩ := hv.open
    have hle : HLe I I := .refl _
    refine Ag        (by simp) ?_
    refine Se rfl ?_
    refine B7    rfl rfl .free rfl ?_
    intro b3
    refine B7    rfl rfl .free rfl ?_
    intro b5
    refine Aw      .free rfl ?_
    intro b6
    refine Aa     (Ab    (Se rfl ?_))
    refine A3    rfl .free rfl ?_
    refine Ca rfl (Bu            hf.rep _) ?_
    rintro _ _ _ _ ⟨rfl, rfl, rfl⟩
    refine Aa     ?_
    refine As     rfl ?_ ?_
    · intro c0
      try simp only [nb] at c0
      have hb : e.bare = true := by rw [Ex.bare_parts]; exact c0
      refine Ab    (Se rfl (Oh rfl ?_))
      refine A1    rfl .free rfl ?_
      refine Om rfl (Od rfl rfl rfl (Aa     ?_))
      refine As     rfl ?_ ?_
      · intro c1
        try simp only [nb] at c1
        refine Se rfl ?_
        refine A3    rfl .free rfl ?_
        refine Bn   rfl rfl rfl rfl .free ?_
        refine Aa     ?_
        refine Ad    (.c rfl .nil) ?_
        refine ⟨I, L, .refl _, Bf   , _, rfl, ?_, rfl⟩
        have : e.put nm v = v := by
          cases e with
          | num s =>
            have c1 : s = nm := c1
            subst c1
            have h2 := Fd           hnm
            rw [show By    s = true from hok] at h2; cases h2
          | name s => exact if_pos c1
          | _ => cases hb
        rw [this]; exact hv
      intro c1
      try simp only [nb] at c1
      refine Ae     (Se rfl ?_)
      refine A3    rfl .free rfl ?_
      refine Bn   rfl rfl rfl rfl .free ?_
      refine Aa     ?_
      refine Ad    (.c rfl .nil) ?_
      refine ⟨I, L, .refl _, Bf   , _, rfl, ?_, rfl⟩
      have : e.put nm v = e := by
        cases e with
        | num s => rfl
        | name s => exact if_neg c1
        | _ => cases hb
      rw [this]; exact hf.rep
    intro c0
    try simp only [nb] at c0
    have hb : e.bare = false := by rw [Ex.bare_parts]; exact c0
    have hsh := e.shapes hb
    have hok0 := hok
    have hpos : 0 < e.tree.parts.length := by
      rw [Ex.bare_parts] at hb
      have : e.tree.parts ≠ [] := by intro hh; rw [hh] at hb; cases hb
      exact List.length_pos_iff.2 this
    obtain ⟨xa, rfl⟩ : ∃ xa, oa = some xa := ⟨_, Ct       hf.nil hpos⟩
    have hp := hf.len
    refine Ae     (Se rfl (Oh rfl ?_))
    refine A1    rfl .free rfl ?_
    refine Ca rfl (Fm             (hcs _ rfl) (by have := hcl.length; omega) hcl.plain hpos hp _) ?_
    rintro _ _ _ _ ⟨bc, sp, cc, rfl, hcc, rfl, rfl⟩
    refine Bt       rfl rfl rfl .free rfl ?_
    refine Aw      .free rfl ?_
    intro b7
    refine Bn   rfl rfl rfl rfl .free ?_
    refine Aa     (Ab    (Ab    ?_))
    rcases hsh with ⟨o, a, b, rfl⟩ | ⟨a, b, d, rfl⟩ | ⟨z, a, b, rfl⟩ | ⟨g, z, s, t, b, rfl⟩ | ⟨o, a, rfl⟩
    · skip
      have hlen : (Ex.bin o a b).tree.parts.length = 3 := rfl
      have hki := Mq       o a b
      simp only [Ex.bin.sizeOf_spec] at hlt
      simp only [Ex.ok, Bool.and_eq_true] at hok
      obtain ⟨_, hrl⟩ : ∃ _ : True, RepL I (Ex.bin o a b).tree.parts _ := ⟨trivial, hcl⟩
      simp only [show (Ex.bin o a b).tree.parts = [.node o.txt [], a.tree, b.tree] from rfl, El    , List.cons_append, List.nil_append] at hrl ⊢
      refine Af      rfl ?_
      refine A3    rfl .free rfl ?_
      refine Ca rfl (Ej          hf.rep _) ?_
      rintro _ J _ e0 ⟨ok, ck, rfl, hk, rfl⟩
      have hf := hf.mono e0
      have hv := hv.mono e0
      have hle := e0
      rw [hki] at hk
      rw [hki]
      refine On rfl (Om rfl (Aa     (Aj      ?_)))
      refine Dz     ?_
      refine Se rfl (Oc rfl rfl rfl (Aa     (Ab    ?_)))
      refine Cc      rfl (by first | rfl | decide | (simp; done) | omega) ?_
      refine Ae     (Ab    (Aj      (Se rfl ?_)))
      first | refine A5    rfl rfl _ rfl .free rfl ?_ | refine A6    rfl rfl _ rfl .free rfl ?_
      refine Ef    rfl .free rfl ?_
      refine Oa rfl (Aa     (Se rfl ?_))
      refine A3    rfl .free rfl ?_
      refine Om rfl ?_
      refine Ca rfl (Cu           hf.rep hok0 _ _) ?_
      rintro _ J1 _ e1 ⟨o1, k1, rfl, hs1, rfl⟩
      refine Om rfl ?_
      refine Ca rfl (C0                (hs1.rd _) k1 nm) ?_
      rintro _ _ _ _ ⟨rfl, rfl, rfl⟩
      refine Cp    rfl .free rfl ?_
      refine D4    (fun w h => Mem.le e1 h) ?_
      refine Aa     ?_
      first | refine K8   rfl (by simp [Ex.binds]) ?_ | refine K7   rfl (by simp [Ex.binds]) ?_ | refine Bj     (by simp [look, A7 , *]) ?_
      refine Dp    13 rfl rfl ?_
      refine Da 0 rfl (Ai          rfl) ?_
      refine Dt 1 [12] rfl (Br    rfl) ?_
      refine Da 2 rfl (Ah     rfl) ?_
      refine Da 3 rfl (Ai          rfl) ?_
      refine Dt 4 [12] rfl (Br    rfl) ?_
      refine Da 5 rfl (Ah     rfl) ?_
      first | refine Da 6 rfl (Bl    rfl rfl _ rfl) ?_ | refine Da 6 rfl (Bm    rfl rfl _ rfl) ?_
      refine Dt 7 [12] rfl (Bq    rfl) ?_
      refine Da 8 rfl (Ah     rfl) ?_
      refine Dt 9 [12] rfl (Cx    rfl) ?_
      refine Dc 10 rfl rfl (ihn (by omega) (hf.as 1 a.tree (by omega) rfl) hok.1 nm hnm hv _) ?_
      rintro _ J2 _ e2 ⟨cs2, rfl, hr_0, rfl⟩
      obtain ⟨o2, k2, _, rfl, -⟩ := hr_0.open
      have hf := hf.mono e2
      have hv := hv.mono e2
      have hle := hle.trans e2
      have hk := hk.mono e2
      refine Hx ?_
      first | refine Da 11 rfl (Bl    rfl rfl _ rfl) ?_ | refine Da 11 rfl (Bm    rfl rfl _ rfl) ?_
      refine Dx 12 rfl rfl rfl rfl ?_
      refine At     (by kernel_rfl) ?_
      refine Ak        (Af      rfl ?_)
      refine Or rfl rfl rfl ?_
      refine Om rfl (Aa     ?_)
      refine B0      ?_
      refine Se rfl (Oc rfl rfl rfl (Aa     (Ab    ?_)))
      refine Cc      rfl (by first | rfl | decide | (simp; done) | omega) ?_
      refine Ae     (Ab    (Aj      (Se rfl ?_)))
      first | refine A5    rfl rfl _ rfl .free rfl ?_ | refine A6    rfl rfl _ rfl .free rfl ?_
      refine Ef    rfl .free rfl ?_
      refine Oa rfl (Aa     (Se rfl ?_))
      refine A3    rfl .free rfl ?_
      refine Om rfl ?_
      refine Ca rfl (Cu           hf.rep hok0 _ _) ?_
      rintro _ J1 _ e1 ⟨o1, k1, rfl, hs1, rfl⟩
      refine Om rfl ?_
      refine Ca rfl (C0                (hs1.rd _) k1 nm) ?_
      rintro _ _ _ _ ⟨rfl, rfl, rfl⟩
      refine Cp    rfl .free rfl ?_
      refine D4    (fun w h => Mem.le e1 h) ?_
      refine Aa     ?_
      first | refine K8   rfl (by simp [Ex.binds]) ?_ | refine K7   rfl (by simp [Ex.binds]) ?_ | refine Bj     (by simp [look, A7 , *]) ?_
      refine Dp    13 rfl rfl ?_
      refine Da 0 rfl (Ai          rfl) ?_
      refine Dt 1 [12] rfl (Br    rfl) ?_
      refine Da 2 rfl (Ah     rfl) ?_
      refine Da 3 rfl (Ai          rfl) ?_
      refine Dt 4 [12] rfl (Br    rfl) ?_
      refine Da 5 rfl (Ah     rfl) ?_
      first | refine Da 6 rfl (Bl    rfl rfl _ rfl) ?_ | refine Da 6 rfl (Bm    rfl rfl _ rfl) ?_
      refine Dt 7 [12] rfl (Bq    rfl) ?_
      refine Da 8 rfl (Ah     rfl) ?_
      refine Dt 9 [12] rfl (Cx    rfl) ?_
      refine Dc 10 rfl rfl (ihn (by omega) (hf.as 2 b.tree (by omega) rfl) hok.2 nm hnm hv _) ?_
      rintro _ J2 _ e2 ⟨cs2, rfl, hr_1, rfl⟩
      obtain ⟨o2, k2, _, rfl, -⟩ := hr_1.open
      have hf := hf.mono e2
      have hv := hv.mono e2
      have hle := hle.trans e2
      have hk := hk.mono e2
      have hr_0 := hr_0.mono e2
      refine Hx ?_
      first | refine Da 11 rfl (Bl    rfl rfl _ rfl) ?_ | refine Da 11 rfl (Bm    rfl rfl _ rfl) ?_
      refine Dx 12 rfl rfl rfl rfl ?_
      refine At     (by kernel_rfl) ?_
      refine Ak        (Af      rfl ?_)
      refine Or rfl rfl rfl ?_
      refine Om rfl (Aa     ?_)
      refine B0      ?_
      refine Se rfl (Oc rfl rfl rfl (Aa     (Ab    ?_)))
      refine C5      rfl (by first | rfl | decide | (simp; done) | omega) ?_
      refine Bz     rfl ?_
      refine Se rfl ?_
      refine A3    rfl .free rfl ?_
      refine Bn   rfl rfl rfl rfl .free ?_
      refine Aa     ?_
      refine Bg    (fun w h => h.f1) (Bi       ?_)
      intro hz
      have hf := hf.mono hz
      refine Ad    (.c rfl .nil) ?_
      exact ⟨_, L, hle.trans hz, Bf   , _, rfl, .mk' rfl (.cons (hf.as 0 (.node o.txt []) (by omega) rfl) (.cons (hr_0.mono hz) (.cons (hr_1.mono hz) .nil))) (fun y hy => by cases hy; exact Be        (xs := [_, _, _, _, _, _])) (by simp) hcc (by simp [Az  ]) (by simp [Az  ]), rfl⟩
    · skip
      have hlen : (Ex.ite a b d).tree.parts.length = 4 := rfl
      have hki := Mt       a b d
      simp only [Ex.ite.sizeOf_spec] at hlt
      simp only [Ex.ok, Bool.and_eq_true] at hok
      obtain ⟨_, hrl⟩ : ∃ _ : True, RepL I (Ex.ite a b d).tree.parts _ := ⟨trivial, hcl⟩
      simp only [show (Ex.ite a b d).tree.parts = [.node F5  [], a.tree, b.tree, d.tree] from rfl, El    , List.cons_append, List.nil_append] at hrl ⊢
      refine Af      rfl ?_
      refine A3    rfl .free rfl ?_
      refine Ca rfl (Ej          hf.rep _) ?_
      rintro _ J _ e0 ⟨ok, ck, rfl, hk, rfl⟩
      have hf := hf.mono e0
      have hv := hv.mono e0
      have hle := e0
      rw [hki] at hk
      rw [hki]
      refine On rfl (Om rfl (Aa     (Aj      ?_)))
      refine Dz     ?_
      refine Se rfl (Oc rfl rfl rfl (Aa     (Ab    ?_)))
      refine Cc      rfl (by first | rfl | decide | (simp; done) | omega) ?_
      refine Ae     (Ab    (Aj      (Se rfl ?_)))
      first | refine A5    rfl rfl _ rfl .free rfl ?_ | refine A6    rfl rfl _ rfl .free rfl ?_
      refine Ef    rfl .free rfl ?_
      refine Oa rfl (Aa     (Se rfl ?_))
      refine A3    rfl .free rfl ?_
      refine Om rfl ?_
      refine Ca rfl (Cu           hf.rep hok0 _ _) ?_
      rintro _ J1 _ e1 ⟨o1, k1, rfl, hs1, rfl⟩
      refine Om rfl ?_
      refine Ca rfl (C0                (hs1.rd _) k1 nm) ?_
      rintro _ _ _ _ ⟨rfl, rfl, rfl⟩
      refine Cp    rfl .free rfl ?_
      refine D4    (fun w h => Mem.le e1 h) ?_
      refine Aa     ?_
      first | refine K8   rfl (by simp [Ex.binds]) ?_ | refine K7   rfl (by simp [Ex.binds]) ?_ | refine Bj     (by simp [look, A7 , *]) ?_
      refine Dp    13 rfl rfl ?_
      refine Da 0 rfl (Ai          rfl) ?_
      refine Dt 1 [12] rfl (Br    rfl) ?_
      refine Da 2 rfl (Ah     rfl) ?_
      refine Da 3 rfl (Ai          rfl) ?_
      refine Dt 4 [12] rfl (Br    rfl) ?_
      refine Da 5 rfl (Ah     rfl) ?_
      first | refine Da 6 rfl (Bl    rfl rfl _ rfl) ?_ | refine Da 6 rfl (Bm    rfl rfl _ rfl) ?_
      refine Dt 7 [12] rfl (Bq    rfl) ?_
      refine Da 8 rfl (Ah     rfl) ?_
      refine Dt 9 [12] rfl (Cx    rfl) ?_
      refine Dc 10 rfl rfl (ihn (by omega) (hf.as 1 a.tree (by omega) rfl) hok.1.1 nm hnm hv _) ?_
      rintro _ J2 _ e2 ⟨cs2, rfl, hr_0, rfl⟩
      obtain ⟨o2, k2, _, rfl, -⟩ := hr_0.open
      have hf := hf.mono e2
      have hv := hv.mono e2
      have hle := hle.trans e2
      have hk := hk.mono e2
      refine Hx ?_
      first | refine Da 11 rfl (Bl    rfl rfl _ rfl) ?_ | refine Da 11 rfl (Bm    rfl rfl _ rfl) ?_
      refine Dx 12 rfl rfl rfl rfl ?_
      refine At     (by kernel_rfl) ?_
      refine Ak        (Af      rfl ?_)
      refine Or rfl rfl rfl ?_
      refine Om rfl (Aa     ?_)
      refine B0      ?_
      refine Se rfl (Oc rfl rfl rfl (Aa     (Ab    ?_)))
      refine Cc      rfl (by first | rfl | decide | (simp; done) | omega) ?_
      refine Ae     (Ab    (Aj      (Se rfl ?_)))
      first | refine A5    rfl rfl _ rfl .free rfl ?_ | refine A6    rfl rfl _ rfl .free rfl ?_
      refine Ef    rfl .free rfl ?_
      refine Oa rfl (Aa     (Se rfl ?_))
      refine A3    rfl .free rfl ?_
      refine Om rfl ?_
      refine Ca rfl (Cu           hf.rep hok0 _ _) ?_
      rintro _ J1 _ e1 ⟨o1, k1, rfl, hs1, rfl⟩
      refine Om rfl ?_
      refine Ca rfl (C0                (hs1.rd _) k1 nm) ?_
      rintro _ _ _ _ ⟨rfl, rfl, rfl⟩
      refine Cp    rfl .free rfl ?_
      refine D4    (fun w h => Mem.le e1 h) ?_
      refine Aa     ?_
      first | refine K8   rfl (by simp [Ex.binds]) ?_ | refine K7   rfl (by simp [Ex.binds]) ?_ | refine Bj     (by simp [look, A7 , *]) ?_
      refine Dp    13 rfl rfl ?_
      refine Da 0 rfl (Ai          rfl) ?_
      refine Dt 1 [12] rfl (Br    rfl) ?_
      refine Da 2 rfl (Ah     rfl) ?_
      refine Da 3 rfl (Ai          rfl) ?_
      refine Dt 4 [12] rfl (Br    rfl) ?_
      refine Da 5 rfl (Ah     rfl) ?_
      first | refine Da 6 rfl (Bl    rfl rfl _ rfl) ?_ | refine Da 6 rfl (Bm    rfl rfl _ rfl) ?_
      refine Dt 7 [12] rfl (Bq    rfl) ?_
      refine Da 8 rfl (Ah     rfl) ?_
      refine Dt 9 [12] rfl (Cx    rfl) ?_
      refine Dc 10 rfl rfl (ihn (by omega) (hf.as 2 b.tree (by omega) rfl) hok.1.2 nm hnm hv _) ?_
      rintro _ J2 _ e2 ⟨cs2, rfl, hr_1, rfl⟩
      obtain ⟨o2, k2, _, rfl, -⟩ := hr_1.open
      have hf := hf.mono e2
      have hv := hv.mono e2
      have hle := hle.trans e2
      have hk := hk.mono e2
      have hr_0 := hr_0.mono e2
      refine Hx ?_
      first | refine Da 11 rfl (Bl    rfl rfl _ rfl) ?_ | refine Da 11 rfl (Bm    rfl rfl _ rfl) ?_
      refine Dx 12 rfl rfl rfl rfl ?_
      refine At     (by kernel_rfl) ?_
      refine Ak        (Af      rfl ?_)
      refine Or rfl rfl rfl ?_
      refine Om rfl (Aa     ?_)
      refine B0      ?_
      refine Se rfl (Oc rfl rfl rfl (Aa     (Ab    ?_)))
      refine Cc      rfl (by first | rfl | decide | (simp; done) | omega) ?_
      refine Ae     (Ab    (Aj      (Se rfl ?_)))
      first | refine A5    rfl rfl _ rfl .free rfl ?_ | refine A6    rfl rfl _ rfl .free rfl ?_
      refine Ef    rfl .free rfl ?_
      refine Oa rfl (Aa     (Se rfl ?_))
      refine A3    rfl .free rfl ?_
      refine Om rfl ?_
      refine Ca rfl (Cu           hf.rep hok0 _ _) ?_
      rintro _ J1 _ e1 ⟨o1, k1, rfl, hs1, rfl⟩
      refine Om rfl ?_
      refine Ca rfl (C0                (hs1.rd _) k1 nm) ?_
      rintro _ _ _ _ ⟨rfl, rfl, rfl⟩
      refine Cp    rfl .free rfl ?_
      refine D4    (fun w h => Mem.le e1 h) ?_
      refine Aa     ?_
      first | refine K8   rfl (by simp [Ex.binds]) ?_ | refine K7   rfl (by simp [Ex.binds]) ?_ | refine Bj     (by simp [look, A7 , *]) ?_
      refine Dp    13 rfl rfl ?_
      refine Da 0 rfl (Ai          rfl) ?_
      refine Dt 1 [12] rfl (Br    rfl) ?_
      refine Da 2 rfl (Ah     rfl) ?_
      refine Da 3 rfl (Ai          rfl) ?_
      refine Dt 4 [12] rfl (Br    rfl) ?_
      refine Da 5 rfl (Ah     rfl) ?_
      first | refine Da 6 rfl (Bl    rfl rfl _ rfl) ?_ | refine Da 6 rfl (Bm    rfl rfl _ rfl) ?_
      refine Dt 7 [12] rfl (Bq    rfl) ?_
      refine Da 8 rfl (Ah     rfl) ?_
      refine Dt 9 [12] rfl (Cx    rfl) ?_
      refine Dc 10 rfl rfl (ihn (by omega) (hf.as 3 d.tree (by omega) rfl) hok.2 nm hnm hv _) ?_
      rintro _ J2 _ e2 ⟨cs2, rfl, hr_2, rfl⟩
      obtain ⟨o2, k2, _, rfl, -⟩ := hr_2.open
      have hf := hf.mono e2
      have hv := hv.mono e2
      have hle := hle.trans e2
      have hk := hk.mono e2
      have hr_0 := hr_0.mono e2
      have hr_1 := hr_1.mono e2
      refine Hx ?_
      first | refine Da 11 rfl (Bl    rfl rfl _ rfl) ?_ | refine Da 11 rfl (Bm    rfl rfl _ rfl) ?_
      refine Dx 12 rfl rfl rfl rfl ?_
      refine At     (by kernel_rfl) ?_
      refine Ak        (Af      rfl ?_)
      refine Or rfl rfl rfl ?_
      refine Om rfl (Aa     ?_)
      refine B0      ?_
      refine Se rfl (Oc rfl rfl rfl (Aa     (Ab    ?_)))
      refine C5      rfl (by first | rfl | decide | (simp; done) | omega) ?_
      refine Bz     rfl ?_
      refine Se rfl ?_
      refine A3    rfl .free rfl ?_
      refine Bn   rfl rfl rfl rfl .free ?_
      refine Aa     ?_
      refine Bg    (fun w h => h.f1) (Bi       ?_)
      intro hz
      have hf := hf.mono hz
      refine Ad    (.c rfl .nil) ?_
      exact ⟨_, L, hle.trans hz, Bf   , _, rfl, .mk' rfl (.cons (hf.as 0 (.node F5  []) (by omega) rfl) (.cons (hr_0.mono hz) (.cons (hr_1.mono hz) (.cons (hr_2.mono hz) .nil)))) (fun y hy => by cases hy; exact Be        (xs := [_, _, _, _, _, _, _, _])) (by simp) hcc (by simp [Az  ]) (by simp [Az  ]), rfl⟩
    · skip
      have hlen : (Ex.lt z a b).tree.parts.length = 4 := rfl
      have hki := Mu       z a b
      simp only [Ex.lt.sizeOf_spec] at hlt
      simp only [Ex.ok, Bool.and_eq_true] at hok
      obtain ⟨_, hrl⟩ : ∃ _ : True, RepL I (Ex.lt z a b).tree.parts _ := ⟨trivial, hcl⟩
      simp only [show (Ex.lt z a b).tree.parts = [.node Dk   [], .node z [], a.tree, b.tree] from rfl, El    , List.cons_append, List.nil_append] at hrl ⊢
      refine Af      rfl ?_
      refine A3    rfl .free rfl ?_
      refine Ca rfl (Ej          hf.rep _) ?_
      rintro _ J _ e0 ⟨ok, ck, rfl, hk, rfl⟩
      have hf := hf.mono e0
      have hv := hv.mono e0
      have hle := e0
      rw [hki] at hk
      rw [hki]
      refine On rfl (Om rfl (Aa     (Aj      ?_)))
      refine Dz     ?_
      refine Se rfl (Oc rfl rfl rfl (Aa     (Ab    ?_)))
      refine Cc      rfl (by first | rfl | decide | (simp; done) | omega) ?_
      refine Ae     (Ab    (Aj      (Se rfl ?_)))
      first | refine A5    rfl rfl _ rfl .free rfl ?_ | refine A6    rfl rfl _ rfl .free rfl ?_
      refine Ef    rfl .free rfl ?_
      refine Oa rfl (Aa     (Se rfl ?_))
      refine A3    rfl .free rfl ?_
      refine Om rfl ?_
      refine Ca rfl (Cu           hf.rep hok0 _ _) ?_
      rintro _ J1 _ e1 ⟨o1, k1, rfl, hs1, rfl⟩
      refine Om rfl ?_
      refine Ca rfl (C0                (hs1.rd _) k1 nm) ?_
      rintro _ _ _ _ ⟨rfl, rfl, rfl⟩
      refine Cp    rfl .free rfl ?_
      refine D4    (fun w h => Mem.le e1 h) ?_
      refine Aa     ?_
      first | refine K8   rfl (by simp [Ex.binds]) ?_ | refine K7   rfl (by simp [Ex.binds]) ?_ | refine Bj     (by simp [look, A7 , *]) ?_
      refine Dp    13 rfl rfl ?_
      refine Da 0 rfl (Ai          rfl) ?_
      refine Dt 1 [12] rfl (Br    rfl) ?_
      refine Da 2 rfl (Ah     rfl) ?_
      refine Da 3 rfl (Ai          rfl) ?_
      refine Dt 4 [12] rfl (Br    rfl) ?_
      refine Da 5 rfl (Ah     rfl) ?_
      first | refine Da 6 rfl (Bl    rfl rfl _ rfl) ?_ | refine Da 6 rfl (Bm    rfl rfl _ rfl) ?_
      refine Dt 7 [12] rfl (Bq    rfl) ?_
      refine Da 8 rfl (Ah     rfl) ?_
      refine Dt 9 [12] rfl (Cx    rfl) ?_
      refine Dc 10 rfl rfl (ihn (by omega) (hf.as 2 a.tree (by omega) rfl) hok.1.2 nm hnm hv _) ?_
      rintro _ J2 _ e2 ⟨cs2, rfl, hr_0, rfl⟩
      obtain ⟨o2, k2, _, rfl, -⟩ := hr_0.open
      have hf := hf.mono e2
      have hv := hv.mono e2
      have hle := hle.trans e2
      have hk := hk.mono e2
      refine Hx ?_
      first | refine Da 11 rfl (Bl    rfl rfl _ rfl) ?_ | refine Da 11 rfl (Bm    rfl rfl _ rfl) ?_
      refine Dx 12 rfl rfl rfl rfl ?_
      refine At     (by kernel_rfl) ?_
      refine Ak        (Af      rfl ?_)
      refine Or rfl rfl rfl ?_
      refine Om rfl (Aa     ?_)
      refine B0      ?_
      refine Se rfl (Oc rfl rfl rfl (Aa     (Ab    ?_)))
      refine Cc      rfl (by first | rfl | decide | (simp; done) | omega) ?_
      refine Ae     (Ab    (Aj      (Se rfl ?_)))
      first | refine A5    rfl rfl _ rfl .free rfl ?_ | refine A6    rfl rfl _ rfl .free rfl ?_
      refine Ef    rfl .free rfl ?_
      refine Oa rfl (Aa     (Se rfl ?_))
      refine A3    rfl .free rfl ?_
      refine Om rfl ?_
      refine Ca rfl (Cu           hf.rep hok0 _ _) ?_
      rintro _ J1 _ e1 ⟨o1, k1, rfl, hs1, rfl⟩
      refine Om rfl ?_
      refine Ca rfl (C0                (hs1.rd _) k1 nm) ?_
      rintro _ _ _ _ ⟨rfl, rfl, rfl⟩
      refine Cp    rfl .free rfl ?_
      refine D4    (fun w h => Mem.le e1 h) ?_
      refine Aa     ?_
      refine As     rfl ?_ ?_
      · intro c3
        try simp only [nb] at c3
        have c3 : ¬ nm ∈ [z] := c3
        refine Dp    13 rfl rfl ?_
        refine Da 0 rfl (Ai          rfl) ?_
        refine Dt 1 [12] rfl (Br    rfl) ?_
        refine Da 2 rfl (Ah     rfl) ?_
        refine Da 3 rfl (Ai          rfl) ?_
        refine Dt 4 [12] rfl (Br    rfl) ?_
        refine Da 5 rfl (Ah     rfl) ?_
        first | refine Da 6 rfl (Bl    rfl rfl _ rfl) ?_ | refine Da 6 rfl (Bm    rfl rfl _ rfl) ?_
        refine Dt 7 [12] rfl (Bq    rfl) ?_
        refine Da 8 rfl (Ah     rfl) ?_
        refine Dt 9 [12] rfl (Cx    rfl) ?_
        refine Dc 10 rfl rfl (ihn (by omega) (hf.as 3 b.tree (by omega) rfl) hok.2 nm hnm hv _) ?_
        rintro _ J2 _ e2 ⟨cs2, rfl, hr_1, rfl⟩
        obtain ⟨o2, k2, _, rfl, -⟩ := hr_1.open
        have hf := hf.mono e2
        have hv := hv.mono e2
        have hle := hle.trans e2
        have hk := hk.mono e2
        have hr_0 := hr_0.mono e2
        refine Hx ?_
        first | refine Da 11 rfl (Bl    rfl rfl _ rfl) ?_ | refine Da 11 rfl (Bm    rfl rfl _ rfl) ?_
        refine Dx 12 rfl rfl rfl rfl ?_
        refine At     (by kernel_rfl) ?_
        refine Ak        (Af      rfl ?_)
        refine Or rfl rfl rfl ?_
        refine Om rfl (Aa     ?_)
        refine B0      ?_
        refine Se rfl (Oc rfl rfl rfl (Aa     (Ab    ?_)))
        refine C5      rfl (by first | rfl | decide | (simp; done) | omega) ?_
        refine Bz     rfl ?_
        refine Se rfl ?_
        refine A3    rfl .free rfl ?_
        refine Bn   rfl rfl rfl rfl .free ?_
        refine Aa     ?_
        refine Bg    (fun w h => h.f1) (Bi       ?_)
        intro hz
        have hf := hf.mono hz
        refine Ad    (.c rfl .nil) ?_
        first
          | (have hput : (Ex.lt z a b).put nm v = .lt z (a.put nm v) (b.put nm v) := by
               have : ¬ z = nm := fun h => c3 (by simp [h])
               simp [Ex.put, this]
             rw [hput]
             exact ⟨_, L, hle.trans hz, Bf   , _, rfl, .mk' rfl (.cons (hf.as 0 (.node Dk   []) (by omega) rfl) (.cons (hf.as 1 (.node z []) (by omega) rfl) (.cons (hr_0.mono hz) (.cons (hr_1.mono hz) .nil)))) (fun y hy => by cases hy; exact Be        (xs := [_, _, _, _, _, _, _, _])) (by simp) hcc (by simp [Az  ]) (by simp [Az  ]), rfl⟩)
          | (have hput : (Ex.lt z a b).put nm v = .lt z (a.put nm v) b := by
               have : nm = z := by simpa using c3
               simp [Ex.put, this]
             rw [hput]
             exact ⟨_, L, hle.trans hz, Bf   , _, rfl, .mk' rfl (.cons (hf.as 0 (.node Dk   []) (by omega) rfl) (.cons (hf.as 1 (.node z []) (by omega) rfl) (.cons (hr_0.mono hz) (.cons (hf.as 3 b.tree (by omega) rfl) .nil)))) (fun y hy => by cases hy; exact Be        (xs := [_, _, _, _, _, _, _, _])) (by simp) hcc (by simp [Az  ]) (by simp [Az  ]), rfl⟩)
      intro c3
      try simp only [nb] at c3
      have c3 : nm ∈ [z] := c3
      refine Ae     (Ak        (Af      rfl ?_))
      refine Or rfl rfl rfl ?_
      refine Om rfl (Aa     ?_)
      refine B0      ?_
      refine Se rfl (Oc rfl rfl rfl (Aa     (Ab    ?_)))
      refine C5      rfl (by first | rfl | decide | (simp; done) | omega) ?_
      refine Bz     rfl ?_
      refine Se rfl ?_
      refine A3    rfl .free rfl ?_
      refine Bn   rfl rfl rfl rfl .free ?_
      refine Aa     ?_
      refine Bg    (fun w h => h.f1) (Bi       ?_)
      intro hz
      have hf := hf.mono hz
      refine Ad    (.c rfl .nil) ?_
      first
        | (have hput : (Ex.lt z a b).put nm v = .lt z (a.put nm v) (b.put nm v) := by
             have : ¬ z = nm := fun h => c3 (by simp [h])
             simp [Ex.put, this]
           rw [hput]
           exact ⟨_, L, hle.trans hz, Bf   , _, rfl, .mk' rfl (.cons (hf.as 0 (.node Dk   []) (by omega) rfl) (.cons (hf.as 1 (.node z []) (by omega) rfl) (.cons (hr_0.mono hz) (.cons (hr_1.mono hz) .nil)))) (fun y hy => by cases hy; exact Be        (xs := [_, _, _, _, _, _, _, _])) (by simp) hcc (by simp [Az  ]) (by simp [Az  ]), rfl⟩)
        | (have hput : (Ex.lt z a b).put nm v = .lt z (a.put nm v) b := by
             have : nm = z := by simpa using c3
             simp [Ex.put, this]
           rw [hput]
           exact ⟨_, L, hle.trans hz, Bf   , _, rfl, .mk' rfl (.cons (hf.as 0 (.node Dk   []) (by omega) rfl) (.cons (hf.as 1 (.node z []) (by omega) rfl) (.cons (hr_0.mono hz) (.cons (hf.as 3 b.tree (by omega) rfl) .nil)))) (fun y hy => by cases hy; exact Be        (xs := [_, _, _, _, _, _, _, _])) (by simp) hcc (by simp [Az  ]) (by simp [Az  ]), rfl⟩)
    · skip
      have hlen : (Ex.fn g z s t b).tree.parts.length = 6 := rfl
      have hki := Mr      g z s t b
      simp only [Ex.fn.sizeOf_spec] at hlt
      simp only [Ex.ok, Bool.and_eq_true] at hok
      obtain ⟨_, hrl⟩ : ∃ _ : True, RepL I (Ex.fn g z s t b).tree.parts _ := ⟨trivial, hcl⟩
      simp only [show (Ex.fn g z s t b).tree.parts = [.node Dj   [], .node g [], .node z [], s.tree, t.tree, b.tree] from rfl, El    , List.cons_append, List.nil_append] at hrl ⊢
      refine Af      rfl ?_
      refine A3    rfl .free rfl ?_
      refine Ca rfl (Ej          hf.rep _) ?_
      rintro _ J _ e0 ⟨ok, ck, rfl, hk, rfl⟩
      have hf := hf.mono e0
      have hv := hv.mono e0
      have hle := e0
      rw [hki] at hk
      rw [hki]
      refine On rfl (Om rfl (Aa     (Aj      ?_)))
      refine Dz     ?_
      refine Se rfl (Oc rfl rfl rfl (Aa     (Ab    ?_)))
      refine Cc      rfl (by first | rfl | decide | (simp; done) | omega) ?_
      refine Ae     (Ab    (Aj      (Se rfl ?_)))
      first | refine A5    rfl rfl _ rfl .free rfl ?_ | refine A6    rfl rfl _ rfl .free rfl ?_
      refine Ef    rfl .free rfl ?_
      refine Oa rfl (Aa     (Se rfl ?_))
      refine A3    rfl .free rfl ?_
      refine Om rfl ?_
      refine Ca rfl (Cu           hf.rep hok0 _ _) ?_
      rintro _ J1 _ e1 ⟨o1, k1, rfl, hs1, rfl⟩
      refine Om rfl ?_
      refine Ca rfl (C0                (hs1.rd _) k1 nm) ?_
      rintro _ _ _ _ ⟨rfl, rfl, rfl⟩
      refine Cp    rfl .free rfl ?_
      refine D4    (fun w h => Mem.le e1 h) ?_
      refine Aa     ?_
      refine As     rfl ?_ ?_
      · intro c3
        try simp only [nb] at c3
        have c3 : ¬ nm ∈ [g, z] := c3
        refine Dp    13 rfl rfl ?_
        refine Da 0 rfl (Ai          rfl) ?_
        refine Dt 1 [12] rfl (Br    rfl) ?_
        refine Da 2 rfl (Ah     rfl) ?_
        refine Da 3 rfl (Ai          rfl) ?_
        refine Dt 4 [12] rfl (Br    rfl) ?_
        refine Da 5 rfl (Ah     rfl) ?_
        first | refine Da 6 rfl (Bl    rfl rfl _ rfl) ?_ | refine Da 6 rfl (Bm    rfl rfl _ rfl) ?_
        refine Dt 7 [12] rfl (Bq    rfl) ?_
        refine Da 8 rfl (Ah     rfl) ?_
        refine Dt 9 [12] rfl (Cx    rfl) ?_
        refine Dc 10 rfl rfl (ihn (by omega) (hf.as 5 b.tree (by omega) rfl) hok.2 nm hnm hv _) ?_
        rintro _ J2 _ e2 ⟨cs2, rfl, hr_0, rfl⟩
        obtain ⟨o2, k2, _, rfl, -⟩ := hr_0.open
        have hf := hf.mono e2
        have hv := hv.mono e2
        have hle := hle.trans e2
        have hk := hk.mono e2
        refine Hx ?_
        first | refine Da 11 rfl (Bl    rfl rfl _ rfl) ?_ | refine Da 11 rfl (Bm    rfl rfl _ rfl) ?_
        refine Dx 12 rfl rfl rfl rfl ?_
        refine At     (by kernel_rfl) ?_
        refine Ak        (Af      rfl ?_)
        refine Or rfl rfl rfl ?_
        refine Om rfl (Aa     ?_)
        refine B0      ?_
        refine Se rfl (Oc rfl rfl rfl (Aa     (Ab    ?_)))
        refine C5      rfl (by first | rfl | decide | (simp; done) | omega) ?_
        refine Bz     rfl ?_
        refine Se rfl ?_
        refine A3    rfl .free rfl ?_
        refine Bn   rfl rfl rfl rfl .free ?_
        refine Aa     ?_
        refine Bg    (fun w h => h.f1) (Bi       ?_)
        intro hz
        have hf := hf.mono hz
        refine Ad    (.c rfl .nil) ?_
        first
          | (have hput : (Ex.fn g z s t b).put nm v = .fn g z s t (b.put nm v) := by
               have h1 : ¬ (g = nm ∨ z = nm) := by rintro (h | h) <;> exact c3 (by simp [h])
               simp only [Ex.put]; rw [if_neg h1]
             rw [hput]
             exact ⟨_, L, hle.trans hz, Bf   , _, rfl, .mk' rfl (.cons (hf.as 0 (.node Dj   []) (by omega) rfl) (.cons (hf.as 1 (.node g []) (by omega) rfl) (.cons (hf.as 2 (.node z []) (by omega) rfl) (.cons (hf.as 3 (s.tree) (by omega) rfl) (.cons (hf.as 4 (t.tree) (by omega) rfl) (.cons (hr_0.mono hz) .nil)))))) (fun y hy => by cases hy; exact Be        (xs := [_, _, _, _, _, _, _, _, _, _, _, _])) (by simp) hcc (by simp [Az  ]) (by simp [Az  ]), rfl⟩)
          | (have hput : (Ex.fn g z s t b).put nm v = .fn g z s t b := by
               have h1 : g = nm ∨ z = nm := by simp at c3; rcases c3 with h | h <;> simp [h]
               simp only [Ex.put]; rw [if_pos h1]
             rw [hput]
             exact ⟨_, L, hle.trans hz, Bf   , _, rfl, .mk' rfl (.cons (hf.as 0 (.node Dj   []) (by omega) rfl) (.cons (hf.as 1 (.node g []) (by omega) rfl) (.cons (hf.as 2 (.node z []) (by omega) rfl) (.cons (hf.as 3 (s.tree) (by omega) rfl) (.cons (hf.as 4 (t.tree) (by omega) rfl) (.cons (hf.as 5 b.tree (by omega) rfl) .nil)))))) (fun y hy => by cases hy; exact Be        (xs := [_, _, _, _, _, _, _, _, _, _, _, _])) (by simp) hcc (by simp [Az  ]) (by simp [Az  ]), rfl⟩)
      intro c3
      try simp only [nb] at c3
      have c3 : nm ∈ [g, z] := c3
      refine Ae     (Ak        (Af      rfl ?_))
      refine Or rfl rfl rfl ?_
      refine Om rfl (Aa     ?_)
      refine B0      ?_
      refine Se rfl (Oc rfl rfl rfl (Aa     (Ab    ?_)))
      refine C5      rfl (by first | rfl | decide | (simp; done) | omega) ?_
      refine Bz     rfl ?_
      refine Se rfl ?_
      refine A3    rfl .free rfl ?_
      refine Bn   rfl rfl rfl rfl .free ?_
      refine Aa     ?_
      refine Bg    (fun w h => h.f1) (Bi       ?_)
      intro hz
      have hf := hf.mono hz
      refine Ad    (.c rfl .nil) ?_
      first
        | (have hput : (Ex.fn g z s t b).put nm v = .fn g z s t (b.put nm v) := by
             have h1 : ¬ (g = nm ∨ z = nm) := by rintro (h | h) <;> exact c3 (by simp [h])
             simp only [Ex.put]; rw [if_neg h1]
           rw [hput]
           exact ⟨_, L, hle.trans hz, Bf   , _, rfl, .mk' rfl (.cons (hf.as 0 (.node Dj   []) (by omega) rfl) (.cons (hf.as 1 (.node g []) (by omega) rfl) (.cons (hf.as 2 (.node z []) (by omega) rfl) (.cons (hf.as 3 (s.tree) (by omega) rfl) (.cons (hf.as 4 (t.tree) (by omega) rfl) (.cons (hr_0.mono hz) .nil)))))) (fun y hy => by cases hy; exact Be        (xs := [_, _, _, _, _, _, _, _, _, _, _, _])) (by simp) hcc (by simp [Az  ]) (by simp [Az  ]), rfl⟩)
        | (have hput : (Ex.fn g z s t b).put nm v = .fn g z s t b := by
             have h1 : g = nm ∨ z = nm := by simp at c3; rcases c3 with h | h <;> simp [h]
             simp only [Ex.put]; rw [if_pos h1]
           rw [hput]
           exact ⟨_, L, hle.trans hz, Bf   , _, rfl, .mk' rfl (.cons (hf.as 0 (.node Dj   []) (by omega) rfl) (.cons (hf.as 1 (.node g []) (by omega) rfl) (.cons (hf.as 2 (.node z []) (by omega) rfl) (.cons (hf.as 3 (s.tree) (by omega) rfl) (.cons (hf.as 4 (t.tree) (by omega) rfl) (.cons (hf.as 5 b.tree (by omega) rfl) .nil)))))) (fun y hy => by cases hy; exact Be        (xs := [_, _, _, _, _, _, _, _, _, _, _, _])) (by simp) hcc (by simp [Az  ]) (by simp [Az  ]), rfl⟩)
    · skip
      have hlen : (Ex.un o a).tree.parts.length = 2 := rfl
      have hki := Pd      o a
      simp only [Ex.un.sizeOf_spec] at hlt
      simp only [Ex.ok, Bool.and_eq_true] at hok
      obtain ⟨_, hrl⟩ : ∃ _ : True, RepL I (Ex.un o a).tree.parts _ := ⟨trivial, hcl⟩
      simp only [show (Ex.un o a).tree.parts = [.node o.txt [], a.tree] from rfl, El    , List.cons_append, List.nil_append] at hrl ⊢
      refine Af      rfl ?_
      refine A3    rfl .free rfl ?_
      refine Ca rfl (Ej          hf.rep _) ?_
      rintro _ J _ e0 ⟨ok, ck, rfl, hk, rfl⟩
      have hf := hf.mono e0
      have hv := hv.mono e0
      have hle := e0
      rw [hki] at hk
      rw [hki]
      refine On rfl (Om rfl (Aa     (Aj      ?_)))
      refine Dz     ?_
      refine Se rfl (Oc rfl rfl rfl (Aa     (Ab    ?_)))
      refine Cc      rfl (by first | rfl | decide | (simp; done) | omega) ?_
      refine Ae     (Ab    (Aj      (Se rfl ?_)))
      first | refine A5    rfl rfl _ rfl .free rfl ?_ | refine A6    rfl rfl _ rfl .free rfl ?_
      refine Ef    rfl .free rfl ?_
      refine Oa rfl (Aa     (Se rfl ?_))
      refine A3    rfl .free rfl ?_
      refine Om rfl ?_
      refine Ca rfl (Cu           hf.rep hok0 _ _) ?_
      rintro _ J1 _ e1 ⟨o1, k1, rfl, hs1, rfl⟩
      refine Om rfl ?_
      refine Ca rfl (C0                (hs1.rd _) k1 nm) ?_
      rintro _ _ _ _ ⟨rfl, rfl, rfl⟩
      refine Cp    rfl .free rfl ?_
      refine D4    (fun w h => Mem.le e1 h) ?_
      refine Aa     ?_
      first | refine K8   rfl (by simp [Ex.binds]) ?_ | refine K7   rfl (by simp [Ex.binds]) ?_ | refine Bj     (by simp [look, A7 , *]) ?_
      refine Dp    13 rfl rfl ?_
      refine Da 0 rfl (Ai          rfl) ?_
      refine Dt 1 [12] rfl (Br    rfl) ?_
      refine Da 2 rfl (Ah     rfl) ?_
      refine Da 3 rfl (Ai          rfl) ?_
      refine Dt 4 [12] rfl (Br    rfl) ?_
      refine Da 5 rfl (Ah     rfl) ?_
      first | refine Da 6 rfl (Bl    rfl rfl _ rfl) ?_ | refine Da 6 rfl (Bm    rfl rfl _ rfl) ?_
      refine Dt 7 [12] rfl (Bq    rfl) ?_
      refine Da 8 rfl (Ah     rfl) ?_
      refine Dt 9 [12] rfl (Cx    rfl) ?_
      refine Dc 10 rfl rfl (ihn (by omega) (hf.as 1 a.tree (by omega) rfl) hok nm hnm hv _) ?_
      rintro _ J2 _ e2 ⟨cs2, rfl, hr_0, rfl⟩
      obtain ⟨o2, k2, _, rfl, -⟩ := hr_0.open
      have hf := hf.mono e2
      have hv := hv.mono e2
      have hle := hle.trans e2
      have hk := hk.mono e2
      refine Hx ?_
      first | refine Da 11 rfl (Bl    rfl rfl _ rfl) ?_ | refine Da 11 rfl (Bm    rfl rfl _ rfl) ?_
      refine Dx 12 rfl rfl rfl rfl ?_
      refine At     (by kernel_rfl) ?_
      refine Ak        (Af      rfl ?_)
      refine Or rfl rfl rfl ?_
      refine Om rfl (Aa     ?_)
      refine B0      ?_
      refine Se rfl (Oc rfl rfl rfl (Aa     (Ab    ?_)))
      refine C5      rfl (by first | rfl | decide | (simp; done) | omega) ?_
      refine Bz     rfl ?_
      refine Se rfl ?_
      refine A3    rfl .free rfl ?_
      refine Bn   rfl rfl rfl rfl .free ?_
      refine Aa     ?_
      refine Bg    (fun w h => h.f1) (Bi       ?_)
      intro hz
      have hf := hf.mono hz
      refine Ad    (.c rfl .nil) ?_
      exact ⟨_, L, hle.trans hz, Bf   , _, rfl, .mk' rfl (.cons (hf.as 0 (.node o.txt []) (by omega) rfl) (.cons (hr_0.mono hz) .nil)) (fun y hy => by cases hy; exact Be        (xs := [_, _, _, _])) (by simp) hcc (by simp [Az  ]) (by simp [Az  ]), rfl⟩

set_option maxRecDepth 100000
set_option linter.unusedVariables false
set_option linter.unusedSimpArgs false

def Aeg (s nm by' : Ap) : Option Ap := match E5 s, Bw by' with
 | some e, some v => if Bv nm = true ∧ (e.put nm v).fine = true then some (e.put nm v).tree.text else none
 | _, _ => none
set_option maxRecDepth 100000
set_option linter.unusedVariables false
set_option linter.unusedSimpArgs false

def Ex.value : Ex → Bool
 | .num _ => true
 | .fn _ _ _ _ _ => true
 | .bin .pair a b => a.value && b.value
 | _ => false
def Ex.print : Ex → Tree
 | .bin .pair a b => .node [] [.node C8 [], a.print, b.print]
 | .fn _ _ _ _ _ => .node Dj []
 | e => e.tree
theorem Ex.print_len : ∀ e : Ex, e.print.len ≤ e.tree.len
 | .bin .pair a b => by
  have := a.print_len; have := b.print_len
  simp [Ex.print, Ex.tree, Tree.len, Fn, B5.txt]; omega
 | .bin .add a b => Nat.le_refl _
 | .bin .sub a b => Nat.le_refl _
 | .bin .mul a b => Nat.le_refl _
 | .bin .call a b => Nat.le_refl _
 | .fn f x s t b => by simp [Ex.print, Ex.tree, Tree.len, Fn]; omega
 | .num s => Nat.le_refl _
 | .name s => Nat.le_refl _
 | .ite a b c => Nat.le_refl _
 | .lt x a b => Nat.le_refl _
 | .un o a => Nat.le_refl _
theorem Ex.is_pair {e : Ex} (h : e.tree.is C8 3 = true) : ∃ a b, e = .bin .pair a b := by
 simp only [Tree.is, Bool.and_eq_true, decide_eq_true_eq] at h
 exact Ex.of_bin (o := .pair) h.2
theorem Ex.not_pair {e : Ex} (h : e.tree.is C8 3 = false) : ∀ a b, e ≠ .bin .pair a b := by
 rintro a b rfl; simp [Tree.is, Ex.tree, Tree.parts, Tree.head, Tree.atom, B5.txt] at h
theorem Ex.value_other {e : Ex} (hok : e.ok = true) (h : ∀ a b, e ≠ .bin .pair a b) : e.value = (decide (e.tree.head = Dj) || (e.tree.parts.isEmpty && By e.tree.atom)) := by
 cases e with
 | num s => have h1 : By s = true := hok; simp [Ex.value, Ex.tree, Tree.parts, Tree.atom, h1]
 | name s =>
  have h1 := Fd (show Bv s = true from hok)
  simp only [Ex.tree, Tree.parts, Tree.atom, h1]; rfl
 | bin o a b => cases o <;> first | exact absurd rfl (h a b) | rfl
 | ite a b c => rfl
 | lt x a b => rfl
 | fn f x s t b => rfl
 | un o a => cases o <;> rfl

theorem Et : ∀ (n : Nat) {I : Heap} {e : Ex} {cs : List Value} (_ : SizeOf.sizeOf e < n) (_ : Rep I e.tree cs) (_ : e.ok = true) (L : Bh), Fun Tryz.prog 43 [.agg cs.toArray] I L (D0 (.bool e.value) I L) := by
 intro n
 induction n with
 | zero => intro I e cs h; omega
 | succ n ihn =>
  intro I e cs hlt h hok L; obtain ⟨oa, c, oaf, cf, rfl, hf⟩ := h.at'
  have ha := hf.alen
  refine Ag (by simp) ?_; refine Se rfl ?_; refine B7 rfl rfl .free rfl ?_; intro b1; refine Oa rfl (Aa (Ab (Se rfl ?_))); refine A3 rfl .free rfl ?_; refine Ca rfl (Nh hf.rep _ 3 _) ?_; rintro _ _ _ _ ⟨rfl, rfl, rfl⟩; refine Aa ?_; refine As rfl ?_ ?_
  ·intro c0
   try simp only [nb] at c0
   obtain ⟨a, b, rfl⟩ := Ex.is_pair c0
   simp only [Ex.ok, Bool.and_eq_true] at hok
   simp only [Ex.bin.sizeOf_spec] at hlt
   have hlen : (Ex.bin .pair a b).tree.parts.length = 3 := rfl
   refine Se rfl (Oh rfl ?_); refine A1 rfl .free rfl ?_
   first | refine A5 rfl rfl 1 rfl .free rfl ?_ | refine A6 rfl rfl 1 rfl .free rfl ?_
   refine D9 rfl .free rfl ?_; refine Ca rfl (ihn (by omega) (hf.as 1 a.tree (by omega) rfl) hok.1 _) ?_; rintro _ _ _ _ ⟨rfl, rfl, rfl⟩; refine Om rfl ?_
   apply Ci 10 16 rfl
   ·intro g2_6 hk
    try simp only [nb] at g2_6
    refine Ax rfl (.met rfl rfl) rfl ?_; refine A1 rfl (.met rfl rfl) rfl ?_
    first | refine A5 rfl rfl 2 rfl (.met rfl rfl) rfl ?_ | refine A6 rfl rfl 2 rfl (.met rfl rfl) rfl ?_
    refine D9 rfl (.met rfl rfl) rfl ?_; refine B9 rfl (.met rfl rfl) rfl (ihn (by omega) (hf.as 2 b.tree (by omega) rfl) hok.2 _) ?_; rintro _ _ _ _ ⟨rfl, rfl, rfl⟩; refine Ot rfl rfl ?_
    exact Ar 5 rfl rfl hk
   ·intro _ hk; refine A0 5 rfl ?_; refine Of rfl rfl ?_
    exact Ar 5 rfl rfl hk
   refine Oa rfl (Aa (Ad (.tmp rfl .nil) ?_)); refine only rfl ?_
   rfl
  intro c0
  try simp only [nb] at c0
  refine Ae (Se rfl ?_); refine A3 rfl .free rfl ?_; refine Ca rfl (Bk hf.rep _) ?_; rintro _ _ _ _ ⟨rfl, rfl, rfl⟩; refine Od rfl rfl rfl (Om rfl ?_)
  apply Fx 20 28 rfl
  ·intro g3_4 hk
   try simp only [nb] at g3_4
   refine A3 rfl (.met rfl rfl) rfl ?_; refine B9 rfl (.met rfl rfl) rfl (Bu hf.rep _) ?_; rintro _ _ _ _ ⟨rfl, rfl, rfl⟩; refine Ow rfl ?_
   apply Ci 23 27 rfl
   ·intro g3_7 hk
    try simp only [nb] at g3_7
    refine Ax rfl (.met rfl rfl) rfl ?_; refine A1 rfl (.met rfl rfl) rfl ?_; refine B9 rfl (.met rfl rfl) rfl (Ou e.tree.atom ha _ _) ?_; rintro _ _ _ _ ⟨rfl, rfl, rfl⟩; refine Fe rfl rfl (.met rfl rfl) rfl ?_
    exact Ar 3 rfl rfl hk
   ·intro _ hk; refine A0 3 rfl ?_; refine Eo rfl rfl (.met rfl rfl) rfl ?_
    exact Ar 3 rfl rfl hk
   refine Of rfl rfl ?_
   exact Ar 4 rfl rfl hk
  ·intro _ hk; refine A0 7 rfl ?_; refine Ot rfl rfl ?_
   exact Ar 7 rfl rfl hk
  refine Oa rfl (Aa (Ad (.tmp rfl .nil) ?_)); refine only rfl ?_; rw [Ex.value_other hok (Ex.not_pair c0)]; rfl
theorem Acp : ∀ (n : Nat) {I : Heap} {e : Ex} {cs : List Value} (_ : SizeOf.sizeOf e < n) (_ : Rep I e.tree cs) (_ : e.ok = true) (L : Bh), Fun Tryz.prog 36 [.agg cs.toArray] I L (D0 (.bool e.value) I L) := by
 intro n
 induction n with
 | zero => intro I e cs h; omega
 | succ n ihn =>
  intro I e cs hlt h hok L; obtain ⟨oa, c, oaf, cf, rfl, hf⟩ := h.at'
  have ha := hf.alen
  refine Ag (by simp) ?_; refine Se rfl ?_; refine B7 rfl rfl .free rfl ?_; intro b1; refine Oa rfl (Aa (Ab (Se rfl (Oh rfl ?_)))); refine A1 rfl .free rfl ?_; refine Od rfl rfl rfl (Aa ?_); refine As rfl ?_ ?_
  ·intro c0
   try simp only [nb] at c0
   refine Se rfl (Oh rfl ?_); refine A1 rfl .free rfl ?_; refine Ca rfl (Kz e.tree.atom ha _ _) ?_; rintro _ _ _ _ ⟨rfl, rfl, rfl⟩; refine Cp rfl .free rfl ?_; refine Oa rfl (Aa (Ad (.tmp rfl .nil) ?_)); refine only rfl ?_
   have hb : e.bare = true := by
    cases hb : e.bare with
    | true => rfl
    | false => exact absurd ((Ex.atom_iff hok).2 hb) c0
   cases e with
   | num s =>
    have h2 : Bv s = false := by
     cases h3 : Bv s with
     | false => rfl
     | true => have h4 := Fd h3; rw [show By s = true from hok] at h4; cases h4
    simp [C2, Ex.tree, Tree.atom, h2, Ex.value]
   | name s => simp [C2, Ex.tree, Tree.atom, show Bv s = true from hok, Ex.value]
   | _ => cases hb
  intro c0
  try simp only [nb] at c0
  obtain ⟨hne, h0⟩ := I0 (Ex.tree_good hok).1 (by simpa using c0)
  have hhd := Kc h0
  refine Ae (Ab (Se rfl (Oh rfl ?_))); refine A1 rfl .free rfl ?_
  first | refine A5 rfl rfl 0 rfl .free rfl ?_ | refine A6 rfl rfl 0 rfl .free rfl ?_
  refine Bd rfl .free rfl ?_; refine Fo rfl .free rfl ?_; refine Od rfl rfl rfl (Aa ?_); refine As rfl ?_ ?_
  ·intro c1
   try simp only [nb] at c1
   obtain ⟨a, b, rfl⟩ := Ex.of_bin (o := .pair) (hhd.trans c1)
   simp only [Ex.ok, Bool.and_eq_true] at hok
   simp only [Ex.bin.sizeOf_spec] at hlt
   have hlen : (Ex.bin .pair a b).tree.parts.length = 3 := rfl
   refine Se rfl (Oh rfl ?_); refine A1 rfl .free rfl ?_
   first | refine A5 rfl rfl 1 rfl .free rfl ?_ | refine A6 rfl rfl 1 rfl .free rfl ?_
   refine D9 rfl .free rfl ?_; refine Ca rfl (ihn (by omega) (hf.as 1 a.tree (by omega) rfl) hok.1 _) ?_; rintro _ _ _ _ ⟨rfl, rfl, rfl⟩; refine Om rfl ?_
   apply Ci 21 27 rfl
   ·intro g4_6 hk
    try simp only [nb] at g4_6
    refine Ax rfl (.met rfl rfl) rfl ?_; refine A1 rfl (.met rfl rfl) rfl ?_
    first | refine A5 rfl rfl 2 rfl (.met rfl rfl) rfl ?_ | refine A6 rfl rfl 2 rfl (.met rfl rfl) rfl ?_
    refine D9 rfl (.met rfl rfl) rfl ?_; refine B9 rfl (.met rfl rfl) rfl (ihn (by omega) (hf.as 2 b.tree (by omega) rfl) hok.2 _) ?_; rintro _ _ _ _ ⟨rfl, rfl, rfl⟩; refine Ot rfl rfl ?_
    exact Ar 5 rfl rfl hk
   ·intro _ hk; refine A0 5 rfl ?_; refine Of rfl rfl ?_
    exact Ar 5 rfl rfl hk
   refine Oa rfl (Aa (Ad (.tmp rfl .nil) ?_)); refine only rfl ?_
   rfl
  intro c1
  try simp only [nb] at c1
  refine Ae (Se rfl (Oh rfl ?_)); refine A1 rfl .free rfl ?_
  first | refine A5 rfl rfl 0 rfl .free rfl ?_ | refine A6 rfl rfl 0 rfl .free rfl ?_
  refine Bd rfl .free rfl ?_; refine Fo rfl .free rfl ?_; refine Od rfl rfl rfl (Oa rfl (Aa (Ad (.tmp rfl .nil) ?_))); refine only rfl ?_; rw [Ex.value_other hok (by rintro a b rfl; exact c1 rfl), hhd]
  have : e.tree.parts.isEmpty = false := by cases hh : e.tree.parts with
   | nil => exact absurd hh hne
   | cons => rfl
  rw [this]; simp only [Bool.false_and, Bool.or_false]; rfl
theorem Sr : ∀ (n : Nat) {I : Heap} {e : Ex} {cs : List Value} (_ : SizeOf.sizeOf e < n) (_ : Rep I e.tree cs) (L : Bh), Fun Tryz.prog 50 [.agg cs.toArray] I L (RP e.print L) := by
 intro n
 induction n with
 | zero => intro I e cs h; omega
 | succ n ihn =>
  intro I e cs hlt h L; obtain ⟨oa, c, oaf, cf, rfl, hf⟩ := h.at'; refine Ag (by simp) ?_; refine Se rfl ?_; refine B7 rfl rfl .free rfl ?_; intro b1; refine Aw .free rfl ?_; intro b2; refine Aa (Ab (Se rfl ?_)); refine A3 rfl .free rfl ?_; refine Ca rfl (Bk hf.rep _) ?_; rintro _ _ _ _ ⟨rfl, rfl, rfl⟩; refine Aa (Aj (Se rfl (Od rfl rfl rfl (Oa rfl (Aa ?_))))); refine As rfl ?_ ?_
  ·intro c0
   try simp only [nb] at c0
   obtain ⟨a, b, rfl⟩ := Ex.of_bin (o := .pair) c0
   simp only [Ex.bin.sizeOf_spec] at hlt
   have hlen : (Ex.bin .pair a b).tree.parts.length = 3 := rfl
   refine Ab ?_; refine Dp 13 rfl rfl ?_; refine Da 0 rfl (Ai rfl) ?_; refine Dt 1 [12] rfl (Br rfl) ?_
   first | refine Da 2 rfl (Bl rfl rfl 1 rfl) ?_ | refine Da 2 rfl (Bm rfl rfl 1 rfl) ?_
   refine Dt 3 [12] rfl (Bq rfl) ?_; refine Da 5 rfl (Ai rfl) ?_; refine Dt 6 [12] rfl (Br rfl) ?_
   first | refine Da 7 rfl (Bl rfl rfl 2 rfl) ?_ | refine Da 7 rfl (Bm rfl rfl 2 rfl) ?_
   refine Dt 8 [12] rfl (Bq rfl) ?_; refine Dc 4 rfl rfl (ihn (by omega) (hf.as 1 a.tree (by omega) rfl) _) ?_; rintro _ J1 _ e1 ⟨cs1, rfl, h1, rfl⟩; obtain ⟨o1, k1, _, rfl, -⟩ := h1.open
   have hf := hf.mono e1
   refine Hx ?_; refine Dc 9 rfl rfl (ihn (by omega) (hf.as 2 b.tree (by omega) rfl) _) ?_; rintro _ J2 _ e2 ⟨cs2, rfl, h2, rfl⟩; obtain ⟨o2, k2, _, rfl, -⟩ := h2.open
   have e3 := e1.trans e2
   refine Hx ?_; refine Fg 10 rfl (by kernel_rfl) rfl rfl rfl (by rfl) (by rfl) (by rfl) (by decide) (by decide) (by rfl) .free rfl (.inr Ao) ?_; intro b17; refine D1 ?_; intro hz
   have e4 := e3.trans hz
   have hfs := V6 (c := 2) (b := b17) (RepL.two (h1.mono e2) h2) hz (by simp) (by simp [Az])
   refine Dc 11 rfl rfl (Zp C8 (by decide) hfs (by simp [Az]) _) ?_; rintro _ J4 _ e5 ⟨cs4, rfl, h4, rfl⟩; obtain ⟨o4, k4, _, rfl, -⟩ := h4.open
   have e6 := e4.trans e5
   refine Hx ?_; refine Dx 12 rfl rfl rfl rfl ?_; refine At (by kernel_rfl) ?_; refine Ad (.c rfl .nil) ?_
   exact ⟨J4, L, e6, Bf, _, rfl, h4, rfl⟩
  intro c0
  try simp only [nb] at c0
  refine Se rfl (Od rfl rfl rfl (Oa rfl (Aa ?_))); refine As rfl ?_ ?_
  ·intro c1
   try simp only [nb] at c1
   obtain ⟨f, x, s, t, b, rfl⟩ := Ex.of_fun c1; refine Se rfl ?_; refine Ca rfl (Pu Dj (by decide) _ _) ?_; rintro _ _ _ _ ⟨rfl, rfl, rfl⟩; refine Bn rfl rfl rfl rfl .free ?_; refine Aa ?_; refine Ad (.c rfl .nil) ?_
   exact ⟨I, L, .refl _, Bf, _, rfl, .ofAtom (by decide), rfl⟩
  intro c1
  try simp only [nb] at c1
  refine Ae (Ak (Se rfl ?_)); refine A3 rfl .free rfl ?_; refine Bn rfl rfl rfl rfl .free ?_; refine Aa ?_; refine Ad (.c rfl .nil) ?_; refine ⟨I, L, .refl _, Bf, _, rfl, ?_, rfl⟩
  have : e.print = e.tree := by
   cases e with
   | bin o a b => cases o <;> first | rfl | exact absurd rfl c0
   | fn f x s t b => exact absurd rfl c1
   | _ => rfl
  rw [this]; exact hf.rep
theorem Yu (a b : Tree) : (Tree.node [] [.node C8 [], a, b]).text = [40, 112, 97, 105, 114, 32] ++ a.text ++ [32] ++ b.text ++ [41] := by
 simp [Tree.text, Ff, C8]
def Eg (s : Ap) : Option Ex := match Bw s with
 | some e => if e.value = true then some e else none
 | none => none
def My (s : Ap) : Option Ap := (Eg s).map fun e => e.print.text
theorem Wc {I : Heap} {s : Ap} {t : Tree} {cs : List Value} {ok : Bool} (h : Rep I t cs) (hpf : match E5 s with | some e => ok = true ∧ t = e.tree | none => ok = false) (hc : ok = true ∧ (Bw s).isSome = true) (L : Bh) :
  Fun Tryz.prog 36 [.agg cs.toArray] I L (D0 (.bool (Eg s).isSome) I L) := by
 obtain ⟨e, he, rfl, h1, _⟩ := Pc hpf hc.1
 have : (Eg s).isSome = e.value := by
  cases hcl : Bw s with
  | none => have := hc.2; rw [hcl] at this; cases this
  | some e' =>
   obtain ⟨h2, h3⟩ := Fz hcl; rw [he] at h2; cases h2
   unfold Eg; rw [hcl]; cases hv : e.value <;> simp [hv]
 rw [this]; exact Acp _ (Nat.lt_succ_self _) h h1 L
theorem Py {I : Heap} {s : Ap} {t : Tree} {cs : List Value} {ok : Bool} (h : Rep I t cs) (hpf : match Bw s with | some e => ok = true ∧ t = e.tree | none => ok = false) (hc : ok = true) (L : Bh) :
  Fun Tryz.prog 43 [.agg cs.toArray] I L (D0 (.bool (Eg s).isSome) I L) := by
 cases hcl : Bw s with
 | none => rw [hcl] at hpf; rw [hpf] at hc; cases hc
 | some e =>
  rw [hcl] at hpf; obtain ⟨_, rfl⟩ := hpf; obtain ⟨h2, h3⟩ := Fz hcl
  have h4 := (Jn h2).2.1
  simp only [Ex.fine, Bool.and_eq_true] at h4
  have : (Eg s).isSome = e.value := by unfold Eg; rw [hcl]; cases hv : e.value <;> simp [hv]
  rw [this]; exact Et _ (Nat.lt_succ_self _) h h4.1.1 L
theorem Ic {s : Ap} (h : Bw s = none) : Eg s = none := by unfold Eg; rw [h]
theorem M7 {s : Ap} (h : (Eg s).isSome = true) : ∃ e, Eg s = some e ∧ E5 s = some e ∧ Bw s = some e ∧ e.value = true ∧ e.ok = true ∧ e.tree.len ≤ 12000 := by
 cases hv : Eg s with
 | none => rw [hv] at h; cases h
 | some e =>
  unfold Eg at hv
  cases hc : Bw s with
  | none => rw [hc] at hv; cases hv
  | some e' =>
   rw [hc] at hv
   simp only at hv
   split at hv
   ·rename_i hval
    cases hv
    have h1 := (Fz hc).1
    have h2 := (Jn h1).2.1
    simp only [Ex.fine, Bool.and_eq_true, Tree.fits, decide_eq_true_eq] at h2
    exact ⟨e, rfl, h1, rfl, hval, h2.1.1, h2.2.2⟩
   ·cases hv
theorem X9 (s : Ap) (hs : s.length ≤ Iz) (I : Heap) (L : Bh) : Fun Tryz.prog 23 [.string (str s)] I L (D0 (.bool (Eg s).isSome) I L) := by
 refine Ag (by simp) ?_; refine Se rfl (Oa rfl (Aa (Se rfl (Om rfl ?_)))); refine Ca rfl (Kb s hs _ _) ?_; rintro _ J _ hleJ ⟨t, cs, ok, rfl, hrep, rfl, hpf⟩; obtain ⟨oa, cc, vs, rfl, -⟩ := hrep.open; refine Om rfl (Oe rfl rfl (Oe rfl rfl ?_)); refine Aw .free rfl ?_; intro b3; refine Bn rfl rfl rfl rfl .free ?_; refine Oa rfl (Aa (Se rfl (Om rfl (Om rfl ?_))))
 apply Ci 11 14 rfl
 ·intro g2_2 hk
  try simp only [nb] at g2_2
  refine Ow rfl ?_; refine B9 rfl (.met rfl rfl) rfl (Ka s hs _ _) ?_; rintro _ _ _ _ ⟨rfl, rfl, rfl⟩; refine Ot rfl rfl ?_
  exact Ar 2 rfl rfl hk
 ·intro _ hk; refine A0 2 rfl ?_; refine Of rfl rfl ?_
  exact Ar 2 rfl rfl hk
 refine Om rfl ?_
 apply Ci 15 18 rfl
 ·intro g2_6 hk
  try simp only [nb] at g2_6
  refine A3 rfl (.met rfl rfl) rfl ?_; refine B9 rfl (.met rfl rfl) rfl (Wc hrep hpf g2_6 _) ?_; rintro _ _ _ _ ⟨rfl, rfl, rfl⟩; refine Ot rfl rfl ?_
  exact Ar 2 rfl rfl hk
 ·intro _ hk; refine A0 2 rfl ?_; refine Of rfl rfl ?_
  exact Ar 2 rfl rfl hk
 refine Oa rfl (Aa (Ad (.tmp rfl .nil) ?_)); refine G5 hleJ Bf ?_; refine congrArg Value.bool ?_
 cases ok with
 | false =>
  have : Eg s = none := Ic (by unfold Bw; rw [R5 hpf rfl])
  rw [this]; rfl
 | true =>
  cases hc : Bw s with
  | none => rw [Ic hc]; rfl
  | some e => rfl
theorem Sp (s : Ap) (hs : s.length ≤ Az) (I : Heap) (L : Bh) : Fun Tryz.prog 24 [.string (str s)] I L (EL (My s) L) := by
 refine Ag (by simp) ?_; refine Se rfl (Oa rfl (Oa rfl (Aa (Se rfl (Om rfl ?_))))); refine Ca rfl (Gb s hs _ _) ?_; rintro _ J _ hleJ ⟨t, cs, ok, rfl, hrep, rfl, hpf⟩; obtain ⟨oa, cc, vs, rfl, -⟩ := hrep.open; refine Om rfl (Oe rfl rfl (Oe rfl rfl ?_)); refine Aw .free rfl ?_; intro b4; refine Bn rfl rfl rfl rfl .free ?_; refine Oa rfl (Aa (Ab (Se rfl (Om rfl ?_)))); refine Cp rfl .free rfl ?_; refine Om rfl ?_
 apply Fx 13 17 rfl
 ·intro g2_3 hk
  try simp only [nb] at g2_3
  refine A3 rfl (.met rfl rfl) rfl ?_; refine B9 rfl (.met rfl rfl) rfl (Py hrep hpf g2_3 _) ?_; rintro _ _ _ _ ⟨rfl, rfl, rfl⟩; refine Cp rfl (.met rfl rfl) rfl ?_; refine Of rfl rfl ?_
  exact Ar 3 rfl rfl hk
 ·intro _ hk; refine A0 3 rfl ?_; refine Ot rfl rfl ?_
  exact Ar 3 rfl rfl hk
 refine Aa ?_; refine As rfl ?_ ?_
 ·intro c0
  try simp only [nb] at c0
  refine Se rfl (Oa rfl (Oa rfl (Aa ?_))); refine Ad (.tmp rfl (.tmp rfl .nil)) ?_; refine ⟨J, L, hleJ, Bf, ?_, rfl⟩
  have : Eg s = none := by
   rcases c0 with h | h
   ·refine Ic ?_
    cases hc : Bw s with
    | none => rfl
    | some e => rw [hc] at hpf; rw [hpf.1] at h; cases h
   ·cases hv : Eg s with
    | none => rfl
    | some e => rw [hv] at h; cases h
  rw [My, this]; rfl
 intro c0
 try simp only [nb] at c0
 obtain ⟨e, hv, hx, hc, hval, hok, hlen⟩ := M7 c0.2; rw [hc] at hpf; obtain ⟨_, rfl⟩ := hpf
 have hpl := e.print_len
 have hpt := e.print.text_len
 refine Ae (Se rfl ?_); refine A3 rfl .free rfl ?_; refine Ca rfl (Sr _ (Nat.lt_succ_self _) hrep _) ?_; rintro _ J2 _ e2 ⟨cs2, rfl, h2, rfl⟩; refine Ca rfl (Oq h2 (by unfold Az; omega) _) ?_; rintro _ _ _ _ ⟨rfl, rfl, rfl⟩; refine Oa rfl (Oa rfl (Aa ?_)); refine Ad (.tmp rfl (.tmp rfl .nil)) ?_
 exact ⟨J2, L, hleJ.trans e2, Bf, by rw [My, hv]; rfl, rfl⟩
set_option maxRecDepth 100000
set_option linter.unusedVariables false
set_option linter.unusedSimpArgs false

theorem Vy {e : Ex} (h : e.closed = true) : e.occ [] = [] := by unfold Ex.closed at h; simpa using h
theorem closed_free {s : Ap} {e : Ex} (h : Bw s = some e) : Hd s = some [] := by
 obtain ⟨h1, h2, h3, h4, h5⟩ := E6 h
 unfold Hd
 rw [h1]
 have : e.free = [] := by unfold Ex.free; rw [Vy h5]; rfl
 simp [this]
set_option maxRecDepth 100000
set_option linter.unusedVariables false
set_option linter.unusedSimpArgs false

def nul : Ex := .num [48]
theorem Ex.put0_occ : ∀ {e : Ex} {n x : Ap}, x ∈ (e.put n nul).occ [] ↔ x ∈ e.occ [] ∧ x ≠ n
 | .num s, n, x => by simp [Ex.put, Ex.occ]
 | .name s, n, x => by
  simp only [Ex.put]
  by_cases h : s = n
  ·subst h; simp [Ex.occ, nul]
  ·rw [if_neg h]
   simp only [Ex.occ, List.not_mem_nil, if_false, List.mem_singleton]
   constructor
   ·rintro rfl; exact ⟨rfl, h⟩
   ·exact fun hh => hh.1
 | .bin o a b, n, x => by
  simp only [Ex.put, Ex.occ, List.mem_append, Ex.put0_occ (e := a), Ex.put0_occ (e := b)]
  constructor
  ·rintro (⟨h1, h2⟩ | ⟨h1, h2⟩)
   ·exact ⟨.inl h1, h2⟩
   ·exact ⟨.inr h1, h2⟩
  ·rintro ⟨h1 | h1, h2⟩
   ·exact .inl ⟨h1, h2⟩
   ·exact .inr ⟨h1, h2⟩
 | .ite a b c, n, x => by
  simp only [Ex.put, Ex.occ, List.mem_append, Ex.put0_occ (e := a), Ex.put0_occ (e := b), Ex.put0_occ (e := c)]
  constructor
  ·rintro ((⟨h1, h2⟩ | ⟨h1, h2⟩) | ⟨h1, h2⟩)
   ·exact ⟨.inl (.inl h1), h2⟩
   ·exact ⟨.inl (.inr h1), h2⟩
   ·exact ⟨.inr h1, h2⟩
  ·rintro ⟨(h1 | h1) | h1, h2⟩
   ·exact .inl (.inl ⟨h1, h2⟩)
   ·exact .inl (.inr ⟨h1, h2⟩)
   ·exact .inr ⟨h1, h2⟩
 | .lt y a b, n, x => by
  simp only [Ex.put, Ex.occ, List.mem_append, List.nil_append, Ex.put0_occ (e := a)]
  rw [Ex.occ_mem (bd := [y]), Ex.occ_mem (e := b) (bd := [y])]
  simp only [List.mem_singleton]
  by_cases h : y = n
  ·subst h; rw [if_pos rfl]
   constructor
   ·rintro (⟨h1, h2⟩ | ⟨h1, h2⟩)
    ·exact ⟨.inl h1, h2⟩
    ·exact ⟨.inr ⟨h1, h2⟩, h2⟩
   ·rintro ⟨h1 | h1, h2⟩
    ·exact .inl ⟨h1, h2⟩
    ·exact .inr h1
  ·rw [if_neg h, Ex.put0_occ (e := b)]
   constructor
   ·rintro (⟨h1, h2⟩ | ⟨⟨h1, h3⟩, h2⟩)
    ·exact ⟨.inl h1, h2⟩
    ·exact ⟨.inr ⟨h1, h2⟩, h3⟩
   ·rintro ⟨h1 | ⟨h1, h3⟩, h2⟩
    ·exact .inl ⟨h1, h2⟩
    ·exact .inr ⟨⟨h1, h2⟩, h3⟩
 | .fn f y s t b, n, x => by
  simp only [Ex.put, Ex.occ, List.nil_append]
  rw [Ex.occ_mem (bd := [f, y]), Ex.occ_mem (e := b) (bd := [f, y])]
  simp only [List.mem_cons, List.not_mem_nil, or_false, not_or]
  by_cases h : f = n ∨ y = n
  ·rw [if_pos h]
   constructor
   ·rintro ⟨h1, h2, h3⟩; refine ⟨⟨h1, h2, h3⟩, ?_⟩
    rcases h with rfl | rfl
    ·exact h2
    ·exact h3
   ·exact fun hh => hh.1
  ·rw [if_neg h, Ex.put0_occ (e := b)]
   constructor
   ·rintro ⟨⟨h1, h4⟩, h2⟩; exact ⟨⟨h1, h2⟩, h4⟩
   ·rintro ⟨⟨h1, h2⟩, h4⟩; exact ⟨⟨h1, h4⟩, h2⟩
 | .un o a, n, x => by
  simp only [Ex.put, Ex.occ, Ex.put0_occ (e := a)]
def Ex.puts (e : Ex) (l : List Ap) : Ex := l.foldl (fun e n => e.put n nul) e
def Adq (s n : Ap) : Int := match E5 s with
 | some e => if Bv n = true then (((e.occ []).count n : Nat) : Int) else -1
 | none => -1
set_option maxRecDepth 100000
set_option linter.unusedVariables false
set_option linter.unusedSimpArgs false

theorem Ex.putSize : ∀ (e : Ex) (n : Ap) (v : Ex), (e.put n v).size + e.count n = e.size + e.count n * v.size
 | .num s, n, v => by simp [Ex.put, Ex.count]
 | .name s, n, v => by
  simp only [Ex.put, Ex.count]
  by_cases h : s = n
  ·rw [if_pos h, if_pos h]; simp only [Ex.size]; omega
  ·rw [if_neg h, if_neg h]; simp
 | .bin o a b, n, v => by have := a.putSize n v; have := b.putSize n v; simp only [Ex.put, Ex.size, Ex.count, Nat.add_mul]; omega
 | .ite a b c, n, v => by have := a.putSize n v; have := b.putSize n v; have := c.putSize n v; simp only [Ex.put, Ex.size, Ex.count, Nat.add_mul]; omega
 | .lt x a b, n, v => by
  have := a.putSize n v; have := b.putSize n v
  simp only [Ex.put, Ex.size, Ex.count]
  by_cases h : x = n
  ·rw [if_pos h, if_pos h]; simp only [Nat.add_zero]; omega
  ·rw [if_neg h, if_neg h]; simp only [Nat.add_mul]; omega
 | .fn f x s t b, n, v => by
  have := b.putSize n v
  simp only [Ex.put, Ex.size, Ex.count]
  by_cases h : f = n ∨ x = n
  ·rw [if_pos h, if_pos h]; simp
  ·rw [if_neg h, if_neg h]; omega
 | .un o a, n, v => by have := a.putSize n v; simp only [Ex.put, Ex.size, Ex.count]; omega
theorem Ab1 {v : Ex} (h : v.occ [] = []) (bd : List Ap) : v.occ bd = [] := by rw [Ex.occ_filter, h]; rfl
theorem Ex.put_occ0 {n : Ap} {v : Ex} (hv : v.occ [] = []) : ∀ (e : Ex) (bd : List Ap), (e.put n v).occ bd = (e.put n nul).occ bd
 | .num s, bd => rfl
 | .name s, bd => by
  simp only [Ex.put]
  by_cases h : s = n
  ·rw [if_pos h, if_pos h, Ab1 hv]; rfl
  ·rw [if_neg h, if_neg h]
 | .bin o a b, bd => by simp only [Ex.put, Ex.occ, Ex.put_occ0 hv a, Ex.put_occ0 hv b]
 | .ite a b c, bd => by simp only [Ex.put, Ex.occ, Ex.put_occ0 hv a, Ex.put_occ0 hv b, Ex.put_occ0 hv c]
 | .lt x a b, bd => by simp only [Ex.put, Ex.occ, Ex.put_occ0 hv a]; split <;> simp only [Ex.put_occ0 hv b]
 | .fn f x s t b, bd => by simp only [Ex.put, Ex.occ]; split <;> simp only [Ex.put_occ0 hv b]
 | .un o a, bd => by simp only [Ex.put, Ex.occ, Ex.put_occ0 hv a]
theorem Ex.put_occ {n x : Ap} {v e : Ex} (hv : v.occ [] = []) : x ∈ (e.put n v).occ [] ↔ x ∈ e.occ [] ∧ x ≠ n := by rw [Ex.put_occ0 hv e, Ex.put0_occ]
def Adp (a b : Ap) : Bool := match E5 a, E5 b with
 | some e, some f => e.alk f [] []
 | _, _ => false
set_option maxRecDepth 100000
set_option linter.unusedVariables false
set_option linter.unusedSimpArgs false

def Ji (n : Int) : Int := (n + 500) % 1000 - 500
theorem Ru (n : Int) : ((n + 500).tmod 1000 + 1000).tmod 1000 - 500 = Ji n := by
 unfold Ji
 rw [Int.tmod_eq_emod_of_nonneg (a := (n + 500).tmod 1000 + 1000) (by have := Int.lt_tmod_of_pos (n + 500) (b := 1000) (by decide); omega)]; rw [Int.tmod_eq_emod]
 split <;> omega
theorem Dq (n : Int) : -500 ≤ Ji n ∧ Ji n ≤ 499 := by unfold Ji; omega
def B5.calc (o : B5) (x y : Int) : Int := match o with
 | .add => x + y
 | .sub => x - y
 | _ => x * y
def B5.nums : B5 → Bool
 | .call => false
 | .pair => false
 | _ => true
def Js (o : B5) (a b : Ap) : Ap := Mp (Ji (o.calc (Bx a) (Bx b)))
theorem Ve : ∀ k : Nat, k < 1000 → By (Mp ((k : Int) - 500)) = true ∧ Bx (Mp ((k : Int) - 500)) = (k : Int) - 500 := by decide +kernel
theorem Aae {n : Int} (h0 : -500 ≤ n) (h1 : n ≤ 499) : By (Mp n) = true ∧ Bx (Mp n) = n := by
 have := Ve (n + 500).toNat (by omega)
 rw [show ((n + 500).toNat : Int) - 500 = n by omega] at this
 exact this
theorem Mz (o : B5) (a b : Ap) : By (Js o a b) = true ∧ Bx (Js o a b) = Ji (o.calc (Bx a) (Bx b)) := Aae (Dq _).1 (Dq _).2
theorem Xv : ∀ (l : Ap), l.all D8 = true → Dl l < 10 ^ l.length := by
 have key : ∀ (l : Ap) (a : Nat), l.all D8 = true → l.foldl (fun n b => 10 * n + (b.toNat - 48)) a < (a + 1) * 10 ^ l.length := by
  intro l
  induction l with
  | nil => intro a _; simp
  | cons b r ih =>
   intro a h
   simp only [List.all_cons, Bool.and_eq_true] at h
   have hb : b.toNat - 48 ≤ 9 := by have := h.1; simp [D8] at this; omega
   refine Nat.lt_of_lt_of_le (ih _ h.2) ?_; rw [List.length_cons, Nat.pow_succ]
   calc (10 * a + (b.toNat - 48) + 1) * 10 ^ r.length ≤ ((a + 1) * 10) * 10 ^ r.length := Nat.mul_le_mul_right _ (by omega)
    _ = (a + 1) * (10 ^ r.length * 10) := by rw [Nat.mul_assoc, Nat.mul_comm 10]
 intro l h
 have := key l 0 h
 simpa [Dl] using this
theorem Ig {s : Ap} (h : By s = true) : -999 ≤ Bx s ∧ Bx s ≤ 999 := by
 unfold Bx
 split
 ·omega
 ·rename_i h0
  simp only [By, h0, decide_false, Bool.false_or, Bool.and_eq_true, decide_eq_true_eq] at h
  have h1 := Xv (Cy s) h.1.2
  have h2 : 10 ^ (Cy s).length ≤ 10 ^ 3 := Nat.pow_le_pow_right (by decide) h.1.1.2
  split <;> omega
theorem I4 {s : Ap} (h : By s = true) : Bx s = 0 ↔ s = [48] := by
 unfold Bx
 split
 ·rename_i h0; simp [h0]
 ·rename_i h0
  simp only [h0, iff_false]
  simp only [By, h0, decide_false, Bool.false_or, Bool.and_eq_true, decide_eq_true_eq, Bool.not_eq_true', decide_eq_false_iff_not] at h
  have h1 : 1 ≤ Dl (Cy s) := by
   cases hu : Cy s with
   | nil => rw [hu] at h; simp at h
   | cons b r =>
    rw [hu] at h
    have hb : 49 ≤ b.toNat := by
     have h3 := h.1.2
     have h4 := h.2
     simp [D8] at h3 h4
     omega
    have hm : ∀ (r : Ap) (a : Nat), 1 ≤ a → 1 ≤ r.foldl (fun n b => 10 * n + (b.toNat - 48)) a := by
     intro r
     induction r with
     | nil => intro a ha; exact ha
     | cons c r ih => intro a ha; exact ih (10 * a + (c.toNat - 48)) (by omega)
    exact hm r (10 * 0 + (b.toNat - 48)) (by omega)
  split <;> omega
def Ex.turn : Ex → Option Ex
 | .bin .call (.fn f x s t b) v => some ((b.put f (.fn f x s t b)).put x v)
 | .bin o (.num a) (.num b) => if o.nums = true then some (.num (Js o a b)) else none
 | .ite (.num a) b c => some (if a = [48] then b else c)
 | .lt x a b => some (b.put x a)
 | .un .fst (.bin .pair a b) => some a
 | .un .snd (.bin .pair a b) => some b
 | _ => none
def Ex.step : Ex → Option Ex
 | .bin o a b => if a.value = false then a.step.map fun c => .bin o c b else if b.value = false then b.step.map fun c => .bin o a c else (Ex.bin o a b).turn
 | .ite a b c => if a.value = false then a.step.map fun d => .ite d b c else (Ex.ite a b c).turn
 | .lt x a b => if a.value = false then a.step.map fun d => .lt x d b else (Ex.lt x a b).turn
 | .un o a => if a.value = false then a.step.map fun d => .un o d else (Ex.un o a).turn
 | _ => none
theorem Ht {o : B5} {a b e' : Ex} (h : (Ex.bin o a b).turn = some e') : (∃ f x s t c, o = .call ∧ a = .fn f x s t c ∧ e' = (c.put f (.fn f x s t c)).put x b) ∨ (∃ p q, o.nums = true ∧ a = .num p ∧ b = .num q ∧ e' = .num (Js o p q)) := by
 cases a with
 | fn f x s t c =>
  cases o <;> first
   | (exact .inl ⟨f, x, s, t, c, rfl, rfl, (Option.some.inj h).symm⟩)
   | (cases b <;> cases h)
 | num p =>
  cases b with
  | num q =>
   have h : (if o.nums = true then some (Ex.num (Js o p q)) else none) = some e' := by cases o <;> exact h
   split at h
   ·rename_i ho; exact .inr ⟨p, q, ho, rfl, rfl, (Option.some.inj h).symm⟩
   ·cases h
  | _ => cases o <;> cases h
 | _ => cases o <;> first | cases h | (cases b <;> cases h)
theorem K9 {a b c e' : Ex} (h : (Ex.ite a b c).turn = some e') : ∃ p, a = .num p ∧ e' = if p = [48] then b else c := by
 cases a <;> first | exact ⟨_, rfl, (Option.some.inj h).symm⟩ | cases h
def U2.pick (o : U2) (p q : Ex) : Ex := match o with
 | .fst => p
 | .snd => q
theorem Ln {o : U2} {a e' : Ex} (h : (Ex.un o a).turn = some e') : ∃ p q, a = .bin .pair p q ∧ e' = o.pick p q := by
 cases a with
 | bin k p q => cases k <;> cases o <;> first | exact ⟨p, q, rfl, (Option.some.inj h).symm⟩ | cases h
 | _ => cases o <;> cases h
theorem Ex.step_ok : ∀ {e e' : Ex}, e.ok = true → e.step = some e' → e'.ok = true
 | .num _, e', h, hs => by cases hs
 | .name _, e', h, hs => by cases hs
 | .fn _ _ _ _ _, e', h, hs => by cases hs
 | .bin o a b, e', h, hs => by
  simp only [Ex.ok, Bool.and_eq_true] at h
  simp only [Ex.step] at hs
  split at hs
  ·obtain ⟨c, hc, rfl⟩ := Option.map_eq_some_iff.1 hs
   simp only [Ex.ok, Bool.and_eq_true]; exact ⟨Ex.step_ok h.1 hc, h.2⟩
  ·split at hs
   ·obtain ⟨c, hc, rfl⟩ := Option.map_eq_some_iff.1 hs
    simp only [Ex.ok, Bool.and_eq_true]; exact ⟨h.1, Ex.step_ok h.2 hc⟩
   ·rcases Ht hs with ⟨f, x, s, t, c, rfl, rfl, rfl⟩ | ⟨p, q, ho, rfl, rfl, rfl⟩
    ·have hc : c.ok = true := by have := h.1; simp only [Ex.ok, Bool.and_eq_true] at this; exact this.2
     exact Ex.put_ok (Ex.put_ok hc h.1) h.2
    ·exact (Mz o p q).1
 | .ite a b c, e', h, hs => by
  simp only [Ex.ok, Bool.and_eq_true] at h
  simp only [Ex.step] at hs
  split at hs
  ·obtain ⟨d, hd, rfl⟩ := Option.map_eq_some_iff.1 hs
   simp only [Ex.ok, Bool.and_eq_true]; exact ⟨⟨Ex.step_ok h.1.1 hd, h.1.2⟩, h.2⟩
  ·obtain ⟨p, rfl, rfl⟩ := K9 hs
   split
   ·exact h.1.2
   ·exact h.2
 | .lt x a b, e', h, hs => by
  simp only [Ex.ok, Bool.and_eq_true] at h
  simp only [Ex.step] at hs
  split at hs
  ·obtain ⟨d, hd, rfl⟩ := Option.map_eq_some_iff.1 hs
   simp only [Ex.ok, Bool.and_eq_true]; exact ⟨⟨h.1.1, Ex.step_ok h.1.2 hd⟩, h.2⟩
  ·obtain rfl := (Option.some.inj hs).symm
   exact Ex.put_ok h.2 h.1.2
 | .un o a, e', h, hs => by
  have h1 : a.ok = true := h
  simp only [Ex.step] at hs
  split at hs
  ·obtain ⟨d, hd, rfl⟩ := Option.map_eq_some_iff.1 hs
   show d.ok = true
   exact Ex.step_ok h1 hd
  ·obtain ⟨p, q, rfl, rfl⟩ := Ln hs
   simp only [Ex.ok, Bool.and_eq_true] at h1
   cases o
   ·exact h1.1
   ·exact h1.2
theorem Fs {a b : List Ap} (h : a ++ b = []) : a = [] ∧ b = [] := List.append_eq_nil_iff.1 h
theorem Qb {e : Ex} {bd : List Ap} : e.occ bd = [] ↔ ∀ x ∈ e.occ [], x ∈ bd := by
 rw [Ex.occ_filter, List.filter_eq_nil_iff]
 constructor
 ·intro h x hx; have := h x hx; simpa using this
 ·intro h x hx; simpa using h x hx
theorem Ex.step_closed : ∀ {e e' : Ex}, e.occ [] = [] → e.step = some e' → e'.occ [] = []
 | .num _, e', h, hs => by cases hs
 | .name _, e', h, hs => by cases hs
 | .fn _ _ _ _ _, e', h, hs => by cases hs
 | .bin o a b, e', h, hs => by
  obtain ⟨h1, h2⟩ := Fs (show a.occ [] ++ b.occ [] = [] from h)
  simp only [Ex.step] at hs
  split at hs
  ·obtain ⟨c, hc, rfl⟩ := Option.map_eq_some_iff.1 hs
   simp only [Ex.occ, Ex.step_closed h1 hc, h2, List.append_nil]
  ·split at hs
   ·obtain ⟨c, hc, rfl⟩ := Option.map_eq_some_iff.1 hs
    simp only [Ex.occ, Ex.step_closed h2 hc, h1, List.append_nil]
   ·rcases Ht hs with ⟨f, x, s, t, c, rfl, rfl, rfl⟩ | ⟨p, q, ho, rfl, rfl, rfl⟩
    ·have hc : ∀ y ∈ c.occ [], y ∈ [f, x] := Qb.1 (show c.occ ([] ++ [f, x]) = [] from h1)
     rw [List.eq_nil_iff_forall_not_mem]; intro y hy; obtain ⟨hy, hx⟩ := (Ex.put_occ h2).1 hy; obtain ⟨hy, hf⟩ := (Ex.put_occ h1).1 hy
     have := hc y hy
     simp only [List.mem_cons, List.not_mem_nil, or_false] at this
     exact this.elim hf hx
    ·rfl
 | .ite a b c, e', h, hs => by
  obtain ⟨h1, h3⟩ := Fs (show (a.occ [] ++ b.occ []) ++ c.occ [] = [] from h); obtain ⟨h1, h2⟩ := Fs h1
  simp only [Ex.step] at hs
  split at hs
  ·obtain ⟨d, hd, rfl⟩ := Option.map_eq_some_iff.1 hs
   simp only [Ex.occ, Ex.step_closed h1 hd, h2, h3, List.append_nil]
  ·obtain ⟨p, rfl, rfl⟩ := K9 hs
   split
   ·exact h2
   ·exact h3
 | .lt x a b, e', h, hs => by
  obtain ⟨h1, h2⟩ := Fs (show a.occ [] ++ b.occ ([] ++ [x]) = [] from h)
  simp only [Ex.step] at hs
  split at hs
  ·obtain ⟨d, hd, rfl⟩ := Option.map_eq_some_iff.1 hs
   simp only [Ex.occ, Ex.step_closed h1 hd, List.nil_append]; exact h2
  ·obtain rfl := (Option.some.inj hs).symm
   have hc := Qb.1 h2
   rw [List.eq_nil_iff_forall_not_mem]; intro y hy; obtain ⟨hy, hx⟩ := (Ex.put_occ h1).1 hy
   have := hc y hy
   simp only [List.nil_append, List.mem_cons, List.not_mem_nil, or_false] at this
   exact hx this
 | .un o a, e', h, hs => by
  have h : a.occ [] = [] := h
  simp only [Ex.step] at hs
  split at hs
  ·obtain ⟨d, hd, rfl⟩ := Option.map_eq_some_iff.1 hs
   show d.occ [] = []
   exact Ex.step_closed h hd
  ·obtain ⟨p, q, rfl, rfl⟩ := Ln hs; obtain ⟨h1, h2⟩ := Fs (show p.occ [] ++ q.occ [] = [] from h)
   cases o
   ·exact h1
   ·exact h2
theorem Rw : ∀ F : Nat, F < 120 → F * (1 + F) * (121 - F) ≤ 300000 := by decide +kernel
theorem K3 (e : Ex) (n : Ap) (v : Ex) (hc : e.count n ≤ e.size) : (e.put n v).size ≤ e.size * (1 + v.size) := by
 have h := e.putSize n v
 have h2 : e.count n * v.size ≤ e.size * v.size := Nat.mul_le_mul_right _ hc
 rw [Nat.mul_add, Nat.mul_one]; omega
theorem Ex.count_size (n : Ap) : ∀ e : Ex, e.count n ≤ e.size
 | .num _ => by simp [Ex.count]
 | .name s => by simp only [Ex.count, Ex.size]; split <;> omega
 | .bin _ a b => by have := a.count_size n; have := b.count_size n; simp only [Ex.count, Ex.size]; omega
 | .ite a b c => by have := a.count_size n; have := b.count_size n; have := c.count_size n; simp only [Ex.count, Ex.size]; omega
 | .lt x a b => by have := a.count_size n; have := b.count_size n; simp only [Ex.count, Ex.size]; split <;> omega
 | .fn f x s t b => by have := b.count_size n; simp only [Ex.count, Ex.size]; split <;> omega
 | .un _ a => by have := a.count_size n; simp only [Ex.count, Ex.size]; omega
theorem Ex.step_size : ∀ {e e' : Ex}, e.size ≤ 120 → e.step = some e' → e'.size ≤ e.size + 300000
 | .num _, e', h, hs => by cases hs
 | .name _, e', h, hs => by cases hs
 | .fn _ _ _ _ _, e', h, hs => by cases hs
 | .bin o a b, e', h, hs => by
  simp only [Ex.size] at h
  simp only [Ex.step] at hs
  split at hs
  ·obtain ⟨c, hc, rfl⟩ := Option.map_eq_some_iff.1 hs
   have := Ex.step_size (e := a) (by omega) hc
   simp only [Ex.size]; omega
  ·split at hs
   ·obtain ⟨c, hc, rfl⟩ := Option.map_eq_some_iff.1 hs
    have := Ex.step_size (e := b) (by omega) hc
    simp only [Ex.size]; omega
   ·rcases Ht hs with ⟨f, x, s, t, c, rfl, rfl, rfl⟩ | ⟨p, q, ho, rfl, rfl, rfl⟩
    ·generalize hF : (Ex.fn f x s t c).size = F at h ⊢
     have hcF : c.size ≤ F := by rw [← hF]; simp only [Ex.size]; omega
     have h1 := K3 c f (.fn f x s t c) (c.count_size f)
     rw [hF] at h1
     have h2 := K3 (c.put f (.fn f x s t c)) x b (Ex.count_size x _)
     have h3 := Rw F (by omega)
     have h4 : (c.put f (.fn f x s t c)).size * (1 + b.size) ≤ F * (1 + F) * (121 - F) := Nat.mul_le_mul (Nat.le_trans h1 (Nat.mul_le_mul_right _ hcF)) (by omega)
     omega
    ·simp only [Ex.size]; omega
 | .ite a b c, e', h, hs => by
  simp only [Ex.size] at h
  simp only [Ex.step] at hs
  split at hs
  ·obtain ⟨d, hd, rfl⟩ := Option.map_eq_some_iff.1 hs
   have := Ex.step_size (e := a) (by omega) hd
   simp only [Ex.size]; omega
  ·obtain ⟨p, rfl, rfl⟩ := K9 hs
   simp only [Ex.size]
   split <;> omega
 | .lt x a b, e', h, hs => by
  simp only [Ex.size] at h
  simp only [Ex.step] at hs
  split at hs
  ·obtain ⟨d, hd, rfl⟩ := Option.map_eq_some_iff.1 hs
   have := Ex.step_size (e := a) (by omega) hd
   simp only [Ex.size]; omega
  ·obtain rfl := (Option.some.inj hs).symm
   have h2 := K3 b x a (b.count_size x)
   have h3 := Rw b.size (by omega)
   have h4 : b.size * (1 + a.size) ≤ b.size * (121 - b.size) := Nat.mul_le_mul_left _ (by omega)
   have h5 : b.size * (121 - b.size) ≤ b.size * (1 + b.size) * (121 - b.size) := Nat.mul_le_mul_right _ (Nat.le_mul_of_pos_right _ (by omega))
   simp only [Ex.size]; omega
 | .un o a, e', h, hs => by
  simp only [Ex.size] at h
  simp only [Ex.step] at hs
  split at hs
  ·obtain ⟨d, hd, rfl⟩ := Option.map_eq_some_iff.1 hs
   have := Ex.step_size (e := a) (by omega) hd
   simp only [Ex.size]; omega
  ·obtain ⟨p, q, rfl, rfl⟩ := Ln hs
   simp only [Ex.size] at h ⊢
   cases o <;> simp only [U2.pick] <;> omega
def Ex.go (e : Ex) : Option Ex := if e.value = true then none else e.step.bind fun e' => if e'.fine = true then some e' else none
def N0 (s : Ap) : Option Ap := (Bw s).bind fun e => e.go.map fun e' => e'.tree.text
def Lm (s : Ap) : Bool := match Bw s with
 | some e => !e.value && e.step.isNone
 | none => false
def Ex.goes (e : Ex) : Nat → Ex × Nat
 | 0 => (e, 0)
 | n + 1 => match e.go with
  | some e' => ((e'.goes n).1, (e'.goes n).2 + 1)
  | none => (e, 0)
theorem Abq {e e' : Ex} (h : e.go = some e') : e.value = false ∧ e.step = some e' ∧ e'.fine = true := by
 unfold Ex.go at h
 split at h
 ·cases h
 ·rename_i hv
  cases hs : e.step with
  | none => rw [hs] at h; cases h
  | some d =>
   rw [hs] at h
   simp only [Option.bind_some] at h
   split at h
   ·rename_i hf; obtain rfl := Option.some.inj h; exact ⟨by simpa using hv, rfl, hf⟩
   ·cases h
theorem O4 {s : Ap} {e : Ex} (h : Bw s = some e) : N0 s = e.go.map fun e' => e'.tree.text := by unfold N0; rw [h]; rfl
theorem Vg {s : Ap} (h : Bw s = none) : N0 s = none := by unfold N0; rw [h]; rfl
theorem Kk {s : Ap} {e : Ex} (h : Bw s = some e) : Lm s = (!e.value && e.step.isNone) := by unfold Lm; rw [h]
theorem Tj {s : Ap} (h : Bw s = none) : Lm s = false := by unfold Lm; rw [h]
set_option maxRecDepth 100000
set_option linter.unusedVariables false
set_option linter.unusedSimpArgs false

theorem Wz {e : Ex} {l : List Ap} {m : List Ty} {t : Ty} : e.ty l m = some t ↔ e.chk l m = .ok t := by
 unfold Ex.ty
 cases e.chk l m with
 | ok u => simp
 | error x => simp
theorem Aa5 {e : Ex} (h : e.occ [] = []) {l l' : List Ap} {m m' : List Ty} (hl : l.length = m.length) (hl' : l'.length = m'.length) : e.ty l m = e.ty l' m' := by
 unfold Ex.ty
 rw [Ex.chk_congr (l' := l') (m' := m') hl hl' (fun x hx => by rw [h] at hx; cases hx)]
theorem Ws {e v : Ex} {n : Ap} {k t : Ty} {l : List Ap} {m : List Ty} (hl : l.length = m.length) (hv : v.ty [] [] = some k) (hn : Fp l m n = some k) (he : e.ty l m = some t) : (e.put n v).ty l m = some t :=
 Wz.2 (Ex.put_chk hl (Wz.1 hv) hn (Wz.1 he))
theorem Pg {e e' : Ex} {t : Ty} (hok : e.ok = true) (hc : e.occ [] = []) (hs : e.turn = some e') (hs' : e'.occ [] = []) (h : e.ty [] [] = some t) : e'.ty [] [] = some t := by
 cases e with
 | num s => cases hs
 | name s => cases hs
 | fn f x s u b => cases hs
 | bin o a b =>
  simp only [Ex.ok, Bool.and_eq_true] at hok
  rw [ty_bin] at h; obtain ⟨p, hp, h'⟩ := Option.bind_eq_some_iff.1 h; clear h; have h := h'; clear h'; obtain ⟨q, hq, h'⟩ := Option.bind_eq_some_iff.1 h; clear h; have h := h'; clear h'
  rcases Ht hs with ⟨f, x, s, u, c, rfl, rfl, rfl⟩ | ⟨y, z, ho, rfl, rfl, rfl⟩
  ·have hpf := hp
   rw [ty_fn] at hp
   split at hp
   ·rename_i hsz
    obtain ⟨r, hr, hp⟩ := Option.bind_eq_some_iff.1 hp
    split at hp
    ·rename_i hru
     subst hru; obtain rfl := Option.some.inj hp
     replace h : (if s = q then some r else none) = some t := h
     split at h
     ·rename_i hsq
      subst hsq; obtain rfl := Option.some.inj h
      have hfx : f ≠ x := by
       have := hok.1
       simp only [Ex.ok, Bool.and_eq_true, decide_eq_true_eq] at this
       exact this.1.1.1.2
      have h1 := Ws (n := f) (l := [] ++ [f, x]) (m := [] ++ [.fn s r, s]) rfl hpf (by rw [Hu rfl, if_neg (Ne.symm hfx), if_pos rfl]) hr
      have h2 := Ws (n := x) (l := [] ++ [f, x]) (m := [] ++ [.fn s r, s]) rfl hq (by rw [Hu rfl, if_pos rfl]) h1
      rw [Aa5 hs' (l' := [] ++ [f, x]) (m' := [] ++ [.fn s r, s]) rfl rfl]; exact h2
     ·cases h
    ·cases hp
   ·cases hp
  ·have ht : t = .i := by
    cases o <;> first | (cases ho; done) | skip
    all_goals
     replace h : (if p = .i ∧ q = .i then some Ty.i else none) = some t := h
     split at h
     ·exact (Option.some.inj h).symm
     ·cases h
   rw [ht]; rfl
 | ite a b c =>
  rw [ty_ite] at h; obtain ⟨p, hp, h'⟩ := Option.bind_eq_some_iff.1 h; clear h; have h := h'; clear h'; obtain ⟨q, hq, h'⟩ := Option.bind_eq_some_iff.1 h; clear h; have h := h'; clear h'; obtain ⟨r, hr, h'⟩ := Option.bind_eq_some_iff.1 h; clear h; have h := h'; clear h'
  split at h
  ·rename_i hi
   obtain rfl := Option.some.inj h; obtain ⟨y, rfl, rfl⟩ := K9 hs
   split
   ·exact hq
   ·rw [hi.2]; exact hr
  ·cases h
 | lt x a b =>
  rw [ty_lt] at h; obtain ⟨p, hp, h'⟩ := Option.bind_eq_some_iff.1 h; clear h; have h := h'; clear h'; obtain rfl := (Option.some.inj hs).symm
  have h1 := Ws (n := x) (l := [] ++ [x]) (m := [] ++ [p]) rfl hp (by rw [Hl rfl, if_pos rfl]) h
  rw [Aa5 hs' (l' := [] ++ [x]) (m' := [] ++ [p]) rfl rfl]; exact h1
 | un o a =>
  rw [ty_un] at h; obtain ⟨p, hp, h'⟩ := Option.bind_eq_some_iff.1 h; clear h; have h := h'; clear h'; obtain ⟨y, z, rfl, rfl⟩ := Ln hs; rw [ty_bin] at hp; obtain ⟨q, hq, hp⟩ := Option.bind_eq_some_iff.1 hp; obtain ⟨r, hr, hp⟩ := Option.bind_eq_some_iff.1 hp
  have hp : (if (Ty.pr q r).size ≤ 16 then some (Ty.pr q r) else none) = some p := hp
  split at hp
  ·obtain rfl := Option.some.inj hp
   cases o with
   | fst => obtain rfl := Option.some.inj (show some q = some t from h); exact hq
   | snd => obtain rfl := Option.some.inj (show some r = some t from h); exact hr
  ·cases hp
theorem Hj : ∀ {e e' : Ex} {t : Ty}, e.ok = true → e.occ [] = [] → e.step = some e' → e.ty [] [] = some t → e'.ty [] [] = some t
 | .num _, e', t, hok, hc, hs, h => by cases hs
 | .name _, e', t, hok, hc, hs, h => by cases hs
 | .fn _ _ _ _ _, e', t, hok, hc, hs, h => by cases hs
 | .bin o a b, e', t, hok, hc, hs, h => by
  have hs0 := hs
  have hok0 := hok
  obtain ⟨h1, h2⟩ := Fs (show a.occ [] ++ b.occ [] = [] from hc)
  simp only [Ex.ok, Bool.and_eq_true] at hok
  simp only [Ex.step] at hs
  split at hs
  ·obtain ⟨c, hd, rfl⟩ := Option.map_eq_some_iff.1 hs; rw [ty_bin] at h ⊢; obtain ⟨p, hp, h'⟩ := Option.bind_eq_some_iff.1 h; clear h; have h := h'; clear h'; rw [Hj hok.1 h1 hd hp]; exact h
  ·split at hs
   ·obtain ⟨c, hd, rfl⟩ := Option.map_eq_some_iff.1 hs; rw [ty_bin] at h ⊢; obtain ⟨p, hp, h'⟩ := Option.bind_eq_some_iff.1 h; clear h; have h := h'; clear h'; obtain ⟨q, hq, h'⟩ := Option.bind_eq_some_iff.1 h; clear h; have h := h'; clear h'; rw [hp, Option.bind_some, Hj hok.2 h2 hd hq]; exact h
   ·exact Pg hok0 hc hs (Ex.step_closed hc hs0) h
 | .ite a b c, e', t, hok, hc, hs, h => by
  have hs0 := hs
  have hok0 := hok
  obtain ⟨h1, h3⟩ := Fs (show (a.occ [] ++ b.occ []) ++ c.occ [] = [] from hc); obtain ⟨h1, h2⟩ := Fs h1
  simp only [Ex.ok, Bool.and_eq_true] at hok
  simp only [Ex.step] at hs
  split at hs
  ·obtain ⟨d, hd, rfl⟩ := Option.map_eq_some_iff.1 hs; rw [ty_ite] at h ⊢; obtain ⟨p, hp, h'⟩ := Option.bind_eq_some_iff.1 h; clear h; have h := h'; clear h'; rw [Hj hok.1.1 h1 hd hp]; exact h
  ·exact Pg hok0 hc hs (Ex.step_closed hc hs0) h
 | .lt x a b, e', t, hok, hc, hs, h => by
  have hs0 := hs
  have hok0 := hok
  obtain ⟨h1, h2⟩ := Fs (show a.occ [] ++ b.occ ([] ++ [x]) = [] from hc)
  simp only [Ex.ok, Bool.and_eq_true] at hok
  simp only [Ex.step] at hs
  split at hs
  ·obtain ⟨d, hd, rfl⟩ := Option.map_eq_some_iff.1 hs; rw [ty_lt] at h ⊢; obtain ⟨p, hp, h'⟩ := Option.bind_eq_some_iff.1 h; clear h; have h := h'; clear h'; rw [Hj hok.1.2 h1 hd hp]; exact h
  ·exact Pg hok0 hc hs (Ex.step_closed hc hs0) h
 | .un o a, e', t, hok, hc, hs, h => by
  have hs0 := hs
  have hok0 := hok
  have h1 : a.occ [] = [] := hc
  have hok1 : a.ok = true := hok
  simp only [Ex.step] at hs
  split at hs
  ·obtain ⟨d, hd, rfl⟩ := Option.map_eq_some_iff.1 hs; rw [ty_un] at h ⊢; obtain ⟨p, hp, h'⟩ := Option.bind_eq_some_iff.1 h; clear h; have h := h'; clear h'; rw [Hj hok1 h1 hd hp]; exact h
  ·exact Pg hok0 hc hs (Ex.step_closed hc hs0) h
theorem W1 : ∀ {e : Ex}, e.value = true → e.step = none
 | .num _, h => rfl
 | .name _, h => rfl
 | .fn _ _ _ _ _, h => rfl
 | .bin o a b, h => by
  cases o <;> first | (cases h; done) | skip
  simp only [Ex.value, Bool.and_eq_true] at h
  simp only [Ex.step, h.1, h.2, Bool.true_eq_false, if_false]
  cases a with
  | num p => cases b <;> rfl
  | _ => rfl
def Aef (s : Ap) (n : Int) : Option (Ap × Nat) := if 0 ≤ n ∧ n ≤ 500 then (Bw s).map fun e => ((e.goes n.toNat).1.tree.text, (e.goes n.toNat).2) else none
open Go.Shelf
def Uu : Go.Shelf.Ren := ⟨fun | 172 => 159 | 244 => 167 | 245 => 168 | 247 => 171 | 279 => 172 | 280 => 173 | 281 => 174 | 282 => 175 | 287 => 180 | 316 => 181 | 171 => 129 | 205 => 182 | 321 => 188 | 322 => 189 | 243 => 160 | 246 => 169 | 283 => 176 | 284 => 177 | 285 => 178 | 286 => 179 | 129 => 184 | 317 => 183 | 318 => 185 | 319 => 186 | 320 => 187 | 337 => 190 | 338 => 191 | n => n, fun | 9 => 9 | 3 => 3 | 75 => 114 | 76 => 115 | 4 => 4 | 5 => 5 | 167 => 171 | 37 => 22 | 0 => 0 | 85 => 172 | 2 => 2 | 168 => 174 | 53 => 178 | 175 => 183 | 46 => 185 | 210 => 187 | 127 => 117 | 145 => 198 | 143 => 196 | 21 => 21 | 171 => 177 | 173 => 181 | 212 => 190 | 51 => 191 | 20 => 20 | 213 => 192 | 232 => 200 | 233 => 201 | 80 => 43 | n => n, fun | 15 => 0 | 16 => 1 | 17 => 2 | 18 => 3 | 19 => 4 | n => n⟩
theorem Abx : Go.Proofs.Lays.n172 Tryz.prog Uu := {
 mixed := by kernel_rfl
 f129 := Tryz.func184.trans (congrArg some (by kernel_rfl))
 f171 := Tryz.func129.trans (congrArg some (by kernel_rfl))
 f172 := Tryz.func159.trans (congrArg some (by kernel_rfl))
 f205 := Tryz.func182.trans (congrArg some (by kernel_rfl))
 f243 := Tryz.func160.trans (congrArg some (by kernel_rfl))
 f244 := Tryz.func167.trans (congrArg some (by kernel_rfl))
 f245 := Tryz.func168.trans (congrArg some (by kernel_rfl))
 f246 := Tryz.func169.trans (congrArg some (by kernel_rfl))
 f247 := Tryz.func171.trans (congrArg some (by kernel_rfl))
 f279 := Tryz.func172.trans (congrArg some (by kernel_rfl))
 f280 := Tryz.func173.trans (congrArg some (by kernel_rfl))
 f281 := Tryz.func174.trans (congrArg some (by kernel_rfl))
 f282 := Tryz.func175.trans (congrArg some (by kernel_rfl))
 f283 := Tryz.func176.trans (congrArg some (by kernel_rfl))
 f284 := Tryz.func177.trans (congrArg some (by kernel_rfl))
 f285 := Tryz.func178.trans (congrArg some (by kernel_rfl))
 f286 := Tryz.func179.trans (congrArg some (by kernel_rfl))
 f287 := Tryz.func180.trans (congrArg some (by kernel_rfl))
 f316 := Tryz.func181.trans (congrArg some (by kernel_rfl))
 f317 := Tryz.func183.trans (congrArg some (by kernel_rfl))
 f318 := Tryz.func185.trans (congrArg some (by kernel_rfl))
 f319 := Tryz.func186.trans (congrArg some (by kernel_rfl))
 f320 := Tryz.func187.trans (congrArg some (by kernel_rfl))
 f321 := Tryz.func188.trans (congrArg some (by kernel_rfl))
 f322 := Tryz.func189.trans (congrArg some (by kernel_rfl))
 f337 := Tryz.func190.trans (congrArg some (by kernel_rfl))
 f338 := Tryz.func191.trans (congrArg some (by kernel_rfl))
 t0 := Tryz.underlying0
 a0 := Tryz.isAgg0
 z0 := Tryz.sizeOf0
 v0 := Tryz.zeroValue0
 t2 := Tryz.underlying2
 a2 := Tryz.isAgg2
 z2 := Tryz.sizeOf2
 v2 := Tryz.zeroValue2
 t3 := Tryz.underlying3
 a3 := Tryz.isAgg3
 z3 := Tryz.sizeOf3
 v3 := Tryz.zeroValue3
 t4 := Tryz.underlying4
 a4 := Tryz.isAgg4
 z4 := Tryz.sizeOf4
 v4 := Tryz.zeroValue4
 t5 := Tryz.underlying5
 a5 := Tryz.isAgg5
 z5 := Tryz.sizeOf5
 v5 := Tryz.zeroValue5
 t9 := Tryz.underlying9
 a9 := Tryz.isAgg9
 z9 := Tryz.sizeOf9
 v9 := Tryz.zeroValue9
 t20 := Tryz.underlying20
 a20 := Tryz.isAgg20
 z20 := Tryz.sizeOf20
 v20 := Tryz.zeroValue20
 t21 := Tryz.underlying21
 a21 := Tryz.isAgg21
 z21 := Tryz.sizeOf21
 v21 := Tryz.zeroValue21
 t37 := Tryz.underlying22
 a37 := Tryz.isAgg22
 z37 := Tryz.sizeOf22
 v37 := Tryz.zeroValue22
 t46 := Tryz.underlying185
 a46 := Tryz.isAgg185
 z46 := Tryz.sizeOf185
 v46 := Tryz.zeroValue185
 t51 := Tryz.underlying191
 a51 := Tryz.isAgg191
 z51 := Tryz.sizeOf191
 v51 := Tryz.zeroValue191
 t53 := Tryz.underlying178
 a53 := Tryz.isAgg178
 z53 := Tryz.sizeOf178
 v53 := Tryz.zeroValue178
 t75 := Tryz.underlying114
 a75 := Tryz.isAgg114
 z75 := Tryz.sizeOf114
 v75 := Tryz.zeroValue114
 t76 := Tryz.underlying115
 a76 := Tryz.isAgg115
 z76 := Tryz.sizeOf115
 v76 := Tryz.zeroValue115
 t85 := Tryz.underlying172
 a85 := Tryz.isAgg172
 z85 := Tryz.sizeOf172
 v85 := Tryz.zeroValue172
 t127 := Tryz.underlying117
 a127 := Tryz.isAgg117
 z127 := Tryz.sizeOf117
 v127 := Tryz.zeroValue117
 t143 := Tryz.underlying196
 a143 := Tryz.isAgg196
 z143 := Tryz.sizeOf196
 v143 := Tryz.zeroValue196
 t145 := Tryz.underlying198
 a145 := Tryz.isAgg198
 z145 := Tryz.sizeOf198
 v145 := Tryz.zeroValue198
 t167 := Tryz.underlying171
 a167 := Tryz.isAgg171
 z167 := Tryz.sizeOf171
 v167 := Tryz.zeroValue171
 t168 := Tryz.underlying174
 a168 := Tryz.isAgg174
 z168 := Tryz.sizeOf174
 v168 := Tryz.zeroValue174
 t171 := Tryz.underlying177
 a171 := Tryz.isAgg177
 z171 := Tryz.sizeOf177
 v171 := Tryz.zeroValue177
 t173 := Tryz.underlying181
 a173 := Tryz.isAgg181
 z173 := Tryz.sizeOf181
 v173 := Tryz.zeroValue181
 t175 := Tryz.underlying183
 a175 := Tryz.isAgg183
 z175 := Tryz.sizeOf183
 v175 := Tryz.zeroValue183
 t210 := Tryz.underlying187
 a210 := Tryz.isAgg187
 z210 := Tryz.sizeOf187
 v210 := Tryz.zeroValue187
 t212 := Tryz.underlying190
 a212 := Tryz.isAgg190
 z212 := Tryz.sizeOf190
 v212 := Tryz.zeroValue190
 t213 := Tryz.underlying192
 a213 := Tryz.isAgg192
 z213 := Tryz.sizeOf192
 t232 := Tryz.underlying200
 a232 := Tryz.isAgg200
 z232 := Tryz.sizeOf200
 v232 := Tryz.zeroValue200
 t233 := Tryz.underlying201
 a233 := Tryz.isAgg201
 z233 := Tryz.sizeOf201
 v233 := Tryz.zeroValue201
 g15 := by kernel_rfl
 g16 := by kernel_rfl
 g17 := by kernel_rfl
 g18 := by kernel_rfl
 g19 := by kernel_rfl }
set_option maxRecDepth 100000
set_option linter.unusedVariables false
set_option linter.unusedSimpArgs false

theorem Mem.frozenAt {I : Heap} {L : Bh} {b k m : Nat} {o : Obj} {w : World} (h : Mem I ((b, o) :: L) w) : Mem I L (w.freeze ⟨b, k, none⟩ m) := by
 obtain ⟨h1, h2, h3⟩ := h
 have hb := h2 (b, o) (.head _)
 have hn : b ∉ L.map (·.1) ∧ (L.map (·.1)).Nodup := List.nodup_cons.1 h3
 unfold World.freeze
 split
 ·exact ⟨h1, fun p hp => h2 p (.tail _ hp), hn.2⟩
 ·refine ⟨⟨fun c u hc => ?_, h1.2⟩, fun p hp => ⟨?_, (h2 p (.tail _ hp)).2⟩, hn.2⟩
  ·have hne : b ≠ c := fun e => by subst e; rw [hb.2] at hc; cases hc
   simp only [Array.getElem?_modify, if_neg hne]
   exact h1.1 c u hc
  ·have hne : b ≠ p.1 := fun e => hn.1 (e ▸ List.mem_map.2 ⟨p, hp, rfl⟩)
   simp only [Array.getElem?_modify, if_neg hne]
   exact (h2 p (.tail _ hp)).1
theorem N8 : ∀ (l : Ap) (a : Nat), l.all D8 = true → Lib.decFrom a l = some (l.foldl (fun n b => 10 * n + (b.toNat - 48)) a)
 | [], a, _ => rfl
 | b :: r, a, h => by
  simp only [List.all_cons, Bool.and_eq_true] at h
  have hb : 48 ≤ b.toNat ∧ b.toNat ≤ 57 := by have := h.1; simpa [D8] using this
  have := N8 r (a * 10 + (b.toNat - 48)) h.2
  rw [Nat.mul_comm a 10] at this
  simp only [Lib.decFrom, Lib.digitVal, if_pos hb, List.foldl_cons]
  rw [Nat.mul_comm a 10]; exact this
theorem V1 {l : Ap} (h : l.all D8 = true) (h1 : 1 ≤ l.length) : Lib.decNat l = some (Dl l) := by
 unfold Lib.decNat
 rw [if_neg (by cases l <;> simp at h1 ⊢)]
 exact N8 l 0 h
theorem Zc {s : Ap} (h : By s = true) : Lib.atoi s = some (Bx s) := by
 unfold Bx
 split
 ·rename_i h0; subst h0; rfl
 ·rename_i h0
  simp only [By, h0, decide_false, Bool.false_or, Bool.and_eq_true, decide_eq_true_eq] at h
  have h1 := V1 h.1.2 h.1.1.1
  cases s with
  | nil => simp [Cy] at h
  | cons b r =>
   simp only [List.getD_cons_zero] at *
   by_cases h45 : b.toNat = 45
   ·have hb : (b == 45) = true := by simpa using UInt8.toNat_inj.1 (by rw [h45]; rfl)
    have hu : Cy (b :: r) = r := by unfold Cy; simp [h45]
    rw [hu] at h1 ⊢
    simp only [Lib.atoi, hb, if_true, h1, h45]
    simp
   ·have hb : (b == 45) = false := by
     simp only [beq_eq_false_iff_ne]; intro e; exact h45 (by rw [e]; rfl)
    have hu : Cy (b :: r) = b :: r := by unfold Cy; simp [h45]
    rw [hu] at h1 h ⊢
    have hd : D8 b = true := by have := h.1.2; simp only [List.all_cons, Bool.and_eq_true] at this; exact this.1
    have h43 : (b == 43) = false := by
     simp only [beq_eq_false_iff_ne]; intro e; rw [e] at hd; exact absurd hd (by decide)
    simp only [Lib.atoi, hb, h43, Bool.false_eq_true, if_false, h1, h45]
    simp
theorem Uf (s : Ap) (hs : By s = true) (I : Heap) (L : Bh) : Fun Tryz.prog 128 [.string (str s)] I L (D0 (.int .i64 (Bx s)) I L) := by
 have hat : Fun Tryz.prog 159 [.string (str s)] I L (D0 (.tuple #[.int .i64 (Bx s), .nilIface]) I L) := by
  refine ⟨fun w hm => (Any.strconv_Atoi Abx (str s) (Bx s) ?_ ?_ w).mono ?_⟩
  ·have := Hf hs
   show s.toArray.size ≤ 18
   simp; omega
  ·show Lib.atoi (s.toArray.toList) = _
   exact Zc hs
  ·rintro e w' ⟨rfl, t, rfl⟩
   exact ⟨_, I, L, rfl, .refl _, Mem.frozenAt (hm.alloc _), rfl, rfl, rfl⟩
 refine Ag (by simp) ?_; refine Se rfl (Oa rfl (Aa (Se rfl (Om rfl ?_)))); refine B9 rfl .free rfl hat ?_; rintro _ _ _ _ ⟨rfl, rfl, rfl⟩; refine Om rfl (Oe rfl rfl (Oe rfl rfl (Oa rfl (Oa rfl (Aa (Se rfl (Om rfl (Oa rfl (Aa (Ad (.tmp rfl .nil) ?_)))))))))); refine only rfl ?_
 simp [C2, *]
set_option maxRecDepth 100000
set_option linter.unusedVariables false
set_option linter.unusedSimpArgs false

def DT (b : Nat) (oa : Option Addr) (l : List UInt8) (c p K B : Nat) (L : Bh) : Cs := fun v I' L' => ∃ s p', v = .string (str s) ∧ List.length s ≤ B ∧ p ≤ p' ∧ p' ≤ p + K ∧ L' = rd b oa l c p' :: L
def kT : Nat → Nat
 | 0 => 0
 | d + 1 => 2 + 2 * kT d
def bT : Nat → Nat
 | 0 => 1
 | d + 1 => 5 + 2 * bT d
theorem Aci : ∀ d, 1 ≤ bT d
 | 0 => Nat.le_refl _
 | d + 1 => by simp only [bT]; omega
theorem Id : ∀ (d : Nat) {I : Heap} {oa : Option Addr} {l : List UInt8} {c : Nat} (_ : Bytes I oa l c) (_ : l.length ≤ 2000) (b p : Nat) (_ : p + kT d ≤ 1099511627776) (_ : bT d ≤ 1000000) (_ : d ≤ 1000) (L : Bh),
  Fun Tryz.prog 95 [.pointer (some ⟨b, 0, none⟩), .int .i64 (d : Nat)] I (rd b oa l c p :: L) (DT b oa l c p (kT d) (bT d) L) := by
 intro d
 induction d with
 | zero =>
  intro I oa l c h hl b p hp hb hd L; refine Ag (by simp) ?_; refine Se rfl (Oa rfl (Aa (Ab (Se rfl (Om rfl (Oc rfl rfl rfl (Om rfl ?_)))))))
  first | refine Acr rfl rfl (by simp) ?_ | refine Acq rfl rfl (by simp) ?_
  iterate 3 refine Cd rfl rfl rfl ?_
  refine Ot rfl rfl (Aa ?_); refine Bj rfl ?_; refine Se rfl (Oa rfl (Aa (Ad (.tmp rfl .nil) ?_)))
  exact ⟨I, _, .refl _, fun _ h => h, [105], p, rfl, by decide, Nat.le_refl _, by omega, rfl⟩
 | succ d ihd =>
  intro I oa l c h hl b p hp hb hd L
  simp only [kT, bT] at hp hb ⊢
  have hbp := Aci d
  refine Ag (by simp) ?_; refine Se rfl (Oa rfl (Aa (Ab (Se rfl (Om rfl (Oc rfl rfl rfl (Om rfl ?_)))))))
  first | refine Zw rfl rfl (by omega) ?_ | refine Zv rfl rfl (by omega) ?_
  refine Ow rfl ?_; refine B9 rfl (.met rfl rfl) rfl (Dg h hl b p 2 (by omega) (by decide) L) ?_; rintro _ _ _ _ ⟨r, rfl, rfl, rfl, hr⟩; refine Dh rfl rfl rfl (.met rfl rfl) rfl ?_; refine Of rfl rfl (Aa ?_); refine Si rfl ?_ ?_
  ·intro c0; refine Se rfl (Oa rfl (Aa (Ad (.tmp rfl .nil) ?_)))
   exact ⟨I, _, .refl _, fun _ h => h, [105], p + 1, rfl, by simp; omega, by omega, by omega, rfl⟩
  intro c0; refine Ae (Se rfl (Om rfl ?_)); refine Ol rfl rfl ?_; intro b13; refine D3 [[62], [42]] (by decide) (by decide) ?_; intro J e1 k1; refine Ca rfl (Ei (h.mono e1) hl b (p + 1) (by omega) k1 (by simp) L) ?_; rintro _ _ _ _ ⟨s, rfl, hs, rfl, rfl⟩
  have hsl : s.length = 1 := by revert s; decide
  refine Ok rfl rfl ?_; refine Ok rfl rfl ?_; refine Om rfl (Om rfl ?_); refine Or rfl rfl rfl ?_; refine Cz (t := 19) (v' := .int .i64 (d : Nat)) rfl (by congr 1; omega) ?_; refine Ca rfl (ihd (h.mono e1) hl b (p + 1 + 1) (by omega) (by omega) (by omega) L) ?_; rintro _ J2 _ e2 ⟨s1, p1, rfl, hs1, hp1, hp2, rfl⟩; refine Ok rfl rfl ?_; refine Ok rfl rfl ?_; refine Om rfl (Om rfl ?_); refine Or rfl rfl rfl ?_; refine Cz (t := 25) (v' := .int .i64 (d : Nat)) rfl (by congr 1; omega) ?_; refine Ca rfl (ihd ((h.mono e1).mono e2) hl b p1 (by omega) (by omega) (by omega) L) ?_
  rintro _ J3 _ e3 ⟨s2, p2, rfl, hs2, hp3, hp4, rfl⟩; refine Ok rfl rfl ?_; refine Ok rfl rfl ?_; refine Oa rfl (Aa (Ad (.tmp rfl .nil) ?_))
  exact ⟨J3, _, (e1.trans e2).trans e3, fun _ h => h, _, p2, rfl, by simp; omega, by omega, by omega, rfl⟩
set_option linter.unusedVariables false
set_option linter.unusedSimpArgs false

section rules
variable {P : Program} {f : FuncId} {n : Nat} {I₀ : Heap} {Q : Cs} {k : List Item} {E : Gm} {I : Heap} {L : Bh}
variable {ops : Array Oper} {d : Nat} {ty : TypeId} {pos : String} {af : Array Edge} {g : Option (Nat × Bool)} {l : List Oper}
theorem Ab3 {m : Int} (h : 0 ≤ m ∧ m < 256) : IntKind.u8.wrap m = m := by
 simp [IntKind.wrap, IntKind.bits, IntKind.signed]; omega
theorem R3 {S : World → Prop} {src dst sz bb sz2 bb2 : Nat} {z z2 : List Value} [hs : Aq P src (.int .i64) sz bb z] [hd : Aq P dst (.int .u8) sz2 bb2 z2] {x : Operand} {a : Nat} (hx : A7 E x = some (.int .i64 (a : Nat))) (ha : a < 256) :
  Gn P E S ⟨some d, .convert src dst x, ty, pos, af, g⟩ (.int .u8 (a : Nat)) := fun ac w he _ => by
 simp only [execOp, he.eval hx]
 refine Ac (a := .int .u8 (a : Nat)) (w' := w) ?_ |>.trans rfl
 unfold convert
 rw [Ac (A8 hs.und w), Ac (A8 hd.und w)]
 simp only [Conv.intToInt]
 rw [Ab3 (by omega)]
 rfl
theorem Yr {src dst sz bb sz2 bb2 : Nat} {z z2 : List Value} [hs : Aq P src (.int .i64) sz bb z] [hd : Aq P dst (.int .u8) sz2 bb2 z2] {x : Operand} {a : Nat} (hx : A7 E x = some (.int .i64 (a : Nat))) (ha : a < 256) (hg : Wants ops E g) (hdn : Nat.blt d n = true)
  (h : A4 P f n I₀ Q ops l k ((d, .int .u8 (a : Nat)) :: E) I L) : A4 P f n I₀ Q ops (⟨some d, .convert src dst x, ty, pos, af, g⟩ :: l) k E I L := Dr (R3 hx ha) hg hdn h
theorem Lo {src dst e sz bb sz2 bb2 sz3 bb3 : Nat} {z z2 z3 : List Value} [hs : Aq P src (.slice e) sz bb z] [he : Aq P e (.int .u8) sz3 bb3 z3] [hd : Aq P dst .string sz2 bb2 z2] {x : Operand} {ad : Addr} {c a : Nat} (hx : A7 E x = some (.slice (some ad) 1 c)) (hr : Fv I L ad [.int .u8 (a : Nat)]) :
  Gn P E (Mem I L) ⟨some d, .convert src dst x, ty, pos, af, g⟩ (.string (str [UInt8.ofNat a])) := fun ac w he' hm => by
 simp only [execOp, he'.eval hx]
 refine Ac (a := .string (str [UInt8.ofNat a])) (w' := w) ?_ |>.trans rfl
 unfold convert
 rw [Ac (A8 hs.und w), Ac (A8 hd.und w)]
 simp only []
 rw [Ac (A8 he.und w)]
 simp only [Conv.bytesToString]
 have hl : (loadCells ad 1).run P w = .ok [Value.int .u8 (a : Nat)].toArray w := Jh [.int .u8 (a : Nat)] (hr w hm)
 rw [Ac hl]
 rfl
end rules
set_option maxRecDepth 100000
set_option linter.unusedVariables false
set_option linter.unusedSimpArgs false

theorem Sk {n : Nat} (h : n ≤ 1000000000) : (Iy n).length ≤ 12 := by
 have key : ∀ (k m : Nat), m < 10 ^ (k + 1) → (Iy m).length ≤ k + 1 := by
  intro k
  induction k with
  | zero => intro m hm; rw [Gr (by omega)]; simp
  | succ k ih =>
   intro m hm
   by_cases h1 : m < 10
   ·rw [Gr h1]; simp
   ·rw [Il h1, List.length_append]
    have := ih (m / 10) (by rw [Nat.pow_succ] at hm; omega)
    simp only [List.length_cons, List.length_nil]; omega
 exact Nat.le_trans (key 10 n (by omega)) (by decide)
theorem Sx : ∀ (k n : Nat) (_ : n < k) (_ : n ≤ 1000000000) (I : Heap) (L : Bh), Fun Tryz.prog 100 [.int .i64 (n : Nat)] I L (D0 (.string (str (Iy n))) I L) := by
 intro k
 induction k with
 | zero => intro n h; omega
 | succ k ihk =>
  intro n hlt hn I L; refine Ag (by simp) ?_; refine Se rfl (Oa rfl (Aa (Ab (Se rfl (Om rfl (Oc rfl rfl rfl (Aa ?_)))))))
  first | refine Sf rfl (by omega) ?_ | refine Al (by simp [look, A7, *]) ?_
  refine Ae (Ab (Se rfl (Om rfl (Oc rfl rfl rfl (Aa ?_)))))
  first | refine Sf rfl (by omega) ?_ | refine Al (by simp [look, A7, *]) ?_
  refine Ae (Ab (Se rfl (Om rfl (Oc rfl rfl rfl (Aa ?_))))); refine As rfl ?_ ?_
  ·intro c2
   try simp only [nb] at c2
   refine Ab ?_
   have h10 : n < 10 := by omega
   refine Af rfl (Om rfl ?_); refine Or rfl rfl rfl ?_; refine Cz (t := 14) (v' := .int .i64 ((48 + n : Nat))) rfl (by congr 1) ?_; refine Yr rfl (by omega) .free rfl ?_; refine Ol rfl rfl ?_; intro b16; refine Dr (Lo rfl (Ce (by repeat first | exact .head _ | apply List.Mem.tail | apply List.mem_append_right) (by rfl))) .free rfl ?_; refine Oa rfl (Aa (Ad (.tmp rfl .nil) ?_)); refine only rfl ?_; rw [Gr h10]; rfl
  intro c2
  try simp only [nb] at c2
  refine Ae (Ab ?_)
  have h10 : ¬ n < 10 := by omega
  obtain ⟨q, hq, hq2⟩ : ∃ q, q = n / 10 ∧ q < n := ⟨_, rfl, by omega⟩; obtain ⟨r, hr, hr2⟩ : ∃ r, r = n % 10 ∧ r < 10 := ⟨_, rfl, Nat.mod_lt _ (by omega)⟩
  have hdl := Sk (n := q) (by omega)
  refine Dp 11 rfl rfl ?_; refine Da 0 rfl (Ah rfl) ?_; refine Da 1 rfl (Aba (b := 10) rfl rfl (by omega) (by omega)) ?_; refine Ha (t := 19) (v' := .int .i64 (q : Nat)) rfl (by rw [hq]) ?_; refine Da 3 rfl (Ah rfl) ?_; refine Da 4 rfl (Xl (b := 10) rfl rfl (by omega)) ?_; refine Ha (t := 22) (v' := .int .i64 (r : Nat)) rfl (by rw [hr]) ?_; refine Da 5 rfl (Gf rfl rfl rfl (by omega)) ?_; refine Ha (t := 23) (v' := .int .i64 ((48 + r : Nat))) rfl (by congr 1) ?_; refine Da 6 rfl (R3 rfl (by omega)) ?_; refine C6 2 7 (by kernel_rfl) ?_ ?_
  ·skip
   refine Kd 2 rfl rfl rfl .free rfl (ihk q (by omega) (by omega) _ _) ?_; rintro _ _ _ _ ⟨rfl, rfl, rfl⟩; refine Hx ?_; refine Fg 7 rfl (by kernel_rfl) rfl rfl rfl (by rfl) (by rfl) (by rfl) (by decide) (by decide) (by rfl) .free rfl (.inr Ao) ?_; intro b25; refine E3 8 rfl (by kernel_rfl) rfl (Lo rfl (Ce (by repeat first | exact .head _ | apply List.Mem.tail | apply List.mem_append_right) (by rfl))) .free rfl (.inr Ao) ?_; refine Da 9 rfl (Yk rfl rfl) ?_; refine Da 10 rfl (A2 rfl) ?_; refine At (by kernel_rfl) ?_; refine Ad (.tmp rfl .nil) ?_; refine only rfl ?_; rw [Il h10, ← hq, ← hr]; rfl
  ·skip
   refine L9 7 rfl rfl rfl rfl (by rfl) (by rfl) (by rfl) (by decide) (by decide) (by rfl) .free rfl (.inr Ao) ?_; intro b25; refine C6 2 8 (by kernel_rfl) ?_ ?_
   ·skip
    refine Kd 2 rfl rfl rfl .free rfl (ihk q (by omega) (by omega) _ _) ?_; rintro _ _ _ _ ⟨rfl, rfl, rfl⟩; refine Hx ?_; refine E3 8 rfl (by kernel_rfl) rfl (Lo rfl (Ce (by repeat first | exact .head _ | apply List.Mem.tail | apply List.mem_append_right) (by rfl))) .free rfl (.inr Ao) ?_; refine Da 9 rfl (Yk rfl rfl) ?_; refine Da 10 rfl (A2 rfl) ?_; refine At (by kernel_rfl) ?_; refine Ad (.tmp rfl .nil) ?_; refine only rfl ?_; rw [Il h10, ← hq, ← hr]; rfl
   ·skip
    refine Do 8 rfl rfl (Lo rfl (Ce (by repeat first | exact .head _ | apply List.Mem.tail | apply List.mem_append_right) (by rfl))) .free rfl (.inr Ao) ?_; refine Dc 2 rfl rfl (ihk q (by omega) (by omega) _ _) ?_; rintro _ _ _ _ ⟨rfl, rfl, rfl⟩; refine Hx ?_; refine Da 9 rfl (Yk rfl rfl) ?_; refine Da 10 rfl (A2 rfl) ?_; refine At (by kernel_rfl) ?_; refine Ad (.tmp rfl .nil) ?_; refine only rfl ?_; rw [Il h10, ← hq, ← hr]; rfl
set_option maxRecDepth 100000
set_option linter.unusedVariables false
set_option linter.unusedSimpArgs false

section
variable {P : Program} {f : FuncId} {n : Nat} {I₀ : Heap} {Q : Cs} {k : List Item} {E : Gm} {I : Heap} {L : Bh} {ops : Array Oper} {d : Nat} {ty : TypeId} {pos : String} {af : Array Edge} {g : Option (Nat × Bool)} {l : List Oper}
theorem S7 {T T' : TypeId} {x y : Operand} {a : Int} {b : Nat} (hx : A7 E x = some (.int .i64 a)) (hy : A7 E y = some (.int .i64 (b : Nat))) (hb : 0 < b) (hg : Wants ops E g) (hdn : Nat.blt d n = true)
  (h : A4 P f n I₀ Q ops l k ((d, .int .i64 (a.tmod (b : Nat))) :: E) I L) : A4 P f n I₀ Q ops (⟨some d, .binOp .rem T x y T', ty, pos, af, g⟩ :: l) k E I L := Dr (fun ac w he _ => by
 simp only [execOp, he.eval hx, he.eval hy]
 refine Ac (a := _) (w' := w) ?_ |>.trans rfl
 rw [Ac (Ey w)]
 have h0 : ¬ ((b : Int) = 0) := by omega
 simp only [binOp, Op.intDiv, if_neg h0, ne_eq, not_true_eq_false, if_false]; rfl) hg hdn h
end
theorem Pf (a : Int) : -1000 < a.tmod 1000 ∧ a.tmod 1000 < 1000 := by
 have h1 := Int.lt_tmod_of_pos a (b := 1000) (by decide)
 have h2 := Int.tmod_lt_of_pos a (b := 1000) (by decide)
 omega
theorem Su (n : Int) (h0 : -2000000 ≤ n) (h1 : n ≤ 2000000) (I : Heap) (L : Bh) : Fun Tryz.prog 130 [.int .i64 n] I L (D0 (.int .i64 (Ji n)) I L) := by
 have hb := Pf (n + 500)
 have hb2 := Pf ((n + 500).tmod 1000 + 1000)
 refine Ag (by simp) ?_; refine Se rfl (Oa rfl (Aa (Se rfl (Om rfl ?_)))); refine Or rfl rfl rfl ?_; refine S7 (b := 1000) rfl rfl (by decide) .free rfl ?_; refine I5 (a := (n + 500).tmod 1000) rfl rfl rfl (by omega) .free rfl ?_; refine S7 (a := (n + 500).tmod 1000 + 1000) (b := 1000) rfl rfl (by decide) .free rfl ?_; refine I5 (a := ((n + 500).tmod 1000 + 1000).tmod 1000) rfl rfl rfl (by omega) .free rfl ?_; refine Oa rfl (Aa (Ad (.tmp rfl .nil) ?_)); refine only rfl ?_
 exact congrArg (Value.int .i64) (Ru n)
theorem Nj (n : Int) (h0 : -2000000 ≤ n) (h1 : n ≤ 2000000) (I : Heap) (L : Bh) : Fun Tryz.prog 152 [.int .i64 n] I L (D0 (.int .i64 (Ji n)) I L) := by
 have hb := Pf (n + 500)
 have hb2 := Pf ((n + 500).tmod 1000 + 1000)
 refine Ag (by simp) ?_; refine Se rfl (Oa rfl (Aa (Se rfl (Om rfl ?_)))); refine Or rfl rfl rfl ?_; refine S7 (b := 1000) rfl rfl (by decide) .free rfl ?_; refine I5 (a := (n + 500).tmod 1000) rfl rfl rfl (by omega) .free rfl ?_; refine S7 (a := (n + 500).tmod 1000 + 1000) (b := 1000) rfl rfl (by decide) .free rfl ?_; refine I5 (a := ((n + 500).tmod 1000 + 1000).tmod 1000) rfl rfl rfl (by omega) .free rfl ?_; refine Oa rfl (Aa (Ad (.tmp rfl .nil) ?_)); refine only rfl ?_
 exact congrArg (Value.int .i64) (Ru n)
theorem Aal {x y : Int} (hx : -999 ≤ x ∧ x ≤ 999) (hy : -999 ≤ y ∧ y ≤ 999) : -998001 ≤ x * y ∧ x * y ≤ 998001 := by
 have h1 : (x * y).natAbs ≤ 999 * 999 := by rw [Int.natAbs_mul]; exact Nat.mul_le_mul (by omega) (by omega)
 omega
theorem Ii {o : B5} (h : o.txt = [43]) (x y : Int) : o.calc x y = x + y := by
 obtain rfl : o = .add := B5.txt_inj (o' := .add) h
 rfl
theorem Ik {o : B5} (h : o.txt = [45]) (x y : Int) : o.calc x y = x - y := by
 obtain rfl : o = .sub := B5.txt_inj (o' := .sub) h
 rfl
theorem Ij {o : B5} (h1 : ¬ o.txt = [43]) (h2 : ¬ o.txt = [45]) (x y : Int) : o.calc x y = x * y := by
 cases o with
 | add => exact absurd rfl h1
 | sub => exact absurd rfl h2
 | _ => rfl
theorem Mn {I : Heap} (ht : Tab I) (o : B5) {a b : Ap} (ha : By a = true) (hb : By b = true) (L : Bh) : Fun Tryz.prog 87 [.string (str o.txt), .string (str a), .string (str b)] I L (D0 (.string (str (Js o a b))) I L) := by
 have xa := Ig ha
 have xb := Ig hb
 have hm := Aal xa xb
 refine Ag (by simp) ?_; refine Se rfl (Oa rfl (Aa (Se rfl (Om rfl ?_)))); refine Ca rfl (Uf a ha _ _) ?_; rintro _ _ _ _ ⟨rfl, rfl, rfl⟩; refine Om rfl ?_; refine Ca rfl (Uf b hb _ _) ?_; rintro _ _ _ _ ⟨rfl, rfl, rfl⟩; refine Oa rfl (Oa rfl (Aa (Ab (Se rfl (Om rfl (Aa (Aj (Se rfl (Od rfl rfl rfl (Oa rfl (Aa ?_))))))))))); refine As rfl ?_ ?_
 ·intro c0
  try simp only [nb] at c0
  refine Af rfl (Om rfl (Om rfl ?_)); refine Or rfl rfl rfl ?_; refine Oa rfl (Aa (Ak (Se rfl (Om rfl ?_)))); refine Ca rfl (Su _ (by omega) (by omega) _ _) ?_; rintro _ _ _ _ ⟨rfl, rfl, rfl⟩; refine Ca rfl (Hy ht _ (by have := Dq (Bx a + Bx b); have := Dq (Bx a - Bx b); have := Dq (Bx a * Bx b); omega) (by have := Dq (Bx a + Bx b); have := Dq (Bx a - Bx b); have := Dq (Bx a * Bx b); omega) _) ?_; rintro _ _ _ _ ⟨rfl, rfl, rfl⟩; refine Oa rfl (Aa (Ad (.tmp rfl .nil) ?_)); refine only rfl ?_
  unfold Js
  first
   | (rw [Ii c0]; done)
   | (rw [Ik c1]; done)
   | (rw [Ij c0 c1]; done)
   | (rw [Ii c0]; rfl)
   | (rw [Ik c1]; rfl)
   | (rw [Ij c0 c1]; rfl)
 intro c0
 try simp only [nb] at c0
 refine Se rfl (Od rfl rfl rfl (Oa rfl (Aa ?_))); refine As rfl ?_ ?_
 ·intro c1
  try simp only [nb] at c1
  refine Af rfl (Om rfl (Om rfl ?_)); refine Or rfl rfl rfl ?_; refine Oa rfl (Aa (Ak (Se rfl (Om rfl ?_)))); refine Ca rfl (Su _ (by omega) (by omega) _ _) ?_; rintro _ _ _ _ ⟨rfl, rfl, rfl⟩; refine Ca rfl (Hy ht _ (by have := Dq (Bx a + Bx b); have := Dq (Bx a - Bx b); have := Dq (Bx a * Bx b); omega) (by have := Dq (Bx a + Bx b); have := Dq (Bx a - Bx b); have := Dq (Bx a * Bx b); omega) _) ?_; rintro _ _ _ _ ⟨rfl, rfl, rfl⟩; refine Oa rfl (Aa (Ad (.tmp rfl .nil) ?_)); refine only rfl ?_
  unfold Js
  first
   | (rw [Ii c0]; done)
   | (rw [Ik c1]; done)
   | (rw [Ij c0 c1]; done)
   | (rw [Ii c0]; rfl)
   | (rw [Ik c1]; rfl)
   | (rw [Ij c0 c1]; rfl)
 intro c1
 try simp only [nb] at c1
 refine Af rfl (Om rfl (Om rfl ?_)); refine Or rfl rfl rfl ?_; refine Oa rfl (Aa (Ak (Se rfl (Om rfl ?_)))); refine Ca rfl (Su _ (by omega) (by omega) _ _) ?_; rintro _ _ _ _ ⟨rfl, rfl, rfl⟩; refine Ca rfl (Hy ht _ (by have := Dq (Bx a + Bx b); have := Dq (Bx a - Bx b); have := Dq (Bx a * Bx b); omega) (by have := Dq (Bx a + Bx b); have := Dq (Bx a - Bx b); have := Dq (Bx a * Bx b); omega) _) ?_; rintro _ _ _ _ ⟨rfl, rfl, rfl⟩; refine Oa rfl (Aa (Ad (.tmp rfl .nil) ?_)); refine only rfl ?_
 unfold Js
 first
  | (rw [Ii c0]; done)
  | (rw [Ik c1]; done)
  | (rw [Ij c0 c1]; done)
  | (rw [Ii c0]; rfl)
  | (rw [Ik c1]; rfl)
  | (rw [Ij c0 c1]; rfl)
theorem Yc (o : B5) (x y : Int) (hx : -999 ≤ x ∧ x ≤ 999) (hy : -999 ≤ y ∧ y ≤ 999) (I : Heap) (L : Bh) : Fun Tryz.prog 117 [.string (str o.txt), .int .i64 x, .int .i64 y] I L (D0 (.int .i64 (Ji (o.calc x y))) I L) := by
 have hm := Aal hx hy
 refine Ag (by simp) ?_; refine Se rfl (Oa rfl (Aa (Ab (Se rfl (Om rfl (Aa (Aj (Se rfl (Od rfl rfl rfl (Oa rfl (Aa ?_))))))))))); refine As rfl ?_ ?_
 ·intro c0
  try simp only [nb] at c0
  refine Se rfl (Om rfl (Om rfl ?_)); refine Or rfl rfl rfl ?_; refine Ca rfl (Nj _ (by omega) (by omega) _ _) ?_; rintro _ _ _ _ ⟨rfl, rfl, rfl⟩; refine Oa rfl (Aa (Ad (.tmp rfl .nil) ?_)); refine only rfl ?_; rw [Ii c0]; rfl
 intro c0
 try simp only [nb] at c0
 refine Se rfl (Od rfl rfl rfl (Oa rfl (Aa ?_))); refine As rfl ?_ ?_
 ·intro c1
  try simp only [nb] at c1
  refine Se rfl (Om rfl (Om rfl ?_)); refine Or rfl rfl rfl ?_; refine Ca rfl (Nj _ (by omega) (by omega) _ _) ?_; rintro _ _ _ _ ⟨rfl, rfl, rfl⟩; refine Oa rfl (Aa (Ad (.tmp rfl .nil) ?_)); refine only rfl ?_; rw [Ik c1]; rfl
 intro c1
 try simp only [nb] at c1
 refine Ae (Ak (Se rfl (Om rfl (Om rfl ?_)))); refine Or rfl rfl rfl ?_; refine Ca rfl (Nj _ (by omega) (by omega) _ _) ?_; rintro _ _ _ _ ⟨rfl, rfl, rfl⟩; refine Oa rfl (Aa (Ad (.tmp rfl .nil) ?_)); refine only rfl ?_; rw [Ij c0 c1]; rfl
def Tr (t : Tree) : List Nat := if t.head = F5 then [1] else if t.head = Dk then [2] else if t.head = Dj then [] else C9 t
theorem Dd {I : Heap} {t : Tree} {cs : List Value} (h : Rep I t cs) (L : Bh) : Fun Tryz.prog 84 [.agg cs.toArray] I L (KD (Tr t) L) := by
 obtain ⟨oa, c, vs, rfl, hrl, hs, hn, hc, ha, hp⟩ := h.open; refine Ag (by simp) ?_; refine Se rfl ?_; refine B7 rfl rfl .free rfl ?_; intro b1; refine Oa rfl (Aa (Ab (Se rfl ?_))); refine A3 rfl .free rfl ?_; refine Ca rfl (Bk h _) ?_; rintro _ _ _ _ ⟨rfl, rfl, rfl⟩; refine Aa (Aj (Se rfl (Od rfl rfl rfl (Oa rfl (Aa ?_))))); refine As rfl ?_ ?_
 ·intro c0
  try simp only [nb] at c0
  refine Se rfl ?_; refine Ol rfl rfl ?_; intro b7; refine Oa rfl (Aa ?_); refine Bi ?_; intro hz; refine Ad (.tmp rfl .nil) ?_; refine ⟨_, L, hz, fun _ h => h.drop, F1 (l := [1]) ?_⟩
  unfold Tr F5 Dk Dj; rw [if_pos c0]
 intro c0
 try simp only [nb] at c0
 refine Se rfl (Od rfl rfl rfl (Oa rfl (Aa ?_))); refine As rfl ?_ ?_
 ·intro c1
  try simp only [nb] at c1
  refine Se rfl ?_; refine Ol rfl rfl ?_; intro b10; refine Oa rfl (Aa ?_); refine Bi ?_; intro hz; refine Ad (.tmp rfl .nil) ?_; refine ⟨_, L, hz, fun _ h => h.drop, F1 (l := [2]) ?_⟩
  unfold Tr F5 Dk Dj; rw [if_neg c0, if_pos c1]
 intro c1
 try simp only [nb] at c1
 refine Se rfl (Od rfl rfl rfl (Oa rfl (Aa ?_))); refine As rfl ?_ ?_
 ·intro c2
  try simp only [nb] at c2
  refine Se rfl (Oa rfl (Aa (Ad (.tmp rfl .nil) ?_)))
  have hk : Tr t = [] := by unfold Tr F5 Dk Dj; rw [if_neg c0, if_neg c1, if_pos c2]
  exact ⟨I, L, .refl _, fun _ h => h.drop, none, 0, by rw [hk]; rfl, ⟨by simp, fun _ => hk, by rw [hk]; simp⟩, rfl⟩
 intro c2
 try simp only [nb] at c2
 refine Ae (Ak (Se rfl ?_)); refine A3 rfl .free rfl ?_; refine Ca rfl (Ej h _) ?_; rintro _ J _ e1 ⟨o1, k1, rfl, hk, rfl⟩; refine Oa rfl (Aa (Ad (.tmp rfl .nil) ?_))
 have hke : Tr t = C9 t := by unfold Tr F5 Dk Dj; rw [if_neg c0, if_neg c1, if_neg c2]
 exact ⟨J, L, e1, fun _ h => h.drop, o1, k1, by rw [hke]; rfl, by rw [hke]; exact hk, rfl⟩
def Zo (h : Ap) : List Nat := if h = F5 ∨ h = Fa ∨ h = Fb then [1] else if h = Dk then [2] else if h = Dj then [] else [1, 2]
theorem Lg (s : Ap) (I : Heap) (L : Bh) : Fun Tryz.prog 70 [.string (str s)] I L (KD (Zo s) L) := by
 refine Ag (by simp) ?_; refine Se rfl (Oa rfl (Aa (Ab (Se rfl (Om rfl (Aa (Aj (Ab (Se rfl (Od rfl rfl rfl (Oa rfl (Aa ?_)))))))))))); refine As rfl ?_ ?_
 ·intro c0
  try simp only [nb] at c0
  refine Ae ?_
  first | refine St rfl (by first | assumption | omega) ?_ | refine Bj (by simp [look, A7, *]) ?_
  refine Se rfl ?_; refine Ol rfl rfl ?_; intro b8; refine Oa rfl (Aa ?_); refine Bi ?_; intro hz; refine Ad (.tmp rfl .nil) ?_; refine ⟨_, L, hz, fun _ h => h, F1 (l := [1]) ?_⟩
  unfold Zo F5 Fa Fb
  simp [*]
 intro c0
 try simp only [nb] at c0
 refine Se rfl (Od rfl rfl rfl (Oa rfl (Aa ?_))); refine As rfl ?_ ?_
 ·intro c1
  try simp only [nb] at c1
  refine Ae ?_
  first | refine St rfl (by first | assumption | omega) ?_ | refine Bj (by simp [look, A7, *]) ?_
  refine Se rfl ?_; refine Ol rfl rfl ?_; intro b8; refine Oa rfl (Aa ?_); refine Bi ?_; intro hz; refine Ad (.tmp rfl .nil) ?_; refine ⟨_, L, hz, fun _ h => h, F1 (l := [1]) ?_⟩
  unfold Zo F5 Fa Fb
  simp [*]
 intro c1
 try simp only [nb] at c1
 refine Af rfl (Od rfl rfl rfl (Oa rfl (Aa ?_))); refine As rfl ?_ ?_
 ·intro c2
  try simp only [nb] at c2
  refine Se rfl ?_; refine Ol rfl rfl ?_; intro b8; refine Oa rfl (Aa ?_); refine Bi ?_; intro hz; refine Ad (.tmp rfl .nil) ?_; refine ⟨_, L, hz, fun _ h => h, F1 (l := [1]) ?_⟩
  unfold Zo F5 Fa Fb
  simp [*]
 intro c2
 try simp only [nb] at c2
 refine Se rfl (Od rfl rfl rfl (Oa rfl (Aa ?_))); refine As rfl ?_ ?_
 ·intro c3
  try simp only [nb] at c3
  refine Se rfl ?_; refine Ol rfl rfl ?_; intro b11; refine Oa rfl (Aa ?_); refine Bi ?_; intro hz; refine Ad (.tmp rfl .nil) ?_; refine ⟨_, L, hz, fun _ h => h, F1 (l := [2]) ?_⟩
  unfold Zo F5 Fa Fb Dk
  simp [*]
 intro c3
 try simp only [nb] at c3
 refine Se rfl (Od rfl rfl rfl (Oa rfl (Aa ?_))); refine As rfl ?_ ?_
 ·intro c4
  try simp only [nb] at c4
  refine Se rfl ?_; refine D7 .free rfl ?_; intro b14; refine Oa rfl (Aa ?_); refine Bi ?_; intro hz; refine Ad (.tmp rfl .nil) ?_; refine ⟨_, L, hz, fun _ h => h, F1 (l := []) ?_⟩
  unfold Zo F5 Fa Fb Dk Dj
  simp [*]
 intro c4
 try simp only [nb] at c4
 refine Ae (Ak (Se rfl ?_)); refine Ol rfl rfl ?_; intro b15; refine Oa rfl (Aa ?_); refine Bi ?_; intro hz; refine Ad (.tmp rfl .nil) ?_; refine ⟨_, L, hz, fun _ h => h, F1 (l := [1, 2]) ?_⟩
 unfold Zo F5 Fa Fb Dk Dj
 simp [*]
theorem Z4 {I : Heap} (n : Int) {t u : Tree} {cs ds : List Value} (h : Rep I t cs) (h' : Rep I u ds) (L : Bh) : Fun Tryz.prog 118 [.int .i64 n, .agg cs.toArray, .agg ds.toArray] I L (RP (if n = 0 then t else u) L) := by
 obtain ⟨oa, c, _, rfl, -⟩ := h.open; obtain ⟨ob, c', _, rfl, -⟩ := h'.open; refine Ag (by simp) ?_; refine Se rfl ?_; refine B7 rfl rfl .free rfl ?_; intro b4; refine B7 rfl rfl .free rfl ?_; intro b5; refine Aw .free rfl ?_; intro b6; refine Aa (Ab (Se rfl (Om rfl (Oc rfl rfl rfl (Aa ?_))))); refine As rfl ?_ ?_
 ·intro c0
  try simp only [nb] at c0
  refine Se rfl ?_; refine A3 rfl .free rfl ?_; refine Bn rfl rfl rfl rfl .free ?_; refine Aa ?_; refine Ad (.c rfl .nil) ?_
  exact ⟨I, L, .refl _, Bf, _, rfl, by rw [if_pos c0]; exact h, rfl⟩
 intro c0
 try simp only [nb] at c0
 refine Ae (Se rfl ?_); refine A3 rfl .free rfl ?_; refine Bn rfl rfl rfl rfl .free ?_; refine Aa ?_; refine Ad (.c rfl .nil) ?_
 exact ⟨I, L, .refl _, Bf, _, rfl, by rw [if_neg c0]; exact h', rfl⟩
theorem Un (n : Int) (h0 : -1000000 ≤ n) (h1 : n ≤ 1000000) (I : Heap) (L : Bh) : Fun Tryz.prog 100 [.int .i64 n] I L (D0 (.string (str (Mp n))) I L) := by
 by_cases hn : n < 0
 ·have hd := Sk (n := n.natAbs) (by omega)
  refine Ag (by simp) ?_; refine Se rfl (Oa rfl (Aa (Ab (Se rfl (Om rfl (Oc rfl rfl rfl (Aa ?_)))))))
  first | refine Sf rfl (by omega) ?_ | refine Al (by simp [look, A7, *]) ?_
  refine Ae (Ab (Se rfl (Om rfl (Oc rfl rfl rfl (Aa ?_)))))
  first | refine K8 rfl (hn) ?_ | refine K7 rfl (hn) ?_ | refine Bj (by simp [look, A7, *]) ?_
  refine Se rfl (Om rfl ?_); refine Adh rfl (by omega) .free rfl ?_; refine Cz (t := 8) (v' := .int .i64 (n.natAbs : Nat)) rfl (by congr 1; omega) ?_; refine Ca rfl (Sx _ n.natAbs (Nat.lt_succ_self _) (by omega) _ _) ?_; rintro _ _ _ _ ⟨rfl, rfl, rfl⟩; refine Ok rfl rfl ?_; refine Oa rfl (Aa (Ad (.tmp rfl .nil) ?_)); refine only rfl ?_
  unfold Mp; rw [if_pos hn]; rfl
 ·obtain ⟨m, rfl⟩ : ∃ m : Nat, n = (m : Nat) := ⟨n.toNat, by omega⟩; rw [P6]
  exact Sx _ m (Nat.lt_succ_self _) (by omega) I L
end Go.Proofs.YtfddjcmeejjhiaaGreatDoor

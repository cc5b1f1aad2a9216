/- Making an expression normal keeps what it means. No conditions. -/
import Derived.Test.YtmfagaajiakgoaaGreatDoorG15
import Derived.LaidSub
import Derived.Lib.LaidTab

namespace Go.Proofs.YtmfagaajiakgoaaGreatDoor
set_option maxRecDepth 100000
set_option linter.unusedVariables false
set_option linter.unusedSimpArgs false

def Ex.bs : Ex → List As
 | .num _ => []
 | .name _ => []
 | .bin _ a b => a.bs ++ b.bs
 | .ite a b c => a.bs ++ (b.bs ++ c.bs)
 | .lt x a b => x :: (a.bs ++ b.bs)
 | .fn f x _ _ b => f :: x :: b.bs
 | .un _ a => a.bs
theorem Ags {a b : List As} (ha : a.Nodup) (hb : b.Nodup) (h : ∀ x ∈ a, x ∉ b) : (a ++ b).Nodup := List.nodup_append.2 ⟨ha, hb, fun x hx y hy e => h x hx (e ▸ hy)⟩
theorem R5 {a b : List As} (h : (a ++ b).Nodup) : a.Nodup ∧ b.Nodup ∧ ∀ x ∈ a, x ∉ b := by
 obtain ⟨h1, h2, h3⟩ := List.nodup_append.1 h
 exact ⟨h1, h2, fun x hx hy => h3 x hx x hy rfl⟩
def plIn (av : List As) (l : List As) (n m : Nat) : Prop := l.Nodup ∧ ∀ s ∈ l, ∃ k, n ≤ k ∧ k < m ∧ s = nm 120 k ∧ s ∉ av
theorem plIn.app {av l l' : List As} {n m r : Nat} (h : plIn av l n m) (h' : plIn av l' m r) (hn : n ≤ m) (hm : m ≤ r) : plIn av (l ++ l') n r := by
 refine ⟨Ags h.1 h'.1 fun x hx hy => ?_, fun s hs => ?_⟩
 ·obtain ⟨k, k1, k2, k3, -⟩ := h.2 x hx; obtain ⟨j, j1, j2, j3, -⟩ := h'.2 x hy
  have := Tc (k3.symm.trans j3)
  omega
 ·rcases List.mem_append.1 hs with hs | hs
  ·obtain ⟨k, k1, k2, k3, k4⟩ := h.2 s hs; exact ⟨k, k1, by omega, k3, k4⟩
  ·obtain ⟨k, k1, k2, k3, k4⟩ := h'.2 s hs; exact ⟨k, by omega, k2, k3, k4⟩
theorem plIn.one {av : List As} {n k : Nat} (hk : n ≤ k) (ha : nm 120 k ∉ av) : plIn av [nm 120 k] n (k + 1) :=
 ⟨by simp, fun s hs => by rw [List.mem_singleton.1 hs]; exact ⟨k, hk, by omega, rfl, ha⟩⟩
theorem Ex.pl_bs (av : List As) : ∀ (e : Ex) (f t : List As) (n : Nat), plIn av (e.pl av f t n).1.bs n (e.pl av f t n).2
 | .num s, f, t, n => ⟨by simp [Ex.pl, Ex.bs], fun s hs => by simp [Ex.pl, Ex.bs] at hs⟩
 | .name s, f, t, n => ⟨by simp [Ex.pl, Ex.bs], fun s hs => by simp [Ex.pl, Ex.bs] at hs⟩
 | .bin o a b, f, t, n => (a.pl_bs av f t n).app (b.pl_bs av f t _) (a.pl_hits av f t n).1 (b.pl_hits av f t _).1
 | .ite a b c, f, t, n => (a.pl_bs av f t n).app ((b.pl_bs av f t _).app (c.pl_bs av f t _) (b.pl_hits av f t _).1 (c.pl_hits av f t _).1) (a.pl_hits av f t n).1 (Nat.le_trans (b.pl_hits av f t _).1 (c.pl_hits av f t _).1)
 | .lt x a b, f, t, n => by
  have h0 := Dv 120 av n
  exact (plIn.one h0.2.1 h0.1).app ((a.pl_bs av f t _).app (b.pl_bs av _ _ _) (a.pl_hits av f t _).1 (b.pl_hits av _ _ _).1) (by omega) (Nat.le_trans (a.pl_hits av f t _).1 (b.pl_hits av _ _ _).1)
 | .fn g x s u b, f, t, n => by
  have h0 := Dv 120 av n
  have h1 := Dv 120 av (fr 120 av n + 1)
  exact (plIn.one h0.2.1 h0.1).app ((plIn.one h1.2.1 h1.1).app (b.pl_bs av _ _ _) (by omega) (b.pl_hits av _ _ _).1) (by omega) (Nat.le_trans (by omega) (b.pl_hits av _ _ _).1)
 | .un o a, f, t, n => a.pl_bs av f t n
theorem H7 : ∀ {e : Ex} {x : As}, x ∈ e.occ [] → x ∈ e.tree.atomL
 | .num s, x, h => by cases h
 | .name s, x, h => by rw [occ_name] at h; subst h; simp [Ex.tree, Tree.atomL]
 | .bin o a b, x, h => by
  simp only [Ex.tree, Tree.atomL, Do, List.mem_append, List.mem_singleton, List.not_mem_nil, or_false]
  rcases Dw.1 h with h | h
  ·exact .inr (.inl (H7 h))
  ·exact .inr (.inr (H7 h))
 | .ite a b c, x, h => by
  simp only [Ex.tree, Tree.atomL, Do, List.mem_append, List.mem_singleton, List.not_mem_nil, or_false]
  rcases Dy.1 h with h | h | h
  ·exact .inr (.inl (H7 h))
  ·exact .inr (.inr (.inl (H7 h)))
  ·exact .inr (.inr (.inr (H7 h)))
 | .lt y a b, x, h => by
  simp only [Ex.tree, Tree.atomL, Do, List.mem_append, List.mem_singleton, List.not_mem_nil, or_false]
  rcases Dj.1 h with h | h
  ·exact .inr (.inr (.inl (H7 h)))
  ·exact .inr (.inr (.inr (H7 h.1)))
 | .fn f y s t b, x, h => by
  simp only [Ex.tree, Tree.atomL, Do, List.mem_append, List.mem_singleton, List.not_mem_nil, or_false]
  exact .inr (.inr (.inr (.inr (.inr (H7 (Qx.1 h).1)))))
 | .un o a, x, h => by
  simp only [Ex.tree, Tree.atomL, Do, List.mem_append, List.mem_singleton, List.not_mem_nil, or_false]
  exact .inr (H7 (show x ∈ a.occ [] from h))
theorem Jn : ∀ {e : Ex} {x : As}, x ∈ e.bs → x ∈ e.tree.atomL
 | .num s, x, h => by cases h
 | .name s, x, h => by cases h
 | .bin o a b, x, h => by
  simp only [Ex.tree, Tree.atomL, Do, List.mem_append, List.mem_singleton, List.not_mem_nil, or_false]
  rcases List.mem_append.1 h with h | h
  ·exact .inr (.inl (Jn h))
  ·exact .inr (.inr (Jn h))
 | .ite a b c, x, h => by
  simp only [Ex.tree, Tree.atomL, Do, List.mem_append, List.mem_singleton, List.not_mem_nil, or_false]
  rcases List.mem_append.1 h with h | h
  ·exact .inr (.inl (Jn h))
  ·rcases List.mem_append.1 h with h | h
   ·exact .inr (.inr (.inl (Jn h)))
   ·exact .inr (.inr (.inr (Jn h)))
 | .lt y a b, x, h => by
  simp only [Ex.tree, Tree.atomL, Do, List.mem_append, List.mem_singleton, List.not_mem_nil, or_false]
  rcases List.mem_cons.1 h with h | h
  ·exact .inr (.inl h)
  ·rcases List.mem_append.1 h with h | h
   ·exact .inr (.inr (.inl (Jn h)))
   ·exact .inr (.inr (.inr (Jn h)))
 | .fn f y s t b, x, h => by
  simp only [Ex.tree, Tree.atomL, Do, List.mem_append, List.mem_singleton, List.not_mem_nil, or_false]
  rcases List.mem_cons.1 h with h | h
  ·exact .inr (.inl h)
  ·rcases List.mem_cons.1 h with h | h
   ·exact .inr (.inr (.inl h))
   ·exact .inr (.inr (.inr (.inr (.inr (Jn h)))))
 | .un o a, x, h => by
  simp only [Ex.tree, Tree.atomL, Do, List.mem_append, List.mem_singleton, List.not_mem_nil, or_false]
  exact .inr (Jn (show x ∈ a.bs from h))
structure Fit (tk : List As) (e : Ex) : Prop where
 nd : e.bs.Nodup
 sep : ∀ x ∈ e.bs, x ∉ e.occ []
 ob : ∀ x ∈ e.occ [], x ∈ tk
 bb : ∀ x ∈ e.bs, x ∈ tk
theorem Ab4 {e : Ex} (h : e.fine = true) : Fit e.tk e.plain := by
 have hb := Ex.pl_bs e.free e [] [] 0
 have hok : e.ok = true := by simp only [Ex.fine, Bool.and_eq_true] at h; exact h.1.1
 have hpo : e.plain.ok = true := by have := G5 h; simp only [Ex.fine, Bool.and_eq_true] at this; exact this.1.1
 have hf := (Ex.plain_as e).free hpo hok
 refine ⟨hb.1, fun x hx ho => ?_, fun x hx => Hh.2 (.inr (H7 hx)), fun x hx => Hh.2 (.inr (Jn hx))⟩; obtain ⟨k, -, -, -, h4⟩ := hb.2 x hx; rw [hf.2] at ho
 exact h4 (Ex.free_mem.2 ho)
def Mn (l : List (As × Ex)) : List As := l.map (·.1)
theorem Kt : ∀ (a b : List (As × Ex)) (e : Ex), Fu (a ++ b) e = Fu a (Fu b e)
 | [], b, e => rfl
 | p :: a, b, e => by simp only [List.cons_append, Fu, Kt a b e]
theorem Jr {e e' : Ex} (h : Eqv e e') : ∀ l : List (As × Ex), Eqv (Fu l e) (Fu l e')
 | [] => h
 | p :: l => .lt2 (Jr h l)
theorem Yd {e : Ex} {x : As} (h : x ∈ e.occ []) : ∀ l : List (As × Ex), x ∈ (Fu l e).occ [] ∨ x ∈ Mn l
 | [] => .inl h
 | p :: l => by
  rcases Yd h l with h1 | h1
  ·by_cases e : x = p.1
   ·exact .inr (by rw [e]; exact .head _)
   ·exact .inl (Dj.2 (.inr ⟨h1, e⟩))
  ·exact .inr (.tail _ h1)
theorem O1 {o : B5} {b : Ex} : ∀ (l : List (As × Ex)) (e : Ex), (∀ x ∈ Mn l, x ∉ b.occ []) → Eqv (.bin o (Fu l e) b) (Fu l (.bin o e b))
 | [], e, h => .refl _
 | p :: l, e, h => (Eqv.fl1 (h _ (.head _))).trans (.lt2 (O1 l e fun x hx => h x (.tail _ hx)))
theorem O2 {o : B5} {a : Ex} (hb : a.bare = true) : ∀ (l : List (As × Ex)) (e : Ex), (∀ x ∈ Mn l, x ∉ a.occ []) → Eqv (.bin o a (Fu l e)) (Fu l (.bin o a e))
 | [], e, h => .refl _
 | p :: l, e, h => (Eqv.fl2 hb (h _ (.head _))).trans (.lt2 (O2 hb l e fun x hx => h x (.tail _ hx)))
theorem Qe {c d : Ex} : ∀ (l : List (As × Ex)) (e : Ex), (∀ x ∈ Mn l, x ∉ c.occ [] ∧ x ∉ d.occ []) → Eqv (.ite (Fu l e) c d) (Fu l (.ite e c d))
 | [], e, h => .refl _
 | p :: l, e, h => (Eqv.fli (h _ (.head _)).1 (h _ (.head _)).2).trans (.lt2 (Qe l e fun x hx => h x (.tail _ hx)))
theorem Sy {o : U2} : ∀ (l : List (As × Ex)) (e : Ex), Eqv (.un o (Fu l e)) (Fu l (.un o e))
 | [], e => .refl _
 | p :: l, e => Eqv.flu.trans (.lt2 (Sy l e))
theorem Xx {y : As} {b : Ex} : ∀ (l : List (As × Ex)) (e : Ex), (∀ x ∈ Mn l, x ∉ b.occ []) → Eqv (.lt y (Fu l e) b) (Fu l (.lt y e b))
 | [], e, h => .refl _
 | p :: l, e, h => (Eqv.fll (h _ (.head _))).trans (.lt2 (Xx l e fun x hx => h x (.tail _ hx)))
theorem I8 (tk : List As) (p : MK) : (p.e.bare = true ∧ p.pt tk = p) ∨ (p.pt tk = ⟨.name (nm 121 (fr 121 tk p.n)), p.ns ++ [(nm 121 (fr 121 tk p.n), p.e)], fr 121 tk p.n + 1, p.g + 1⟩) := by
 unfold MK.pt
 by_cases h : p.e.bare = true
 ·exact .inl ⟨h, if_pos h⟩
 ·exact .inr (if_neg h)
theorem Afr (tk : List As) (p : MK) : (p.pt tk).e.bare = true := by
 rcases I8 tk p with ⟨h, e⟩ | e
 ·rw [e]; exact h
 ·rw [e]; rfl
theorem Pu (l : List (As × Ex)) (x : As) (e : Ex) : Mn (l ++ [(x, e)]) = Mn l ++ [x] := by simp [Mn]
theorem Afs {o : B5} {tk : List As} {a b : Ex} {p : MK} (h : Eqv a p.all) (hn : ∀ x ∈ Mn (p.pt tk).ns, x ∉ b.occ []) : Eqv (.bin o a b) (Fu (p.pt tk).ns (.bin o (p.pt tk).e b)) := by
 rcases I8 tk p with ⟨hb, e⟩ | e
 ·rw [e] at hn ⊢
  exact (Eqv.bin1 h).trans (O1 _ _ hn)
 ·rw [e] at hn ⊢
  simp only [Pu, List.mem_append, List.mem_singleton] at hn
  simp only [Kt]
  exact (Eqv.bin1 h).trans ((O1 _ _ fun x hx => hn x (.inl hx)).trans (Jr (.nm1 (hn _ (.inr rfl))) _))
theorem Aft {o : B5} {tk : List As} {a b : Ex} (ha : a.bare = true) {p : MK} (h : Eqv b p.all) (hn : ∀ x ∈ Mn (p.pt tk).ns, x ∉ a.occ []) : Eqv (.bin o a b) (Fu (p.pt tk).ns (.bin o a (p.pt tk).e)) := by
 rcases I8 tk p with ⟨hb, e⟩ | e
 ·rw [e] at hn ⊢
  exact (Eqv.bin2 h).trans (O2 ha _ _ hn)
 ·rw [e] at hn ⊢
  simp only [Pu, List.mem_append, List.mem_singleton] at hn
  simp only [Kt]
  exact (Eqv.bin2 h).trans ((O2 ha _ _ fun x hx => hn x (.inl hx)).trans (Jr (.nm2 ha (hn _ (.inr rfl))) _))
theorem Agw {tk : List As} {a b c : Ex} {p : MK} (h : Eqv a p.all) (hn : ∀ x ∈ Mn (p.pt tk).ns, x ∉ b.occ [] ∧ x ∉ c.occ []) : Eqv (.ite a b c) (Fu (p.pt tk).ns (.ite (p.pt tk).e b c)) := by
 rcases I8 tk p with ⟨hb, e⟩ | e
 ·rw [e] at hn ⊢
  exact (Eqv.ite1 h).trans (Qe _ _ hn)
 ·rw [e] at hn ⊢
  simp only [Pu, List.mem_append, List.mem_singleton] at hn
  simp only [Kt]
  exact (Eqv.ite1 h).trans ((Qe _ _ fun x hx => hn x (.inl hx)).trans (Jr (.nmi (hn _ (.inr rfl)).1 (hn _ (.inr rfl)).2) _))
theorem Ahk {o : U2} {tk : List As} {a : Ex} {p : MK} (h : Eqv a p.all) : Eqv (.un o a) (Fu (p.pt tk).ns (.un o (p.pt tk).e)) := by
 rcases I8 tk p with ⟨hb, e⟩ | e
 ·rw [e]
  exact (Eqv.un1 h).trans (Sy _ _)
 ·rw [e]
  simp only [Kt]
  exact (Eqv.un1 h).trans ((Sy _ _).trans (Jr .nmu _))
theorem Agx {tk : List As} {a : Ex} {p : MK} (h : Eqv a p.all) {x : As} (hx : x ∈ (p.pt tk).e.occ []) : x ∈ a.occ [] ∨ x ∈ Mn (p.pt tk).ns := by
 rcases I8 tk p with ⟨hb, e⟩ | e
 ·rw [e] at hx ⊢
  exact (Yd hx p.ns).imp (fun h1 => (h.occ x).2 h1) id
 ·rw [e] at hx ⊢; rw [occ_name] at hx
  exact .inr (by rw [Pu, hx]; simp)
def mkIn (tk bs : List As) (n m : Nat) (x : As) : Prop := x ∈ bs ∨ ∃ j, n ≤ j ∧ j < m ∧ x = nm 121 j ∧ x ∉ tk
theorem mkIn.up {tk bs bs' : List As} {n m n' m' : Nat} {x : As} (h : mkIn tk bs n m x) (hb : ∀ y ∈ bs, y ∈ bs') (hn : n' ≤ n) (hm : m ≤ m') : mkIn tk bs' n' m' x := by
 rcases h with h | ⟨j, h1, h2, h3⟩
 ·exact .inl (hb x h)
 ·exact .inr ⟨j, by omega, by omega, h3⟩
theorem Aen (tk : List As) (p : MK) : p.n ≤ (p.pt tk).n := by
 rcases I8 tk p with ⟨hb, e⟩ | e
 ·rw [e]; exact Nat.le_refl _
 ·rw [e]; have := (Dv 121 tk p.n).2.1; simp only; omega
theorem O7 {tk bs : List As} {n : Nat} {p : MK} (hn : n ≤ p.n) (h : ∀ x ∈ Mn p.ns, mkIn tk bs n p.n x) : ∀ x ∈ Mn (p.pt tk).ns, mkIn tk bs n (p.pt tk).n x := by
 intro x hx
 have hle := Aen tk p
 rcases I8 tk p with ⟨hb, e⟩ | e
 ·rw [e] at hx ⊢; exact h x hx
 ·have h0 := Dv 121 tk p.n
  rw [e] at hx ⊢
  simp only [Pu, List.mem_append, List.mem_singleton] at hx
  rcases hx with hx | hx
  ·exact (h x hx).up (fun _ h => h) (Nat.le_refl _) Dq
  ·exact .inr ⟨_, by omega, by simp only; omega, hx, by rw [hx]; exact h0.1⟩
theorem Ll (tk : List As) : ∀ (e : Ex) (n : Nat), ∀ x ∈ Mn (e.mk tk n).ns, mkIn tk e.bs n (e.mk tk n).n x
 | .num s, n, x, hx => by cases hx
 | .name s, n, x, hx => by cases hx
 | .lt y a b, n, x, hx => by
  have h1 := (a.mk_hits tk n).1
  have h2 := (b.mk_hits tk (a.mk tk n).n).1
  have hx : x ∈ Mn ((a.mk tk n).ns ++ (y, (a.mk tk n).e) :: (b.mk tk (a.mk tk n).n).ns) := hx
  simp only [Mn, List.map_append, List.map_cons, List.mem_append, List.mem_cons] at hx
  rcases hx with hx | hx | hx
  ·exact (Ll tk a n x hx).up (fun z hz => .tail _ (List.mem_append_left _ hz)) (Nat.le_refl _) h2
  ·exact .inl (by rw [hx]; exact .head _)
  ·exact (Ll tk b _ x hx).up (fun z hz => .tail _ (List.mem_append_right _ hz)) h1 (Nat.le_refl _)
 | .fn f y s t b, n, x, hx => by cases hx
 | .ite a b c, n, x, hx => by
  have h1 := (a.mk_hits tk n).1
  have h2 := (b.mk_hits tk ((a.mk tk n).pt tk).n).1
  have h3 := (c.mk_hits tk (b.mk tk ((a.mk tk n).pt tk).n).n).1
  exact (O7 h1 (Ll tk a n) x hx).up (fun z hz => List.mem_append_left _ hz) (Nat.le_refl _) (Nat.le_trans h2 h3)
 | .bin o a b, n, x, hx => by
  have h1 := (a.mk_hits tk n).1
  have h2 := (b.mk_hits tk ((a.mk tk n).pt tk).n).1
  have h3 := Aen tk (b.mk tk ((a.mk tk n).pt tk).n)
  have h4 := Aen tk (a.mk tk n)
  have hx : x ∈ Mn (((a.mk tk n).pt tk).ns ++ ((b.mk tk ((a.mk tk n).pt tk).n).pt tk).ns) := hx
  simp only [Mn, List.map_append, List.mem_append] at hx
  rcases hx with hx | hx
  ·exact (O7 h1 (Ll tk a n) x hx).up (fun z hz => List.mem_append_left _ hz) (Nat.le_refl _) (Nat.le_trans h2 h3)
  ·exact (O7 h2 (Ll tk b _) x hx).up (fun z hz => List.mem_append_right _ hz) (Nat.le_trans h1 h4) (Nat.le_refl _)
 | .un o a, n, x, hx => O7 (a.mk_hits tk n).1 (Ll tk a n) x hx
theorem Lk (tk : List As) : ∀ (e : Ex) (n : Nat), Fit tk e → Eqv e (e.mk tk n).all
 | .num s, n, h => .refl _
 | .name s, n, h => .refl _
 | .fn f x s t b, n, h => by
  have hnd := h.nd
  simp only [Ex.bs, List.nodup_cons, List.mem_cons, not_or] at hnd
  refine .fn1 (Lk tk b n ⟨hnd.2.2, fun y hy ho => ?_, fun y hy => ?_, fun y hy => h.bb y (.tail _ (.tail _ hy))⟩)
  ·exact h.sep y (.tail _ (.tail _ hy)) (Qx.2 ⟨ho, fun e => hnd.1.2 (e ▸ hy), fun e => hnd.2.1 (e ▸ hy)⟩)
  ·by_cases e1 : y = f
   ·exact e1 ▸ h.bb f (.head _)
   ·by_cases e2 : y = x
    ·exact e2 ▸ h.bb x (.tail _ (.head _))
    ·exact h.ob y (Qx.2 ⟨hy, e1, e2⟩)
 | .lt x a b, n, h => by
  have hnd := h.nd
  simp only [Ex.bs, List.nodup_cons, List.mem_append, not_or] at hnd
  obtain ⟨⟨nxa, nxb⟩, hab⟩ := hnd; obtain ⟨na, nb, dab⟩ := R5 hab
  have fa : Fit tk a := ⟨na, fun y hy ho => h.sep y (.tail _ (List.mem_append_left _ hy)) (Dj.2 (.inl ho)), fun y hy => h.ob y (Dj.2 (.inl hy)), fun y hy => h.bb y (.tail _ (List.mem_append_left _ hy))⟩
  have ob : ∀ y ∈ b.occ [], y ∈ tk := fun y hy => by
   by_cases e1 : y = x
   ·exact e1 ▸ h.bb x (.head _)
   ·exact h.ob y (Dj.2 (.inr ⟨hy, e1⟩))
  have fb : Fit tk b := ⟨nb, fun y hy ho => h.sep y (.tail _ (List.mem_append_right _ hy)) (Dj.2 (.inr ⟨ho, fun e => nxb (e ▸ hy)⟩)), ob, fun y hy => h.bb y (.tail _ (List.mem_append_right _ hy))⟩
  have ia := Lk tk a n fa
  have ib := Lk tk b (a.mk tk n).n fb
  show Eqv (.lt x a b) (Fu ((a.mk tk n).ns ++ (x, (a.mk tk n).e) :: (b.mk tk (a.mk tk n).n).ns) (b.mk tk (a.mk tk n).n).e)
  rw [Kt]; refine (Eqv.lt1 ia).trans ((Xx _ _ fun y hy ho => ?_).trans (Jr (.lt2 ib) _))
  rcases Ll tk a n y hy with h1 | ⟨j, -, -, -, h4⟩
  ·exact h.sep y (.tail _ (List.mem_append_left _ h1)) (Dj.2 (.inr ⟨ho, fun e => nxa (e ▸ h1)⟩))
  ·exact h4 (ob y ho)
 | .ite a b c, n, h => by
  obtain ⟨na, nbc, dab⟩ := R5 (show (a.bs ++ (b.bs ++ c.bs)).Nodup from h.nd); obtain ⟨nb, nc, dbc⟩ := R5 nbc
  have fa : Fit tk a := ⟨na, fun y hy ho => h.sep y (List.mem_append_left _ hy) (Dy.2 (.inl ho)), fun y hy => h.ob y (Dy.2 (.inl hy)), fun y hy => h.bb y (List.mem_append_left _ hy)⟩
  have fb : Fit tk b := ⟨nb, fun y hy ho => h.sep y (List.mem_append_right _ (List.mem_append_left _ hy)) (Dy.2 (.inr (.inl ho))), fun y hy => h.ob y (Dy.2 (.inr (.inl hy))), fun y hy => h.bb y (List.mem_append_right _ (List.mem_append_left _ hy))⟩
  have fc : Fit tk c := ⟨nc, fun y hy ho => h.sep y (List.mem_append_right _ (List.mem_append_right _ hy)) (Dy.2 (.inr (.inr ho))), fun y hy => h.ob y (Dy.2 (.inr (.inr hy))), fun y hy => h.bb y (List.mem_append_right _ (List.mem_append_right _ hy))⟩
  have ia := Lk tk a n fa
  have ib := Lk tk b ((a.mk tk n).pt tk).n fb
  have ic := Lk tk c (b.mk tk ((a.mk tk n).pt tk).n).n fc
  refine (Agw (tk := tk) ia fun y hy => ?_).trans (Jr ((Eqv.ite2 ib).trans (.ite3 ic)) _)
  rcases O7 (a.mk_hits tk n).1 (Ll tk a n) y hy with h1 | ⟨j, -, -, -, h4⟩
  ·exact ⟨fun ho => h.sep y (List.mem_append_left _ h1) (Dy.2 (.inr (.inl ho))), fun ho => h.sep y (List.mem_append_left _ h1) (Dy.2 (.inr (.inr ho)))⟩
  ·exact ⟨fun ho => h4 (fb.ob y ho), fun ho => h4 (fc.ob y ho)⟩
 | .bin o a b, n, h => by
  obtain ⟨na, nb, dab⟩ := R5 (show (a.bs ++ b.bs).Nodup from h.nd)
  have fa : Fit tk a := ⟨na, fun y hy ho => h.sep y (List.mem_append_left _ hy) (Dw.2 (.inl ho)), fun y hy => h.ob y (Dw.2 (.inl hy)), fun y hy => h.bb y (List.mem_append_left _ hy)⟩
  have fb : Fit tk b := ⟨nb, fun y hy ho => h.sep y (List.mem_append_right _ hy) (Dw.2 (.inr ho)), fun y hy => h.ob y (Dw.2 (.inr hy)), fun y hy => h.bb y (List.mem_append_right _ hy)⟩
  have ia := Lk tk a n fa
  have ib := Lk tk b ((a.mk tk n).pt tk).n fb
  have ma := O7 (a.mk_hits tk n).1 (Ll tk a n)
  have mb := O7 (b.mk_hits tk ((a.mk tk n).pt tk).n).1 (Ll tk b ((a.mk tk n).pt tk).n)
  show Eqv (.bin o a b) (Fu (((a.mk tk n).pt tk).ns ++ ((b.mk tk ((a.mk tk n).pt tk).n).pt tk).ns) (.bin o ((a.mk tk n).pt tk).e ((b.mk tk ((a.mk tk n).pt tk).n).pt tk).e))
  rw [Kt]; refine (Afs (tk := tk) ia fun y hy ho => ?_).trans (Jr (Aft (tk := tk) (Afr _ _) ib fun y hy ho => ?_) _)
  ·rcases ma y hy with h1 | ⟨j, -, -, -, h4⟩
   ·exact h.sep y (List.mem_append_left _ h1) (Dw.2 (.inr ho))
   ·exact h4 (fb.ob y ho)
  ·rcases Agx ia ho with h5 | h5
   ·rcases mb y hy with h1 | ⟨j, -, -, -, h4⟩
    ·exact h.sep y (List.mem_append_right _ h1) (Dw.2 (.inl h5))
    ·exact h4 (fa.ob y h5)
   ·rcases mb y hy with h1 | ⟨j, j1, j2, j3, h4⟩
    ·rcases ma y h5 with h6 | ⟨i, -, -, -, h7⟩
     ·exact dab y h6 h1
     ·exact h7 (fb.bb y h1)
    ·rcases ma y h5 with h6 | ⟨i, i1, i2, i3, h7⟩
     ·exact h4 (fa.bb y h6)
     ·have := Tc (j3.symm.trans i3)
      omega
 | .un o a, n, h => Ahk (tk := tk) (Lk tk a n ⟨h.nd, h.sep, h.ob, h.bb⟩)
theorem Zq {e : Ex} (h : e.fine = true) : Eqv e.plain e.normal := Lk _ _ _ (Ab4 h)
theorem S8 : ∀ {l : List (As × Ex)} {e : Ex}, (∀ q ∈ l, q.2.norm false = true) → e.norm true = true → (Fu l e).norm true = true
 | [], e, _, h => h
 | p :: l, e, hl, h => by simp only [Fu, Ex.norm, Bool.true_and, hl p (.head _), S8 (fun q hq => hl q (.tail _ hq)) h, Bool.and_self]
theorem Afo : ∀ {e : Ex}, e.norm false = true → e.norm true = true
 | .num s, h => rfl
 | .name s, h => rfl
 | .bin o a b, h => h
 | .ite a b c, h => h
 | .lt x a b, h => by simp [Ex.norm] at h
 | .fn f x s t b, h => h
 | .un o a, h => h
def mkN (p : MK) : Prop := (∀ q ∈ p.ns, q.2.norm false = true) ∧ p.e.norm false = true
theorem mkN.all {p : MK} (h : mkN p) : p.all.norm true = true := S8 h.1 (Afo h.2)
theorem mkN.pt {p : MK} (h : mkN p) (tk : List As) : mkN (p.pt tk) := by
 rcases I8 tk p with ⟨hb, e⟩ | e
 ·rw [e]; exact h
 ·rw [e]; refine ⟨fun q hq => ?_, rfl⟩
  rcases List.mem_append.1 hq with hq | hq
  ·exact h.1 q hq
  ·rw [List.mem_singleton.1 hq]; exact h.2
inductive Ev : Nat → KE → Ex → KV → Prop
 | num {d : Nat} {k : KE} {s : As} : Ev d k (.num s) (.num s)
 | name {d : Nat} {k : KE} {s : As} {v : KV} (h : k.look s = some v) : Ev d k (.name s) v
 | fn {d : Nat} {k : KE} {f x : As} {s t : Ty} {b : Ex} : Ev d k (.fn f x s t b) (.clo f x s t b k)
 | bin {d : Nat} {k : KE} {o : B5} {a b : Ex} {u v w : KV} (ha : Ev d k a u) (hb : Ev d k b v) (h : o.act u v = some w) : Ev d k (.bin o a b) w
 | call {d d' : Nat} {k : KE} {a b : Ex} {f x : As} {s t : Ty} {c : Ex} {r : KE} {v w : KV} (ha : Ev d k a (.clo f x s t c r)) (hb : Ev d k b v) (hd : d' < d) (hc : Ev d' (.cons x v (.cons f (.clo f x s t c r) r)) c w) : Ev d k (.bin .call a b) w
 | ite {d : Nat} {k : KE} {a b c : Ex} {s : As} {w : KV} (ha : Ev d k a (.num s)) (hb : Ev d k (if s = [48] then b else c) w) : Ev d k (.ite a b c) w
 | lt {d : Nat} {k : KE} {x : As} {a b : Ex} {u w : KV} (ha : Ev d k a u) (hb : Ev d (.cons x u k) b w) : Ev d k (.lt x a b) w
 | un {d : Nat} {k : KE} {o : U2} {a : Ex} {u w : KV} (ha : Ev d k a u) (h : o.act u = some w) : Ev d k (.un o a) w
theorem Ev.up {d e : Nat} (h : d ≤ e) {k : KE} {a : Ex} {w : KV} (hv : Ev d k a w) : Ev e k a w := by
 induction hv with
 | num => exact .num
 | name hl => exact .name hl
 | fn => exact .fn
 | bin _ _ ha ih1 ih2 => exact .bin (ih1 h) (ih2 h) ha
 | call _ _ hd hc ih1 ih2 _ => exact .call (ih1 h) (ih2 h) (Nat.lt_of_lt_of_le hd h) hc
 | ite _ _ ih1 ih2 => exact .ite (ih1 h) (ih2 h)
 | lt _ _ ih1 ih2 => exact .lt (ih1 h) (ih2 h)
 | un _ ha ih => exact .un (ih h) ha
theorem Ahb : ∀ (n : Nat) (e : Ex) (k : KE) {w : KV}, (eval n e k).v = some w → Ev n k e w := by
 intro n
 induction n using Nat.strongRecOn with
 | _ n ih =>
  intro e k w h
  cases n with
  | zero => rw [Lw] at h; cases h
  | succ n =>
   have hl := fun e k => Co n e k
   cases e with
   | num s => rw [Kn] at h; obtain rfl := Option.some.inj h; exact .num
   | name s => rw [Hv] at h; exact .name h
   | fn f x s t b => rw [Kc] at h; obtain rfl := Option.some.inj h; exact .fn
   | bin o a b =>
    have hla := hl a k
    have hlb := Co (eval n a k).left b k
    rw [Ir] at h
    cases hp : (eval n a k).v with
    | none => rw [hp] at h; simp only at h; rw [hp] at h; cases h
    | some u =>
     rw [hp] at h
     simp only at h
     have h1 := (ih n Aa a k hp).up (Nat.le_succ n)
     cases hq : (eval (eval n a k).left b k).v with
     | none => rw [hq] at h; simp only at h; rw [hq] at h; cases h
     | some v =>
      rw [hq] at h
      simp only at h
      have h2 := (ih _ Aa b k hq).up (show (eval n a k).left ≤ n + 1 by omega)
      by_cases hc : ∃ f x s t c r, o = .call ∧ u = .clo f x s t c r
      ·obtain ⟨f, x, s, t, c, r, rfl, rfl⟩ := hc; rw [Hi] at h
       exact .call h1 h2 (show (eval (eval n a k).left b k).left < n + 1 by omega) (ih _ Aa c _ h)
      ·rw [Gi hc] at h
       exact .bin h1 h2 h
   | ite a b c =>
    have hla := hl a k
    rw [Hm] at h
    cases hp : (eval n a k).v with
    | none => rw [hp] at h; simp only at h; rw [hp] at h; cases h
    | some u =>
     rw [hp] at h
     cases u with
     | num s => exact .ite ((ih n Aa a k hp).up (Nat.le_succ n)) ((ih _ Aa _ k h).up (show (eval n a k).left ≤ n + 1 by omega))
     | _ => cases h
   | lt x a b =>
    have hla := hl a k
    rw [I4] at h
    cases hp : (eval n a k).v with
    | none => rw [hp] at h; simp only at h; rw [hp] at h; cases h
    | some u =>
     rw [hp] at h
     exact .lt ((ih n Aa a k hp).up (Nat.le_succ n)) ((ih _ Aa b _ h).up (show (eval n a k).left ≤ n + 1 by omega))
   | un o a =>
    rw [I5] at h
    cases hp : (eval n a k).v with
    | none => rw [hp] at h; simp only at h; rw [hp] at h; cases h
    | some u =>
     rw [hp] at h
     exact .un ((ih n Aa a k hp).up (Nat.le_succ n)) h
theorem Ahj {d : Nat} {k : KE} {e : Ex} {w : KV} (h : Ev d k e w) : ∃ n, ∀ m, (eval (n + m) e k).v = some w ∧ m ≤ (eval (n + m) e k).left := by
 induction h with
 | num => exact ⟨1, fun m => by rw [show 1 + m = m + 1 by omega, Kn]; exact ⟨rfl, Nat.le_refl _⟩⟩
 | name h => exact ⟨1, fun m => by rw [show 1 + m = m + 1 by omega, Hv]; exact ⟨h, Nat.le_refl _⟩⟩
 | fn => exact ⟨1, fun m => by rw [show 1 + m = m + 1 by omega, Kc]; exact ⟨rfl, Nat.le_refl _⟩⟩
 | @bin d k o a b u v w ha hb hact ih1 ih2 =>
  obtain ⟨n1, h1⟩ := ih1; obtain ⟨n2, h2⟩ := ih2; refine ⟨n1 + n2 + 1, fun m => ?_⟩
  have e1 := h1 (n2 + m)
  rw [show n1 + n2 + 1 + m = (n1 + (n2 + m)) + 1 by omega, Ir, e1.1]
  simp only
  have e2 := h2 ((eval (n1 + (n2 + m)) a k).left - n2)
  rw [show n2 + ((eval (n1 + (n2 + m)) a k).left - n2) = (eval (n1 + (n2 + m)) a k).left by omega] at e2; rw [e2.1]
  simp only
  have hno : ¬ ∃ f x s t c r, o = .call ∧ u = .clo f x s t c r := by
   rintro ⟨f, x, s, t, c, r, rfl, rfl⟩; cases hact
  rw [Gi hno]
  exact ⟨hact, by simp only [Res.of]; omega⟩
 | @call d d' k a b f x s t c r v w ha hb hd hc ih1 ih2 ih3 =>
  obtain ⟨n1, h1⟩ := ih1; obtain ⟨n2, h2⟩ := ih2; obtain ⟨n3, h3⟩ := ih3; refine ⟨n1 + n2 + n3 + 1, fun m => ?_⟩
  have e1 := h1 (n2 + n3 + m)
  rw [show n1 + n2 + n3 + 1 + m = (n1 + (n2 + n3 + m)) + 1 by omega, Ir, e1.1]
  simp only
  have e2 := h2 ((eval (n1 + (n2 + n3 + m)) a k).left - n2)
  rw [show n2 + ((eval (n1 + (n2 + n3 + m)) a k).left - n2) = (eval (n1 + (n2 + n3 + m)) a k).left by omega] at e2; rw [e2.1]
  simp only
  rw [Hi]
  have e3 := h3 ((eval (eval (n1 + (n2 + n3 + m)) a k).left b k).left - n3)
  rw [show n3 + ((eval (eval (n1 + (n2 + n3 + m)) a k).left b k).left - n3) = (eval (eval (n1 + (n2 + n3 + m)) a k).left b k).left by omega] at e3
  exact ⟨e3.1, by omega⟩
 | @ite d k a b c s w ha hb ih1 ih2 =>
  obtain ⟨n1, h1⟩ := ih1; obtain ⟨n2, h2⟩ := ih2; refine ⟨n1 + n2 + 1, fun m => ?_⟩
  have e1 := h1 (n2 + m)
  rw [show n1 + n2 + 1 + m = (n1 + (n2 + m)) + 1 by omega, Hm, e1.1]
  simp only
  have e2 := h2 ((eval (n1 + (n2 + m)) a k).left - n2)
  rw [show n2 + ((eval (n1 + (n2 + m)) a k).left - n2) = (eval (n1 + (n2 + m)) a k).left by omega] at e2
  exact ⟨e2.1, by omega⟩
 | @lt d k x a b u w ha hb ih1 ih2 =>
  obtain ⟨n1, h1⟩ := ih1; obtain ⟨n2, h2⟩ := ih2; refine ⟨n1 + n2 + 1, fun m => ?_⟩
  have e1 := h1 (n2 + m)
  rw [show n1 + n2 + 1 + m = (n1 + (n2 + m)) + 1 by omega, I4, e1.1]
  simp only
  have e2 := h2 ((eval (n1 + (n2 + m)) a k).left - n2)
  rw [show n2 + ((eval (n1 + (n2 + m)) a k).left - n2) = (eval (n1 + (n2 + m)) a k).left by omega] at e2
  exact ⟨e2.1, by omega⟩
 | @un d k o a u w ha hact ih1 =>
  obtain ⟨n1, h1⟩ := ih1; refine ⟨n1 + 1, fun m => ?_⟩
  have e1 := h1 m
  rw [show n1 + 1 + m = (n1 + m) + 1 by omega, I5, e1.1]
  exact ⟨hact, e1.2⟩
inductive VR : KV → KV → Prop
 | num (s : As) : VR (.num s) (.num s)
 | pair {a b a' b' : KV} (h : VR a a') (h' : VR b b') : VR (.pair a b) (.pair a' b')
 | clo {f x : As} {s t : Ty} {b b' : Ex} {r r' : KE} (hb : Eqv b b') (g g' : As → KV) (h1 : ∀ y, y ∈ b.occ [] → y ≠ f → y ≠ x → r.look y = some (g y)) (h2 : ∀ y, y ∈ b.occ [] → y ≠ f → y ≠ x → r'.look y = some (g' y)) (h3 : ∀ y, y ∈ b.occ [] → y ≠ f → y ≠ x → VR (g y) (g' y)) : VR (.clo f x s t b r) (.clo f x s t b' r')
def KK (e : Ex) (k k' : KE) : Prop := ∀ y ∈ e.occ [], ∃ v v', k.look y = some v ∧ k'.look y = some v' ∧ VR v v'
theorem KK.clo {f x : As} {s t : Ty} {b b' : Ex} {r r' : KE} (hb : Eqv b b') (h : KK (.fn f x s t b) r r') : VR (.clo f x s t b r) (.clo f x s t b' r') := by
 have key : ∀ y, y ∈ b.occ [] → y ≠ f → y ≠ x → ∃ v v', r.look y = some v ∧ r'.look y = some v' ∧ VR v v' := fun y h1 h2 h3 => h y (Qx.2 ⟨h1, h2, h3⟩)
 refine .clo hb (fun y => (r.look y).getD (.num [])) (fun y => (r'.look y).getD (.num [])) (fun y h1 h2 h3 => ?_) (fun y h1 h2 h3 => ?_) (fun y h1 h2 h3 => ?_)
 ·obtain ⟨v, v', e1, e2, e3⟩ := key y h1 h2 h3; simp only [e1, Option.getD_some]
 ·obtain ⟨v, v', e1, e2, e3⟩ := key y h1 h2 h3; simp only [e2, Option.getD_some]
 ·obtain ⟨v, v', e1, e2, e3⟩ := key y h1 h2 h3; simp only [e1, e2, Option.getD_some]; exact e3
theorem VR.env {f x : As} {s t : Ty} {b b' : Ex} {r r' : KE} (h : VR (.clo f x s t b r) (.clo f x s t b' r')) {v v' : KV} (hv : VR v v') : KK b (.cons x v (.cons f (.clo f x s t b r) r)) (.cons x v' (.cons f (.clo f x s t b' r') r')) := by
 have h0 := h
 cases h with
 | clo hb g g' h1 h2 h3 =>
  intro y hy
  simp only [KE.look]
  by_cases e : x = y
  ·rw [if_pos e, if_pos e]; exact ⟨v, v', rfl, rfl, hv⟩
  ·rw [if_neg e, if_neg e]
   by_cases e' : f = y
   ·rw [if_pos e', if_pos e']; exact ⟨_, _, rfl, rfl, h0⟩
   ·rw [if_neg e', if_neg e']
    exact ⟨_, _, h1 y hy (Ne.symm e') (Ne.symm e), h2 y hy (Ne.symm e') (Ne.symm e), h3 y hy (Ne.symm e') (Ne.symm e)⟩
theorem VR.trans {u v : KV} (h : VR u v) : ∀ {w : KV}, VR v w → VR u w := by
 induction h with
 | num s => exact fun h => h
 | pair _ _ ih1 ih2 => intro w h; cases h with
  | pair h1 h2 => exact .pair (ih1 h1) (ih2 h2)
 | @clo f x s t b b' r r' hb g g' h1 h2 h3 ih =>
  intro w h
  cases h with
  | clo hb' k k' j1 j2 j3 =>
   refine .clo (hb.trans hb') g k' h1 (fun y hy => j2 y ((hb.occ y).1 hy)) fun y hy hf hx => ih y hy hf hx ?_
   have e1 := h2 y hy hf hx
   have e2 := j1 y ((hb.occ y).1 hy) hf hx
   rw [e1] at e2; rw [Option.some.inj e2]
   exact j3 y ((hb.occ y).1 hy) hf hx
theorem Ox {o : B5} {u u' v v' w : KV} (h : VR u u') (h' : VR v v') (hw : o.act u v = some w) : ∃ w', o.act u' v' = some w' ∧ VR w w' := by
 cases o with
 | pair => obtain rfl := Option.some.inj hw; exact ⟨_, rfl, .pair h h'⟩
 | call => cases hw
 | _ =>
  cases h with
  | num s =>
   cases h' with
   | num q => obtain rfl := Option.some.inj hw; exact ⟨_, rfl, .num _⟩
   | pair => cases hw
   | clo => cases hw
  | pair => cases hw
  | clo => cases hw
theorem Rz {o : U2} {u u' w : KV} (h : VR u u') (hw : o.act u = some w) : ∃ w', o.act u' = some w' ∧ VR w w' := by
 cases h with
 | pair h1 h2 => cases o <;> (obtain rfl := Option.some.inj hw; first | exact ⟨_, rfl, h1⟩ | exact ⟨_, rfl, h2⟩)
 | num => cases o <;> cases hw
 | clo => cases o <;> cases hw
theorem VR.show {u v : KV} (h : VR u v) : u.show = v.show := by
 induction h with
 | num s => rfl
 | pair _ _ ih1 ih2 => simp only [KV.show, ih1, ih2]
 | clo => rfl
inductive VS : KV → Prop
 | num (s : As) : VS (.num s)
 | pair {a b : KV} (h : VS a) (h' : VS b) : VS (.pair a b)
 | clo {f x : As} {s t : Ty} {b : Ex} {r : KE} (g : As → KV) (h1 : ∀ y, y ∈ b.occ [] → y ≠ f → y ≠ x → r.look y = some (g y)) (h3 : ∀ y, y ∈ b.occ [] → y ≠ f → y ≠ x → VS (g y)) : VS (.clo f x s t b r)
theorem VR.left {u v : KV} (h : VR u v) : VR u u := by
 induction h with
 | num s => exact .num s
 | pair _ _ ih1 ih2 => exact .pair ih1 ih2
 | clo hb g g' h1 h2 h3 ih => exact .clo (.refl _) g g h1 h1 ih
theorem KK.left {e : Ex} {k k' : KE} (h : KK e k k') : KK e k k := fun y hy => by
 obtain ⟨v, v', h1, h2, h3⟩ := h y hy
 exact ⟨v, v, h1, h1, h3.left⟩
theorem KK.sub {e e' : Ex} {k k' : KE} (h : KK e k k') (hs : ∀ y ∈ e'.occ [], y ∈ e.occ []) : KK e' k k' := fun y hy => h y (hs y hy)
theorem KK.add {e e' : Ex} {k k' : KE} {x : As} {v v' : KV} (h : KK e k k') (hs : ∀ y ∈ e'.occ [], y ≠ x → y ∈ e.occ []) (hv : VR v v') : KK e' (.cons x v k) (.cons x v' k') := fun y hy => by
 simp only [KE.look]
 by_cases e : x = y
 ·rw [if_pos e, if_pos e]; exact ⟨v, v', rfl, rfl, hv⟩
 ·rw [if_neg e, if_neg e]; exact h y (hs y hy (Ne.symm e))
theorem KK.more {e : Ex} {k k' : KE} {x : As} {v' : KV} (h : KK e k k') (hx : x ∉ e.occ []) : KK e k (.cons x v' k') := fun y hy => by
 simp only [KE.look]
 rw [if_neg (fun e : x = y => hx (e ▸ hy))]; exact h y hy
def Sim (d : Nat) : Prop := ∀ {e e' : Ex}, Eqv e e' → ∀ {k : KE} {w : KV}, Ev d k e w → ∀ {k' : KE}, KK e k k' → ∃ w', Ev d k' e' w' ∧ VR w w'
theorem Kz {d d' : Nat} (hS : ∀ j, j < d → Sim j) (hd : d' < d) {f x : As} {s t : Ty} {c : Ex} {r : KE} {v v' w : KV} {u' : KV} (hu : VR (.clo f x s t c r) u') (hv : VR v v') (hc : Ev d' (.cons x v (.cons f (.clo f x s t c r) r)) c w)
  {k' : KE} {a' b' : Ex} (ha : Ev d k' a' u') (hb : Ev d k' b' v') : ∃ w', Ev d k' (.bin .call a' b') w' ∧ VR w w' := by
 have hu0 := hu
 cases hu with
 | @clo _ _ _ _ _ c' _ r' hcc g g' h1 h2 h3 =>
  obtain ⟨w', e1, e2⟩ := hS d' hd hcc hc (hu0.env hv)
  exact ⟨w', .call ha hb hd e1, e2⟩
theorem Ce {d : Nat} (hS : ∀ j, j < d → Sim j) : ∀ {e : Ex} {k : KE} {w : KV}, Ev d k e w → ∀ {k' : KE}, KK e k k' → ∃ w', Ev d k' e w' ∧ VR w w'
 | .num s, k, w, h, k', hk => by cases h; exact ⟨_, .num, .num s⟩
 | .name s, k, w, h, k', hk => by
  cases h with
  | name h =>
   obtain ⟨v, v', h1, h2, h3⟩ := hk s (by simp [Ex.occ]); rw [h] at h1; obtain rfl := Option.some.inj h1
   exact ⟨v', .name h2, h3⟩
 | .fn f x s t b, k, w, h, k', hk => by cases h; exact ⟨_, .fn, hk.clo (.refl b)⟩
 | .bin o a b, k, w, h, k', hk => by
  have ka : KK a k k' := hk.sub fun y hy => Dw.2 (.inl hy)
  have kb : KK b k k' := hk.sub fun y hy => Dw.2 (.inr hy)
  cases h with
  | bin ha hb hact =>
   obtain ⟨u', a1, a2⟩ := Ce hS ha ka; obtain ⟨v', b1, b2⟩ := Ce hS hb kb; obtain ⟨w', c1, c2⟩ := Ox a2 b2 hact
   exact ⟨w', .bin a1 b1 c1, c2⟩
  | call ha hb hd hc =>
   obtain ⟨u', a1, a2⟩ := Ce hS ha ka; obtain ⟨v', b1, b2⟩ := Ce hS hb kb
   exact Kz hS hd a2 b2 hc a1 b1
 | .ite a b c, k, w, h, k', hk => by
  cases h with
  | @ite _ _ _ _ _ s _ ha hb =>
   obtain ⟨u', a1, a2⟩ := Ce hS ha (hk.sub fun y hy => Dy.2 (.inl hy))
   cases a2
   by_cases h0 : s = [48]
   ·rw [if_pos h0] at hb; obtain ⟨w', b1, b2⟩ := Ce hS hb (hk.sub fun y hy => Dy.2 (.inr (.inl hy)))
    exact ⟨w', .ite a1 (by rw [if_pos h0]; exact b1), b2⟩
   ·rw [if_neg h0] at hb; obtain ⟨w', b1, b2⟩ := Ce hS hb (hk.sub fun y hy => Dy.2 (.inr (.inr hy)))
    exact ⟨w', .ite a1 (by rw [if_neg h0]; exact b1), b2⟩
 | .lt x a b, k, w, h, k', hk => by
  cases h with
  | lt ha hb =>
   obtain ⟨u', a1, a2⟩ := Ce hS ha (hk.sub fun y hy => Dj.2 (.inl hy)); obtain ⟨w', b1, b2⟩ := Ce hS hb (hk.add (fun y hy hx => Dj.2 (.inr ⟨hy, hx⟩)) a2)
   exact ⟨w', .lt a1 b1, b2⟩
 | .un o a, k, w, h, k', hk => by
  cases h with
  | un ha hact =>
   obtain ⟨u', a1, a2⟩ := Ce hS ha hk; obtain ⟨w', c1, c2⟩ := Rz a2 hact
   exact ⟨w', .un a1 c1, c2⟩
theorem Qc (d : Nat) (y : As) (u : KV) (k : KE) : Ev d (.cons y u k) (.name y) u := .name (by simp [KE.look])
theorem R0 {a : Ex} (h : a.bare = true) {d : Nat} {k : KE} {u : KV} (ha : Ev d k a u) {y : As} (hy : y ∉ a.occ []) (v : KV) : Ev d (.cons y v k) a u := by
 cases a with
 | num s => cases ha; exact .num
 | name s =>
  cases ha with
  | name hl => exact .name (by simp only [KE.look]; rw [if_neg (fun e : y = s => hy (by rw [e]; simp [Ex.occ]))]; exact hl)
 | _ => cases h
theorem Aer {d : Nat} (hS : ∀ j, j < d → Sim j) : Sim d := by
 intro e e' h
 induction h with
 | refl e => exact fun hv _ hk => Ce hS hv hk
 | @trans a b c h h' ih1 ih2 =>
  intro k w hv k' hk; obtain ⟨w1, e1, r1⟩ := ih1 hv hk.left; obtain ⟨w2, e2, r2⟩ := ih2 e1 (hk.sub fun y hy => (h.occ y).2 hy)
  exact ⟨w2, e2, r1.trans r2⟩
 | @bin1 o a a' b h ih =>
  intro k w hv k' hk
  have ka : KK a k k' := hk.sub fun y hy => Dw.2 (.inl hy)
  have kb : KK b k k' := hk.sub fun y hy => Dw.2 (.inr hy)
  cases hv with
  | bin ha hb hact =>
   obtain ⟨u', a1, a2⟩ := ih ha ka; obtain ⟨v', b1, b2⟩ := Ce hS hb kb; obtain ⟨w', c1, c2⟩ := Ox a2 b2 hact
   exact ⟨w', .bin a1 b1 c1, c2⟩
  | call ha hb hd hc =>
   obtain ⟨u', a1, a2⟩ := ih ha ka; obtain ⟨v', b1, b2⟩ := Ce hS hb kb
   exact Kz hS hd a2 b2 hc a1 b1
 | @bin2 o a b b' h ih =>
  intro k w hv k' hk
  have ka : KK a k k' := hk.sub fun y hy => Dw.2 (.inl hy)
  have kb : KK b k k' := hk.sub fun y hy => Dw.2 (.inr hy)
  cases hv with
  | bin ha hb hact =>
   obtain ⟨u', a1, a2⟩ := Ce hS ha ka; obtain ⟨v', b1, b2⟩ := ih hb kb; obtain ⟨w', c1, c2⟩ := Ox a2 b2 hact
   exact ⟨w', .bin a1 b1 c1, c2⟩
  | call ha hb hd hc =>
   obtain ⟨u', a1, a2⟩ := Ce hS ha ka; obtain ⟨v', b1, b2⟩ := ih hb kb
   exact Kz hS hd a2 b2 hc a1 b1
 | @ite1 a a' b c h ih =>
  intro k w hv k' hk
  cases hv with
  | @ite _ _ _ _ _ s _ ha hb =>
   obtain ⟨u', a1, a2⟩ := ih ha (hk.sub fun y hy => Dy.2 (.inl hy))
   cases a2
   obtain ⟨w', b1, b2⟩ := Ce hS hb (hk.sub fun y hy => Dy.2 (.inr (by split at hy; exact .inl hy; exact .inr hy)))
   exact ⟨w', .ite a1 b1, b2⟩
 | @ite2 a b b' c h ih =>
  intro k w hv k' hk
  cases hv with
  | @ite _ _ _ _ _ s _ ha hb =>
   obtain ⟨u', a1, a2⟩ := Ce hS ha (hk.sub fun y hy => Dy.2 (.inl hy))
   cases a2
   by_cases h0 : s = [48]
   ·rw [if_pos h0] at hb; obtain ⟨w', b1, b2⟩ := ih hb (hk.sub fun y hy => Dy.2 (.inr (.inl hy)))
    exact ⟨w', .ite a1 (by rw [if_pos h0]; exact b1), b2⟩
   ·rw [if_neg h0] at hb; obtain ⟨w', b1, b2⟩ := Ce hS hb (hk.sub fun y hy => Dy.2 (.inr (.inr hy)))
    exact ⟨w', .ite a1 (by rw [if_neg h0]; exact b1), b2⟩
 | @ite3 a b c c' h ih =>
  intro k w hv k' hk
  cases hv with
  | @ite _ _ _ _ _ s _ ha hb =>
   obtain ⟨u', a1, a2⟩ := Ce hS ha (hk.sub fun y hy => Dy.2 (.inl hy))
   cases a2
   by_cases h0 : s = [48]
   ·rw [if_pos h0] at hb; obtain ⟨w', b1, b2⟩ := Ce hS hb (hk.sub fun y hy => Dy.2 (.inr (.inl hy)))
    exact ⟨w', .ite a1 (by rw [if_pos h0]; exact b1), b2⟩
   ·rw [if_neg h0] at hb; obtain ⟨w', b1, b2⟩ := ih hb (hk.sub fun y hy => Dy.2 (.inr (.inr hy)))
    exact ⟨w', .ite a1 (by rw [if_neg h0]; exact b1), b2⟩
 | @lt1 x a a' b h ih =>
  intro k w hv k' hk
  cases hv with
  | lt ha hb =>
   obtain ⟨u', a1, a2⟩ := ih ha (hk.sub fun y hy => Dj.2 (.inl hy)); obtain ⟨w', b1, b2⟩ := Ce hS hb (hk.add (fun y hy hx => Dj.2 (.inr ⟨hy, hx⟩)) a2)
   exact ⟨w', .lt a1 b1, b2⟩
 | @lt2 x a b b' h ih =>
  intro k w hv k' hk
  cases hv with
  | lt ha hb =>
   obtain ⟨u', a1, a2⟩ := Ce hS ha (hk.sub fun y hy => Dj.2 (.inl hy)); obtain ⟨w', b1, b2⟩ := ih hb (hk.add (fun y hy hx => Dj.2 (.inr ⟨hy, hx⟩)) a2)
   exact ⟨w', .lt a1 b1, b2⟩
 | @fn1 f x s t b b' h ih =>
  intro k w hv k' hk
  cases hv
  exact ⟨_, .fn, hk.clo h⟩
 | @un1 o a a' h ih =>
  intro k w hv k' hk
  cases hv with
  | un ha hact =>
   obtain ⟨u', a1, a2⟩ := ih ha hk; obtain ⟨w', c1, c2⟩ := Rz a2 hact
   exact ⟨w', .un a1 c1, c2⟩
 | @nm1 o a b y h =>
  intro k w hv k' hk
  have ka : KK a k k' := hk.sub fun y hy => Dw.2 (.inl hy)
  have kb : KK b k k' := hk.sub fun y hy => Dw.2 (.inr hy)
  cases hv with
  | bin ha hb hact =>
   obtain ⟨u', a1, a2⟩ := Ce hS ha ka; obtain ⟨v', b1, b2⟩ := Ce hS hb (kb.more (v' := u') h); obtain ⟨w', c1, c2⟩ := Ox a2 b2 hact
   exact ⟨w', .lt a1 (.bin (Qc _ _ _ _) b1 c1), c2⟩
  | call ha hb hd hc =>
   obtain ⟨u', a1, a2⟩ := Ce hS ha ka; obtain ⟨v', b1, b2⟩ := Ce hS hb (kb.more (v' := u') h); obtain ⟨w', c1, c2⟩ := Kz hS hd a2 b2 hc (Qc _ y _ k') b1
   exact ⟨w', .lt a1 c1, c2⟩
 | @nm2 o a b y hbr h =>
  intro k w hv k' hk
  have ka : KK a k k' := hk.sub fun y hy => Dw.2 (.inl hy)
  have kb : KK b k k' := hk.sub fun y hy => Dw.2 (.inr hy)
  cases hv with
  | bin ha hb hact =>
   obtain ⟨u', a1, a2⟩ := Ce hS ha ka; obtain ⟨v', b1, b2⟩ := Ce hS hb kb; obtain ⟨w', c1, c2⟩ := Ox a2 b2 hact
   exact ⟨w', .lt b1 (.bin (R0 hbr a1 h v') (Qc _ _ _ _) c1), c2⟩
  | call ha hb hd hc =>
   obtain ⟨u', a1, a2⟩ := Ce hS ha ka; obtain ⟨v', b1, b2⟩ := Ce hS hb kb; obtain ⟨w', c1, c2⟩ := Kz hS hd a2 b2 hc (R0 hbr a1 h v') (Qc _ y _ k')
   exact ⟨w', .lt b1 c1, c2⟩
 | @nmi a b c y h h' =>
  intro k w hv k' hk
  cases hv with
  | @ite _ _ _ _ _ s _ ha hb =>
   obtain ⟨u', a1, a2⟩ := Ce hS ha (hk.sub fun y hy => Dy.2 (.inl hy))
   cases a2
   obtain ⟨w', b1, b2⟩ := Ce hS hb (KK.more (v' := .num s) (x := y) (hk.sub fun y hy => Dy.2 (.inr (by split at hy; exact .inl hy; exact .inr hy))) (by split; exact h; exact h'))
   exact ⟨w', .lt a1 (.ite (Qc _ _ _ _) b1), b2⟩
 | @nmu o a y =>
  intro k w hv k' hk
  cases hv with
  | un ha hact =>
   obtain ⟨u', a1, a2⟩ := Ce hS ha hk; obtain ⟨w', c1, c2⟩ := Rz a2 hact
   exact ⟨w', .lt a1 (.un (Qc _ _ _ _) c1), c2⟩
 | @fl1 o x a b c h =>
  intro k w hv k' hk
  have ka : KK a k k' := hk.sub fun y hy => Dw.2 (.inl (Dj.2 (.inl hy)))
  have kb : ∀ {u u' : KV}, VR u u' → KK b (.cons x u k) (.cons x u' k') := fun hu => hk.add (fun y hy hx => Dw.2 (.inl (Dj.2 (.inr ⟨hy, hx⟩)))) hu
  have kc : KK c k k' := hk.sub fun y hy => Dw.2 (.inr hy)
  cases hv with
  | bin hl hc hact =>
   cases hl with
   | lt ha hb =>
    obtain ⟨u', a1, a2⟩ := Ce hS ha ka; obtain ⟨v', b1, b2⟩ := Ce hS hb (kb a2); obtain ⟨z', c1, c2⟩ := Ce hS hc (kc.more (v' := u') h); obtain ⟨w', d1, d2⟩ := Ox b2 c2 hact
    exact ⟨w', .lt a1 (.bin b1 c1 d1), d2⟩
  | call hl hc hd hcc =>
   cases hl with
   | lt ha hb =>
    obtain ⟨u', a1, a2⟩ := Ce hS ha ka; obtain ⟨v', b1, b2⟩ := Ce hS hb (kb a2); obtain ⟨z', c1, c2⟩ := Ce hS hc (kc.more (v' := u') h); obtain ⟨w', d1, d2⟩ := Kz hS hd b2 c2 hcc b1 c1
    exact ⟨w', .lt a1 d1, d2⟩
 | @fl2 o x a b c hbr h =>
  intro k w hv k' hk
  have ka : KK a k k' := hk.sub fun y hy => Dw.2 (.inl hy)
  have kb : KK b k k' := hk.sub fun y hy => Dw.2 (.inr (Dj.2 (.inl hy)))
  have kc : ∀ {u u' : KV}, VR u u' → KK c (.cons x u k) (.cons x u' k') := fun hu => hk.add (fun y hy hx => Dw.2 (.inr (Dj.2 (.inr ⟨hy, hx⟩)))) hu
  cases hv with
  | bin ha hl hact =>
   cases hl with
   | lt hb hc =>
    obtain ⟨u', a1, a2⟩ := Ce hS ha ka; obtain ⟨v', b1, b2⟩ := Ce hS hb kb; obtain ⟨z', c1, c2⟩ := Ce hS hc (kc b2); obtain ⟨w', d1, d2⟩ := Ox a2 c2 hact
    exact ⟨w', .lt b1 (.bin (R0 hbr a1 h v') c1 d1), d2⟩
  | call ha hl hd hcc =>
   cases hl with
   | lt hb hc =>
    obtain ⟨u', a1, a2⟩ := Ce hS ha ka; obtain ⟨v', b1, b2⟩ := Ce hS hb kb; obtain ⟨z', c1, c2⟩ := Ce hS hc (kc b2); obtain ⟨w', d1, d2⟩ := Kz hS hd a2 c2 hcc (R0 hbr a1 h v') c1
    exact ⟨w', .lt b1 d1, d2⟩
 | @fli x a b c d h h' =>
  intro k w hv k' hk
  cases hv with
  | @ite _ _ _ _ _ s _ hl hb =>
   cases hl with
   | lt ha ha2 =>
    obtain ⟨u', a1, a2⟩ := Ce hS ha (hk.sub fun y hy => Dy.2 (.inl (Dj.2 (.inl hy)))); obtain ⟨v', b1, b2⟩ := Ce hS ha2 (hk.add (fun y hy hx => Dy.2 (.inl (Dj.2 (.inr ⟨hy, hx⟩)))) a2)
    cases b2
    obtain ⟨w', c1, c2⟩ := Ce hS hb (KK.more (v' := u') (x := x) (hk.sub fun y hy => Dy.2 (.inr (by split at hy; exact .inl hy; exact .inr hy))) (by split; exact h; exact h'))
    exact ⟨w', .lt a1 (.ite b1 c1), c2⟩
 | @flu o x a b =>
  intro k w hv k' hk
  cases hv with
  | un hl hact =>
   cases hl with
   | lt ha hb =>
    obtain ⟨u', a1, a2⟩ := Ce hS ha (hk.sub fun y hy => Dj.2 (.inl hy)); obtain ⟨v', b1, b2⟩ := Ce hS hb (hk.add (fun y hy hx => Dj.2 (.inr ⟨hy, hx⟩)) a2); obtain ⟨w', c1, c2⟩ := Rz b2 hact
    exact ⟨w', .lt a1 (.un b1 c1), c2⟩
 | @fll x y a b c h =>
  intro k w hv k' hk
  cases hv with
  | lt hl hc =>
   cases hl with
   | lt ha hb =>
    obtain ⟨u', a1, a2⟩ := Ce hS ha (hk.sub fun z hz => Dj.2 (.inl (Dj.2 (.inl hz)))); obtain ⟨v', b1, b2⟩ := Ce hS hb (hk.add (fun z hz hx => Dj.2 (.inl (Dj.2 (.inr ⟨hz, hx⟩)))) a2); obtain ⟨w', c1, c2⟩ := Ce (k' := .cons y v' (.cons x u' k')) hS hc fun z hz => by
     simp only [KE.look]
     by_cases e : y = z
     ·rw [if_pos e, if_pos e]; exact ⟨_, _, rfl, rfl, b2⟩
     ·rw [if_neg e, if_neg e, if_neg (fun e' : x = z => h (e' ▸ hz))]
      exact hk z (Dj.2 (.inr ⟨hz, Ne.symm e⟩))
    exact ⟨w', .lt a1 (.lt b1 c1), c2⟩
theorem Afv (d : Nat) : Sim d := by
 induction d using Nat.strongRecOn with
 | _ d ih => exact Aer ih
theorem Ac2 {e e' : Ex} (h : Eqv e e') (hc : e.occ [] = []) {n : Nat} {w : KV} (hv : (eval n e .nil).v = some w) : ∃ m w', (∀ q, (eval (m + q) e' .nil).v = some w') ∧ w.show = w'.show := by
 obtain ⟨w', h1, h2⟩ := Afv n h (Ahb n e .nil hv) (k' := .nil) (fun y hy => by rw [hc] at hy; cases hy); obtain ⟨m, hm⟩ := Ahj h1
 exact ⟨m, w', fun q => (hm q).1, h2.show⟩
mutual
def KV.db : KV → KV
 | .num s => .num s
 | .pair a b => .pair a.db b.db
 | .clo f x s t b r => .clo [] [] s t (b.db (r.names ++ [f, x])) r.db
def KE.db : KE → KE
 | .nil => .nil
 | .cons n v up => .cons [] v.db up.db
end
theorem Qr : ∀ {k : KE} {s : As}, s ∈ k.names ↔ s ∈ k.dom
 | .nil, s => by simp [KE.names, KE.dom]
 | .cons n v up, s => by
  simp only [KE.names, KE.dom, List.mem_append, List.mem_cons, List.not_mem_nil, or_false, Qr (k := up)]
  exact or_comm
theorem Ml : ∀ k : KE, k.db.names.length = k.names.length
 | .nil => rfl
 | .cons n v up => by simp only [KE.db, KE.names, List.length_append, List.length_cons, List.length_nil, Ml up]
theorem Abr {k k' : KE} (h : k.db = k'.db) : k.names.length = k'.names.length := by rw [← Ml k, h, Ml]
theorem Aao : ∀ {k k' : KE} {s s' : As} {i : Nat}, k.db = k'.db → B7 k.names s = some i → B7 k'.names s' = some i → (k.look s).map KV.db = (k'.look s').map KV.db
 | .nil, k', s, s', i, h, h1, h2 => by simp [KE.names, B7, Fz] at h1
 | .cons n v up, .nil, s, s', i, h, h1, h2 => by simp [KE.names, B7, Fz] at h2
 | .cons n v up, .cons n' v' up', s, s', i, h, h1, h2 => by
  simp only [KE.db, KE.cons.injEq, true_and] at h
  have hl := Abr h.2
  simp only [KE.names, Jq] at h1 h2
  simp only [KE.look]
  by_cases e : n = s
  ·rw [if_pos e] at h1 ⊢
   by_cases e' : n' = s'
   ·rw [if_pos e']; simp only [Option.map_some, h.1]
   ·rw [if_neg e'] at h2
    have := (Ks h2).1
    have := Option.some.inj h1
    omega
  ·rw [if_neg e] at h1 ⊢
   by_cases e' : n' = s'
   ·rw [if_pos e'] at h2
    have := (Ks h1).1
    have := Option.some.inj h2
    omega
   ·rw [if_neg e'] at h2 ⊢
    exact Aao h.2 h1 h2
def Res.db (r : Res) : Res := ⟨r.v.map KV.db, r.left, r.stuck⟩
theorem Nl {r r' : Res} (h : r.db = r'.db) (hn : r.v = none) : r'.v = none := by
 have := congrArg Res.v h
 simp only [Res.db, hn, Option.map_none] at this
 cases hv : r'.v with
 | none => rfl
 | some w => rw [hv] at this; cases this
theorem N5 {r r' : Res} (h : r.db = r'.db) {u : KV} (hn : r.v = some u) : ∃ u', r'.v = some u' ∧ u.db = u'.db := by
 have := congrArg Res.v h
 simp only [Res.db, hn, Option.map_some] at this
 cases hv : r'.v with
 | none => rw [hv] at this; cases this
 | some w => rw [hv] at this; exact ⟨w, rfl, Option.some.inj this⟩
theorem L9 {r r' : Res} (h : r.db = r'.db) : r.left = r'.left := by have := congrArg Res.left h; exact this
theorem Agc {o : B5} {u u' w w' : KV} (h : u.db = u'.db) (h' : w.db = w'.db) : (o.act u w).map KV.db = (o.act u' w').map KV.db := by
 cases o with
 | pair => simp only [B5.act, Option.map_some, KV.db, h, h']
 | call => rfl
 | _ =>
  cases u with
  | num s =>
   cases u' with
   | num s' =>
    obtain rfl : s = s' := by simpa [KV.db] using h
    cases w with
    | num q =>
     cases w' with
     | num q' =>
      obtain rfl : q = q' := by simpa [KV.db] using h'
      rfl
     | _ => simp [KV.db] at h'
    | _ => cases w' <;> first | rfl | simp [KV.db] at h'
   | _ => simp [KV.db] at h
  | _ => cases u' <;> first | (simp [KV.db] at h; done) | (cases w <;> cases w' <;> rfl)
theorem Ae3 {o : U2} {u u' : KV} (h : u.db = u'.db) : (o.act u).map KV.db = (o.act u').map KV.db := by
 cases u with
 | pair a b =>
  cases u' with
  | pair a' b' =>
   simp only [KV.db, KV.pair.injEq] at h
   cases o <;> simp only [U2.act, Option.map_some, h.1, h.2]
  | _ => simp [KV.db] at h
 | _ => cases u' <;> first | (simp [KV.db] at h; done) | (cases o <;> rfl)
theorem Agb {o o' : Option KV} {n n' : Nat} (h : o.map KV.db = o'.map KV.db) (hn : n = n') : (Res.of o n).db = (Res.of o' n').db := by
 subst hn
 cases o with
 | none => cases o' with
  | none => rfl
  | some w => cases h
 | some u => cases o' with
  | none => cases h
  | some w => simp only [Res.of, Res.db, h, Option.isNone_some]
theorem Ae9 : ∀ (n : Nat) (e e' : Ex) (k k' : KE), k.wf → k'.wf → e.ok = true → e'.ok = true → (∀ y ∈ e.occ [], y ∈ k.dom) → (∀ y ∈ e'.occ [], y ∈ k'.dom) → k.db = k'.db → e.db k.names = e'.db k'.names → (eval n e k).db = (eval n e' k').db := by
 intro n
 induction n using Nat.strongRecOn with
 | _ n ih =>
  intro e e' k k' hw hw' hok hok' hd hd' hk he
  cases n with
  | zero => rfl
  | succ n =>
   have hl := fun e k => Co n e k
   cases e with
   | num s =>
    cases e' <;> simp only [Ex.db, reduceCtorEq, Ex.num.injEq] at he
    subst he; rfl
   | name s =>
    cases e' with
    | name s' =>
     have h1 := Qr.2 (hd s (by simp [Ex.occ]))
     have h2 := Qr.2 (hd' s' (by simp [Ex.occ]))
     simp only [Ex.db, Ex.name.injEq] at he
     cases hs : B7 k.names s with
     | none => exact absurd h1 (F4.1 hs)
     | some i =>
      cases hs' : B7 k'.names s' with
      | none => exact absurd h2 (F4.1 hs')
      | some j =>
       rw [hs, hs'] at he; obtain rfl := Vs he; rw [Hv, Hv]
       simp only [Res.db, Aao hk hs hs']
    | _ => simp only [Ex.db, reduceCtorEq] at he
   | fn f x s t b =>
    cases e' <;> simp only [Ex.db, reduceCtorEq, Ex.fn.injEq] at he
    obtain ⟨-, -, rfl, rfl, hb⟩ := he; rw [Kc, Kc]
    simp only [Res.db, Option.map_some, KV.db, hk, hb]
   | bin o a b =>
    cases e' <;> simp only [Ex.db, reduceCtorEq, Ex.bin.injEq] at he
    rename_i o' a' b'
    obtain ⟨rfl, hea, heb⟩ := he
    simp only [Ex.ok, Bool.and_eq_true] at hok hok'
    have da := ih n Aa a a' k k' hw hw' hok.1 hok'.1 (fun y hy => hd y (List.mem_append_left _ hy)) (fun y hy => hd' y (List.mem_append_left _ hy)) hk hea
    have hla := hl a k
    rw [Ir, Ir]
    cases hp : (eval n a k).v with
    | none => rw [Nl da hp]; exact da
    | some u =>
     obtain ⟨u', hp', hu⟩ := N5 da hp; rw [hp']
     simp only
     obtain ⟨wu, -⟩ := Res.says.some hp (Is n a k hw hok.1 (fun y hy => hd y (List.mem_append_left _ hy))); obtain ⟨wu', -⟩ := Res.says.some hp' (Is n a' k' hw' hok'.1 (fun y hy => hd' y (List.mem_append_left _ hy))); rw [← L9 da]
     have db := ih (eval n a k).left Aa b b' k k' hw hw' hok.2 hok'.2 (fun y hy => hd y (List.mem_append_right _ hy)) (fun y hy => hd' y (List.mem_append_right _ hy)) hk heb
     have hlb := Co (eval n a k).left b k
     cases hq : (eval (eval n a k).left b k).v with
     | none => rw [Nl db hq]; exact db
     | some w =>
      obtain ⟨w', hq', hw2⟩ := N5 db hq; rw [hq']
      simp only
      obtain ⟨ww, -⟩ := Res.says.some hq (Is _ b k hw hok.2 (fun y hy => hd y (List.mem_append_right _ hy))); obtain ⟨ww', -⟩ := Res.says.some hq' (Is _ b' k' hw' hok'.2 (fun y hy => hd' y (List.mem_append_right _ hy))); rw [← L9 db]
      by_cases hc : ∃ f x s t c r, o = .call ∧ u = .clo f x s t c r
      ·obtain ⟨f, x, s, t, c, r, rfl, rfl⟩ := hc
       cases u' with
       | clo f' x' s' t' c' r' =>
        rw [Hi, Hi]
        simp only [KV.db, KV.clo.injEq, true_and] at hu
        obtain ⟨rfl, rfl, hcb, hrr⟩ := hu
        have hcl := wu
        obtain ⟨hr, hfok, hfd⟩ := wu
        have hcl' := wu'
        obtain ⟨hr', hfok', hfd'⟩ := wu'
        simp only [Ex.ok, Bool.and_eq_true, decide_eq_true_eq] at hfok hfok'
        obtain ⟨⟨⟨⟨⟨nf, nx⟩, hfx⟩, _⟩, _⟩, hcok⟩ := hfok; obtain ⟨⟨⟨⟨⟨nf', nx'⟩, hfx'⟩, _⟩, _⟩, hcok'⟩ := hfok'; refine ih _ Aa c c' _ _ ⟨nx, ww, nf, hcl, hr⟩ ⟨nx', ww', nf', hcl', hr'⟩ hcok hcok' (fun y hy => ?_) (fun y hy => ?_) ?_ ?_
        ·simp only [KE.dom, List.mem_cons]
         rcases hfd y hy with h | h
         ·simp only [List.mem_cons, List.not_mem_nil, or_false] at h
          rcases h with h | h
          ·exact .inr (.inl h)
          ·exact .inl h
         ·exact .inr (.inr h)
        ·simp only [KE.dom, List.mem_cons]
         rcases hfd' y hy with h | h
         ·simp only [List.mem_cons, List.not_mem_nil, or_false] at h
          rcases h with h | h
          ·exact .inr (.inl h)
          ·exact .inl h
         ·exact .inr (.inr h)
        ·simp only [KE.db, KV.db, hw2, hcb, hrr]
        ·simp only [KE.names, List.append_assoc, List.cons_append, List.nil_append]; exact hcb
       | _ => simp only [KV.db, reduceCtorEq] at hu
      ·have hc' : ¬ ∃ f x s t c r, o = .call ∧ u' = .clo f x s t c r := by
        rintro ⟨f, x, s, t, c, r, rfl, rfl⟩
        cases u with
        | clo f x s t c r => exact hc ⟨_, _, _, _, _, _, rfl, rfl⟩
        | _ => simp only [KV.db, reduceCtorEq] at hu
       rw [Gi hc, Gi hc']
       exact Agb (Agc hu hw2) rfl
   | ite a b c =>
    cases e' <;> simp only [Ex.db, reduceCtorEq, Ex.ite.injEq] at he
    rename_i a' b' c'
    obtain ⟨hea, heb, hec⟩ := he
    simp only [Ex.ok, Bool.and_eq_true] at hok hok'
    have da := ih n Aa a a' k k' hw hw' hok.1.1 hok'.1.1 (fun y hy => hd y (List.mem_append_left _ (List.mem_append_left _ hy))) (fun y hy => hd' y (List.mem_append_left _ (List.mem_append_left _ hy))) hk hea
    have hla := hl a k
    rw [Hm, Hm]
    cases hp : (eval n a k).v with
    | none => rw [Nl da hp]; exact da
    | some u =>
     obtain ⟨u', hp', hu⟩ := N5 da hp; rw [hp']
     cases u with
     | num s =>
      cases u' with
      | num s' =>
       obtain rfl : s = s' := by simpa [KV.db] using hu
       simp only
       rw [← L9 da]
       by_cases h0 : s = [48]
       ·rw [if_pos h0, if_pos h0]
        exact ih _ Aa b b' k k' hw hw' hok.1.2 hok'.1.2 (fun y hy => hd y (List.mem_append_left _ (List.mem_append_right _ hy))) (fun y hy => hd' y (List.mem_append_left _ (List.mem_append_right _ hy))) hk heb
       ·rw [if_neg h0, if_neg h0]
        exact ih _ Aa c c' k k' hw hw' hok.2 hok'.2 (fun y hy => hd y (List.mem_append_right _ hy)) (fun y hy => hd' y (List.mem_append_right _ hy)) hk hec
      | _ => simp only [KV.db, reduceCtorEq] at hu
     | _ => cases u' <;> first | (simp only [KV.db, reduceCtorEq] at hu; done) | (simp only [Res.db, L9 da])
   | lt x a b =>
    cases e' <;> simp only [Ex.db, reduceCtorEq, Ex.lt.injEq] at he
    rename_i x' a' b'
    obtain ⟨-, hea, heb⟩ := he
    simp only [Ex.ok, Bool.and_eq_true] at hok hok'
    have da := ih n Aa a a' k k' hw hw' hok.1.2 hok'.1.2 (fun y hy => hd y (List.mem_append_left _ hy)) (fun y hy => hd' y (List.mem_append_left _ hy)) hk hea
    have hla := hl a k
    rw [I4, I4]
    cases hp : (eval n a k).v with
    | none => rw [Nl da hp]; exact da
    | some u =>
     obtain ⟨u', hp', hu⟩ := N5 da hp; rw [hp']
     simp only
     obtain ⟨wu, -⟩ := Res.says.some hp (Is n a k hw hok.1.2 (fun y hy => hd y (List.mem_append_left _ hy))); obtain ⟨wu', -⟩ := Res.says.some hp' (Is n a' k' hw' hok'.1.2 (fun y hy => hd' y (List.mem_append_left _ hy))); rw [← L9 da]; refine ih _ Aa b b' _ _ ⟨hok.1.1, wu, hw⟩ ⟨hok'.1.1, wu', hw'⟩ hok.2 hok'.2 (fun y hy => ?_) (fun y hy => ?_) ?_ ?_
     ·simp only [KE.dom, List.mem_cons]
      by_cases hyx : y = x
      ·exact .inl hyx
      ·exact .inr (hd y (List.mem_append_right _ (show y ∈ b.occ ([] ++ [x]) from Ex.occ_mem.2 ⟨hy, by simpa using hyx⟩)))
     ·simp only [KE.dom, List.mem_cons]
      by_cases hyx : y = x'
      ·exact .inl hyx
      ·exact .inr (hd' y (List.mem_append_right _ (show y ∈ b'.occ ([] ++ [x']) from Ex.occ_mem.2 ⟨hy, by simpa using hyx⟩)))
     ·simp only [KE.db, hu, hk]
     ·simp only [KE.names]; exact heb
   | un o a =>
    cases e' <;> simp only [Ex.db, reduceCtorEq, Ex.un.injEq] at he
    rename_i o' a'
    obtain ⟨rfl, hea⟩ := he
    have da := ih n Aa a a' k k' hw hw' hok hok' (fun y hy => hd y hy) (fun y hy => hd' y hy) hk hea
    rw [I5, I5]
    cases hp : (eval n a k).v with
    | none => rw [Nl da hp]; exact da
    | some u =>
     obtain ⟨u', hp', hu⟩ := N5 da hp; rw [hp']
     exact Agb (Ae3 hu) (L9 da)
theorem Wv : ∀ {u u' : KV}, u.db = u'.db → u.show = u'.show
 | .num s, .num s', h => by simpa [KV.db, KV.show] using h
 | .pair a b, .pair a' b', h => by
  simp only [KV.db, KV.pair.injEq] at h
  simp only [KV.show, Wv h.1, Wv h.2]
 | .clo _ _ _ _ _ _, .clo _ _ _ _ _ _, h => rfl
 | .num s, .pair _ _, h => by simp [KV.db] at h
 | .num s, .clo _ _ _ _ _ _, h => by simp [KV.db] at h
 | .pair _ _, .num _, h => by simp [KV.db] at h
 | .pair _ _, .clo _ _ _ _ _ _, h => by simp [KV.db] at h
 | .clo _ _ _ _ _ _, .num _, h => by simp [KV.db] at h
 | .clo _ _ _ _ _ _, .pair _ _, h => by simp [KV.db] at h
theorem Afn {s o : As} (h : Tb s = some o) : ∃ e, Fo s = some e ∧ e.normal.fine = true ∧ o = e.normal.tree.text ∧ Fo o = some e.normal := by
 cases hx : Fo s with
 | none => rw [Qs hx] at h; cases h
 | some e =>
  rw [Qt hx] at h
  split at h
  ·rename_i hf
   obtain rfl := (Option.some.inj h).symm
   exact ⟨e, rfl, hf, rfl, Qd hf⟩
  ·cases h
theorem Qv {s o : As} (h : Tb s = some o) : (∀ r r', I1 s 2000 = some r → I1 o 2000 = some r' → r.1 = r'.1) ∧ (Cr s = none → I1 s 2000 = none ∧ I1 o 2000 = none) ∧ (∀ r, I1 s 2000 = some r → I1 o 2000 = none → Nv o 2000 = false) := by
 obtain ⟨e, hx, hf, rfl, ho⟩ := Afn h
 have hfe := (R2 hx).1
 have hq := Zq hfe
 have hxp := Zh hx
 have hok := (R2 hx).2.1
 have hokp := (R2 hxp).2.1
 have hocc := ((Ex.plain_as e).free hokp hok).2
 have key : ∀ r, I1 s 2000 = some r → e.occ [] = [] ∧ ∃ m w', (∀ q, (eval (m + q) e.normal .nil).v = some w') ∧ r.1 = w'.show ∧ w'.show.length ≤ 12000 := by
  intro r hr; obtain ⟨e2, N, w, hc, hN, hN2, hw, rfl, hl, hwf, hg⟩ := Xl hr; obtain rfl := Option.some.inj ((H4 hc).1.symm.trans hx)
  have hoe : e2.occ [] = [] := by simpa [Ex.closed] using (H4 hc).2
  have hdb := Ae9 N e2.plain e2 .nil .nil trivial trivial hokp hok (fun y hy => by rw [hocc, hoe] at hy; cases hy) (fun y hy => by rw [hoe] at hy; cases hy) rfl (Ex.plain_as e2)
  obtain ⟨w1, hw1, hd1⟩ := N5 hdb.symm hw; obtain ⟨m, w', hm, hs⟩ := Ac2 hq (by rw [hocc]; exact hoe) hw1
  have hsh : w.show = w'.show := (Wv hd1).trans hs
  exact ⟨hoe, m, w', hm, hsh, by rw [← hsh]; exact hl⟩
 have hcl : e.occ [] = [] ↔ e.normal.occ [] = [] := by
  simp only [List.eq_nil_iff_forall_not_mem]
  constructor
  ·intro h x hx; exact h x (by rw [← hocc]; exact (hq.occ x).2 hx)
  ·intro h x hx; exact h x ((hq.occ x).1 (by rw [hocc]; exact hx))
 have hco : e.occ [] = [] → Cr e.normal.tree.text = some e.normal := fun h => Xd hf (hcl.1 h)
 refine ⟨fun r r' hr hr' => ?_, fun hc => ⟨Md (.inl hc), Md (.inl ?_)⟩, fun r hr hn => ?_⟩
 ·obtain ⟨hoe, m, w', hm, hs, -⟩ := key r hr; obtain ⟨e3, N, w2, hc3, hN, hN2, hw2, rfl, -, -, -⟩ := Xl hr'; rw [hco hoe] at hc3; obtain rfl := Option.some.inj hc3
  have h1 := Ur (m := m + N) (K6 hw2) Aa
  have h2 := hm N
  rw [h1] at h2
  have h3 : (eval N e.normal .nil).v = some w' := h2
  rw [hw2] at h3; obtain rfl := Option.some.inj h3
  exact hs
 ·cases hcn : Cr e.normal.tree.text with
  | none => rfl
  | some e3 =>
   have h1 := H4 hcn
   rw [ho] at h1; obtain rfl := Option.some.inj h1.1
   have h2 : e.normal.occ [] = [] := by simpa [Ex.closed] using h1.2
   have h3 : Cr s = some e := by
    unfold Cr
    rw [hx]
    simp [Ex.closed, hcl.2 h2]
   rw [h3] at hc; cases hc
 ·obtain ⟨hoe, m, w', hm, hs, hl⟩ := key r hr
  have hc3 := hco hoe
  rw [show (2000 : Int) = ((2000 : Nat) : Int) from rfl, Pk hc3 (Nat.le_refl _)]
  cases hst : (eval 2000 e.normal .nil).stuck with
  | false => rfl
  | true =>
   have h1 := Ur (m := m + 2000) (.inr hst) Aa
   have h2 := hm 2000
   rw [h1] at h2
   have h3 : (eval 2000 e.normal .nil).v = some w' := h2
   rw [show (2000 : Int) = ((2000 : Nat) : Int) from rfl, Sp hc3 (Nat.le_refl _), Xk h3 hl] at hn
   cases hn
theorem Agt {s o : As} (h : Tb s = some o) : o.length ≤ 12000 := by
 unfold Tb at h
 obtain ⟨e, he, h⟩ := Option.bind_eq_some_iff.1 h
 split at h
 ·rename_i hf
  cases h
  simp only [Ex.fine, Bool.and_eq_true, decide_eq_true_eq, Tree.fits] at hf
  rw [Tree.text_len]; exact hf.2.2
 ·cases h
def DN (L : Bj) : Cv := fun v I' L' => ∃ s, v = .string (str s) ∧ List.length s ≤ 400001 ∧ L = L'
theorem Qm {I : Heap} (ht : Tab I) {oa : Option Addr} {code : List UInt8} {c : Nat} (h : Bytes I oa code c) (L : Bj) : Fun Tryz.prog 9 [.slice oa code.length c] I L (YES L) := by
 have hlen := h.len
 refine Ao Ae ?_; refine Se rfl (Oa rfl (Ab (Ah (Se rfl (Om rfl (On rfl (Oc rfl rfl rfl (Ab ?_)))))))); refine A6 rfl ?_ ?_
 ·intro c0
  try simp only [nb] at c0
  refine Se rfl (Oa rfl (Ab (Am (.tmp rfl .nil) ?_)))
  exact ⟨I, L, .refl _, fun _ h => h, rfl, rfl⟩
 intro c0
 try simp only [nb] at c0
 refine Ak (Se rfl (Om rfl ?_)); refine Ca rfl (S2 h _) ?_; rintro _ J1 _ e1 ⟨s, rfl, hsl, rfl⟩
 have hs : s.length ≤ Bg := by unfold Bg; omega
 refine Oa rfl (Ab (Se rfl (Om rfl ?_))); refine Ca rfl (Zi s hs (ht.mono e1) _) ?_; rintro _ J2 _ e2 ⟨rfl, rfl⟩; refine Om rfl (Oe rfl rfl (Oe rfl rfl (Oa rfl (Oa rfl (Ab (Se rfl (Om rfl ?_))))))); refine Ca rfl (Zk s (Qq hs) _ _) ?_; rintro _ J3 _ e3 ⟨rfl, rfl⟩
 have hle := (e1.trans e2).trans e3
 refine Om rfl (Oe rfl rfl (Oe rfl rfl (Oa rfl (Oa rfl (Ab (Ah (Se rfl (Om rfl (Om rfl ?_))))))))); refine Ad4 rfl rfl rfl .free rfl ?_; refine Om rfl ?_
 apply G4 32 36 rfl
 ·intro g6_4 hk
  try simp only [nb] at g6_4
  refine Ow rfl (Ow rfl ?_); refine F9 rfl rfl rfl (.met rfl rfl) rfl ?_; refine Of rfl rfl ?_
  exact Bb 3 rfl rfl hk
 ·intro _ hk; refine Br 3 rfl ?_; refine Ot rfl rfl ?_
  exact Bb 3 rfl rfl hk
 refine Om rfl ?_
 apply G4 37 40 rfl
 ·intro g6_9 hk
  try simp only [nb] at g6_9
  refine Ow rfl ?_; refine Ei rfl (.met rfl rfl) rfl ?_; refine Of rfl rfl ?_
  exact Bb 2 rfl rfl hk
 ·intro _ hk; refine Br 2 rfl ?_; refine Ot rfl rfl ?_
  exact Bb 2 rfl rfl hk
 refine Ab ?_; refine A6 rfl ?_ ?_
 ·intro c1
  try simp only [nb] at c1
  refine Se rfl (Om rfl (Om rfl ?_)); refine Ad4 rfl rfl rfl .free rfl ?_; refine Om rfl ?_
  apply Fr 44 48 rfl
  ·intro g7_4 hk
   try simp only [nb] at g7_4
   refine Ow rfl (Ow rfl ?_); refine F9 rfl rfl rfl (.met rfl rfl) rfl ?_; refine Ot rfl rfl ?_
   exact Bb 3 rfl rfl hk
  ·intro _ hk; refine Br 3 rfl ?_; refine Of rfl rfl ?_
   exact Bb 3 rfl rfl hk
  refine Oa rfl (Ab (Am (.tmp rfl .nil) ?_)); refine ⟨J3, L, hle, Cl, ?_, rfl⟩
  simp [C2]
 intro c1
 try simp only [nb] at c1
 obtain ⟨o, ho⟩ : ∃ o, Tb s = some o := Option.isSome_iff_exists.1 (by simpa using c1); obtain ⟨h1, h2, h3⟩ := Qv ho
 have hoN : o.length ≤ Bg := by have := Agt ho; unfold Bg; omega
 clear c1
 rw [ho]
 simp only [Option.getD_some, Option.isSome_some]
 refine Ak (Se rfl (Om rfl ?_)); refine Ca rfl (Ac4 s hs 2000 (ht.mono hle) _) ?_; rintro _ J4 _ e4 ⟨rfl, rfl⟩
 have hle := hle.trans e4
 refine Om rfl ?_
 iterate 3 refine Oe rfl rfl ?_
 iterate 3 refine Oa rfl ?_
 refine Ab (Se rfl (Om rfl ?_)); refine Ca rfl (Ac4 o hoN 2000 (ht.mono hle) _) ?_; rintro _ J5 _ e5 ⟨rfl, rfl⟩
 have hle := hle.trans e5
 refine Om rfl ?_
 iterate 3 refine Oe rfl rfl ?_
 iterate 3 refine Oa rfl ?_
 refine Ab (Ah (Se rfl (Om rfl (Om rfl ?_))))
 apply Fr 62 64 rfl
 ·intro g10_2 hk
  try simp only [nb] at g10_2
  refine Ow rfl (Ot rfl rfl ?_)
  exact Bb 1 rfl rfl hk
 ·intro _ hk; refine Br 1 rfl ?_; refine Of rfl rfl ?_
  exact Bb 1 rfl rfl hk
 refine Om rfl ?_
 apply Fr 65 69 rfl
 ·intro g10_5 hk
  try simp only [nb] at g10_5
  refine Ow rfl (Ow rfl ?_); refine F9 rfl rfl rfl (.met rfl rfl) rfl ?_; refine Ot rfl rfl ?_
  exact Bb 3 rfl rfl hk
 ·intro _ hk; refine Br 3 rfl ?_; refine Of rfl rfl ?_
  exact Bb 3 rfl rfl hk
 refine Ab ?_; refine A6 rfl ?_ ?_
 ·intro c2
  try simp only [nb] at c2
  refine Se rfl (Oa rfl (Ab (Am (.tmp rfl .nil) ?_)))
  exfalso
  cases ha : I1 s 2000 with
  | none => rw [ha] at c2; simp at c2
  | some r =>
   cases hb : I1 o 2000 with
   | none => rw [ha, hb] at c2; simp at c2
   | some r' => rw [ha, hb] at c2; simp [h1 r r' ha hb] at c2
 intro c2
 try simp only [nb] at c2
 refine Ak (Ah (Se rfl (Om rfl ?_))); refine Ca rfl (V3 s hs _ _) ?_; rintro _ _ _ _ ⟨rfl, rfl, rfl⟩; refine Ei rfl .free rfl ?_; refine Ab ?_; refine A6 rfl ?_ ?_
 ·intro c3
  try simp only [nb] at c3
  refine Se rfl (Om rfl ?_); refine Ei rfl .free rfl ?_; refine Om rfl ?_
  apply Fr 75 78 rfl
  ·intro g13_3 hk
   try simp only [nb] at g13_3
   refine Ow rfl ?_; refine Ei rfl (.met rfl rfl) rfl ?_; refine Ot rfl rfl ?_
   exact Bb 2 rfl rfl hk
  ·intro _ hk; refine Br 2 rfl ?_; refine Of rfl rfl ?_
   exact Bb 2 rfl rfl hk
  refine Oa rfl (Ab (Am (.tmp rfl .nil) ?_)); refine ⟨J5, L, hle, Cl, ?_, rfl⟩; obtain ⟨q1, q2⟩ := h2 (by simpa using c3); rw [q1, q2]
  simp [C2]
 intro c3
 try simp only [nb] at c3
 refine Ak (Se rfl (Om rfl ?_)); refine Ei rfl .free rfl ?_; refine Om rfl ?_
 apply G4 81 83 rfl
 ·intro g14_3 hk
  try simp only [nb] at g14_3
  refine Ow rfl (Of rfl rfl ?_)
  exact Bb 1 rfl rfl hk
 ·intro _ hk; refine Br 1 rfl ?_; refine Ot rfl rfl ?_
  exact Bb 1 rfl rfl hk
 refine Om rfl ?_
 apply G4 84 88 rfl
 ·intro g14_6 hk
  try simp only [nb] at g14_6
  refine Ow rfl ?_; refine Cx rfl (.met rfl rfl) rfl (Xo o hoN 2000 (ht.mono hle) _) ?_; rintro _ J6 _ e6 ⟨rfl, rfl⟩; refine C4 (fun w h => Mem.le e6 h) ?_; refine Ei rfl (.met rfl rfl) rfl ?_; refine Of rfl rfl ?_
  exact Bb 3 rfl rfl hk
 ·intro _ hk; refine Br 3 rfl ?_; refine Ot rfl rfl ?_
  exact Bb 3 rfl rfl hk
 refine Oa rfl (Ab (Am (.tmp rfl .nil) ?_)); refine ⟨J5, L, hle, Cl, ?_, rfl⟩
 cases ha : I1 s 2000 with
 | none => simp [C2]
 | some r =>
  cases hb : I1 o 2000 with
  | some r' => simp [C2]
  | none => simp [C2, h3 r ha hb]
def Y1 (P : Program) (s : String) : Bool :=
 match P.globalNamed s with
 | some g => match (P.globals[g]?).map (·.type) with
  | some t => match P.underlying t with
   | some (.array n e) => (match P.underlying e with | some (.int .u64) => true | _ => false) && (P.cellsOf e == 1) && (P.cellsOf t == n)
   | _ => false
  | none => false
 | none => false
theorem Agz {laid : List (String × DataW Unit)} {W : World} (h : laidMetH Tryz.prog laid W)
  (hk : (laid.filter fun x => x.1 == "internal/strconv.uint64pow10") = [("internal/strconv.uint64pow10", Lib.tabData .u64 Lib.pow10Tab)]) (ht : Y1 Tryz.prog "internal/strconv.uint64pow10" = true) : Tab (R7 W) := by
 have h1 := h.filter (fun x => x.1 == "internal/strconv.uint64pow10")
 rw [hk] at h1
 have h1 : laidMet Tryz.prog [("internal/strconv.uint64pow10", Lib.tabData .u64 Lib.pow10Tab)] W := (laidMetH_iff.1 h1).1
 have h2 : Lib.TabIs Tryz.prog W "internal/strconv.uint64pow10" .u64 Lib.pow10Tab := by
  unfold Y1 at ht
  split at ht
  ·rename_i g hg
   split at ht
   ·rename_i t hty
    split at ht
    ·rename_i n e hu
     simp only [Bool.and_eq_true, beq_iff_eq] at ht
     obtain ⟨⟨h3, h4⟩, h5⟩ := ht
     split at h3
     ·rename_i he
      exact Lib.tabIs_of_head hg hty hu he h4 h5 h1
     ·cases h3
    ·cases ht
   ·cases ht
  ·cases ht
 intro L w hm
 unfold Lib.TabIs World.var? at h2 ⊢
 cases hg : Tryz.prog.globalNamed "internal/strconv.uint64pow10" with
 | none => rw [hg] at h2; cases h2
 | some g =>
  rw [hg] at h2
  simp only [Option.bind_some] at h2 ⊢
  cases ho : W.heap[g]? with
  | none => rw [ho] at h2; cases h2
  | some o => rw [ho] at h2; rw [hm.1.1 g o ho]; exact h2
end Go.Proofs.YtmfagaajiakgoaaGreatDoor

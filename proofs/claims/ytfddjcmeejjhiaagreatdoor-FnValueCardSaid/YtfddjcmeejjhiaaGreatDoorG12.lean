/- Evaluation with kept names, as plain data. No conditions. -/
import Derived.Test.YtfddjcmeejjhiaaGreatDoorG11
import Derived.Laws.Pointers

namespace Go.Proofs.YtfddjcmeejjhiaaGreatDoor
set_option maxRecDepth 100000
set_option linter.unusedVariables false
set_option linter.unusedSimpArgs false

mutual
inductive KV where
 | num (s : Ap)
 | pair (a b : KV)
 | clo (f x : Ap) (s t : Ty) (b : Ex) (r : KE)
inductive KE where
 | nil
 | cons (n : Ap) (v : KV) (up : KE)
end
def KE.look : KE → Ap → Option KV
 | .nil, _ => none
 | .cons m v up, n => if m = n then some v else up.look n
structure Res where
 v : Option KV
 left : Nat
 stuck : Bool
def B5.act : B5 → KV → KV → Option KV
 | .pair, u, w => some (.pair u w)
 | .call, _, _ => none
 | o, .num a, .num b => some (.num (Js o a b))
 | _, _, _ => none
def U2.act : U2 → KV → Option KV
 | .fst, .pair a _ => some a
 | .snd, .pair _ b => some b
 | _, _ => none
def Res.of (o : Option KV) (n : Nat) : Res := ⟨o, n, o.isNone⟩
def ev : Nat → Nat → Ex → KE → Res
 | 0, _, _, _ => ⟨none, 0, false⟩
 | _ + 1, 0, _, _ => ⟨none, 0, false⟩
 | _ + 1, n + 1, .num s, _ => ⟨some (.num s), n, false⟩
 | _ + 1, n + 1, .name s, k => ⟨k.look s, n, false⟩
 | _ + 1, n + 1, .fn f x s t b, k => ⟨some (.clo f x s t b k), n, false⟩
 | N + 1, n + 1, .bin o a b, k =>
  match (ev N n a k).v with
  | none => ev N n a k
  | some u => match (ev N (ev N n a k).left b k).v with
   | none => ev N (ev N n a k).left b k
   | some w => match o, u with
    | .call, .clo f x s t c r => ev N (ev N (ev N n a k).left b k).left c (.cons x w (.cons f (.clo f x s t c r) r))
    | o, u => .of (o.act u w) (ev N (ev N n a k).left b k).left
 | N + 1, n + 1, .ite a b c, k =>
  match (ev N n a k).v with
  | none => ev N n a k
  | some (.num s) => ev N (ev N n a k).left (if s = [48] then b else c) k
  | some _ => ⟨none, (ev N n a k).left, true⟩
 | N + 1, n + 1, .lt x a b, k =>
  match (ev N n a k).v with
  | none => ev N n a k
  | some u => ev N (ev N n a k).left b (.cons x u k)
 | N + 1, n + 1, .un o a, k =>
  match (ev N n a k).v with
  | none => ev N n a k
  | some u => .of (o.act u) (ev N n a k).left
theorem Sn : ∀ (N n : Nat) (e : Ex) (k : KE), (ev N n e k).left ≤ n := by
 intro N
 induction N with
 | zero => intro n e k; exact Nat.zero_le _
 | succ N ih =>
  intro n e k
  cases n with
  | zero => exact Nat.zero_le _
  | succ n =>
   cases e with
   | num s => exact Nat.le_succ _
   | name s => exact Nat.le_succ _
   | fn f x s t b => exact Nat.le_succ _
   | bin o a b =>
    simp only [ev]
    have h1 := ih n a k
    have h2 := ih (ev N n a k).left b k
    cases hp : (ev N n a k).v with
    | none => simp only; omega
    | some u =>
     simp only
     cases hq : (ev N (ev N n a k).left b k).v with
     | none => simp only; omega
     | some w =>
      simp only
      split
      ·exact Nat.le_trans (ih _ _ _) (by omega)
      ·simp only [Res.of]; omega
   | ite a b c =>
    simp only [ev]
    have h1 := ih n a k
    split
    ·omega
    ·exact Nat.le_trans (ih _ _ _) (by omega)
    ·simp only; omega
   | lt x a b =>
    simp only [ev]
    have h1 := ih n a k
    split
    ·omega
    ·exact Nat.le_trans (ih _ _ _) (by omega)
   | un o a =>
    simp only [ev]
    have h1 := ih n a k
    split
    ·omega
    ·simp only [Res.of]; omega
theorem Abf : ∀ (N n : Nat) (e : Ex) (k : KE), n < N → ev (N + 1) n e k = ev N n e k := by
 intro N
 induction N with
 | zero => intro n e k h; omega
 | succ N ih =>
  intro n e k h
  cases n with
  | zero => rfl
  | succ n =>
   have key : ∀ m e k, m ≤ n → ev (N + 1) m e k = ev N m e k := fun m e k hm => ih m e k (by omega)
   have l1 := fun e k => Sn N n e k
   cases e with
   | num s => rfl
   | name s => rfl
   | fn f x s t b => rfl
   | bin o a b =>
    have l2 := Sn N (ev N n a k).left b k
    have l3 := l1 a k
    rw [ev, ev, key n a k (Nat.le_refl _), key _ b k l3]
    cases (ev N n a k).v with
    | none => rfl
    | some u =>
     simp only
     cases (ev N (ev N n a k).left b k).v with
     | none => rfl
     | some w =>
      simp only
      split
      ·exact key _ _ _ (by omega)
      ·rfl
   | ite a b c =>
    have l3 := l1 a k
    rw [ev, ev, key n a k (Nat.le_refl _)]
    split
    ·rfl
    ·exact key _ _ _ l3
    ·rfl
   | lt x a b =>
    have l3 := l1 a k
    rw [ev, ev, key n a k (Nat.le_refl _)]
    split
    ·rfl
    ·exact key _ _ _ l3
   | un o a =>
    rw [ev, ev, key n a k (Nat.le_refl _)]
theorem Sm {N n : Nat} (h : n < N) (e : Ex) (k : KE) : ev N n e k = ev (n + 1) n e k := by
 induction N with
 | zero => omega
 | succ N ih =>
  rcases Nat.lt_or_ge n N with g | g
  ·rw [Abf N n e k g]; exact ih g
  ·rw [show N = n by omega]
def eval (n : Nat) (e : Ex) (k : KE) : Res := ev (n + 1) n e k
theorem Cv (n : Nat) (e : Ex) (k : KE) : (eval n e k).left ≤ n := Sn _ _ _ _
theorem Jm (e : Ex) (k : KE) : eval 0 e k = ⟨none, 0, false⟩ := rfl
theorem Jk (n : Nat) (s : Ap) (k : KE) : eval (n + 1) (.num s) k = ⟨some (.num s), n, false⟩ := rfl
theorem Jj (n : Nat) (s : Ap) (k : KE) : eval (n + 1) (.name s) k = ⟨k.look s, n, false⟩ := rfl
theorem Le (n : Nat) (f x : Ap) (s t : Ty) (b : Ex) (k : KE) : eval (n + 1) (.fn f x s t b) k = ⟨some (.clo f x s t b k), n, false⟩ := rfl
theorem F6 (n : Nat) (o : B5) (a b : Ex) (k : KE) : eval (n + 1) (.bin o a b) k =
  match (eval n a k).v with
  | none => eval n a k
  | some u => match (eval (eval n a k).left b k).v with
   | none => eval (eval n a k).left b k
   | some w => match o, u with
    | .call, .clo f x s t c r => eval (eval (eval n a k).left b k).left c (.cons x w (.cons f (.clo f x s t c r) r))
    | o, u => .of (o.act u w) (eval (eval n a k).left b k).left := by
 have h1 := Cv n a k
 have h2 := Cv (eval n a k).left b k
 show ev (n + 1 + 1) (n + 1) (.bin o a b) k = _
 rw [ev]
 have e1 : ev (n + 1) n a k = eval n a k := rfl
 have e2 : ev (n + 1) (eval n a k).left b k = eval (eval n a k).left b k := Sm (by omega) _ _
 rw [e1, e2]
 cases (eval n a k).v with
 | none => rfl
 | some u =>
  simp only
  cases (eval (eval n a k).left b k).v with
  | none => rfl
  | some w =>
   simp only
   split
   ·exact Sm (by omega) _ _
   ·rfl
theorem Io (n : Nat) (a b c : Ex) (k : KE) : eval (n + 1) (.ite a b c) k =
  match (eval n a k).v with
  | none => eval n a k
  | some (.num s) => eval (eval n a k).left (if s = [48] then b else c) k
  | some _ => ⟨none, (eval n a k).left, true⟩ := by
 have h1 := Cv n a k
 show ev (n + 1 + 1) (n + 1) (.ite a b c) k = _
 rw [ev]
 have e1 : ev (n + 1) n a k = eval n a k := rfl
 rw [e1]
 split
 ·rfl
 ·exact Sm (by omega) _ _
 ·rfl
theorem Jz (n : Nat) (x : Ap) (a b : Ex) (k : KE) : eval (n + 1) (.lt x a b) k =
  match (eval n a k).v with
  | none => eval n a k
  | some u => eval (eval n a k).left b (.cons x u k) := by
 have h1 := Cv n a k
 show ev (n + 1 + 1) (n + 1) (.lt x a b) k = _
 rw [ev]
 have e1 : ev (n + 1) n a k = eval n a k := rfl
 rw [e1]
 split
 ·rfl
 ·exact Sm (by omega) _ _
theorem J8 (n : Nat) (o : U2) (a : Ex) (k : KE) : eval (n + 1) (.un o a) k =
  match (eval n a k).v with
  | none => eval n a k
  | some u => .of (o.act u) (eval n a k).left := rfl
mutual
def KV.ex : KV → Ex
 | .num s => .num s
 | .pair a b => .bin .pair a.ex b.ex
 | .clo f x s t b r => .fn f x s t (r.cl [f, x] b)
def KE.cl : KE → List Ap → Ex → Ex
 | .nil, _, e => e
 | .cons n v up, bd, e => up.cl bd (e.putIf n v.ex bd)
end
def KE.dom : KE → List Ap
 | .nil => []
 | .cons n _ up => n :: up.dom
mutual
def KV.wf : KV → Prop
 | .num s => By s = true
 | .pair a b => a.wf ∧ b.wf
 | .clo f x s t b r => r.wf ∧ (Ex.fn f x s t b).ok = true ∧ ∀ y ∈ b.occ [], y ∈ [f, x] ∨ y ∈ r.dom
def KE.wf : KE → Prop
 | .nil => True
 | .cons n v up => Bv n = true ∧ v.wf ∧ up.wf
end
theorem Yv (s n : Ap) (v : Ex) (a : List Ap) : (Ex.num s).putIf n v a = .num s := by unfold Ex.putIf; split <;> rfl
theorem Zj : ∀ (r : KE) (bd : List Ap) (s : Ap), r.cl bd (.num s) = .num s
 | .nil, _, _ => rfl
 | .cons n v up, bd, s => by rw [KE.cl, Yv]; exact Zj up bd s
theorem Zh : ∀ (r : KE) (bd : List Ap) (o : B5) (a b : Ex), r.cl bd (.bin o a b) = .bin o (r.cl bd a) (r.cl bd b)
 | .nil, _, _, _, _ => rfl
 | .cons n v up, bd, o, a, b => by rw [KE.cl, Rp]; exact Zh up bd o _ _
theorem Zi : ∀ (r : KE) (bd : List Ap) (a b c : Ex), r.cl bd (.ite a b c) = .ite (r.cl bd a) (r.cl bd b) (r.cl bd c)
 | .nil, _, _, _, _ => rfl
 | .cons n v up, bd, a, b, c => by rw [KE.cl, Rq]; exact Zi up bd _ _ _
theorem Aca : ∀ (r : KE) (bd : List Ap) (o : U2) (a : Ex), r.cl bd (.un o a) = .un o (r.cl bd a)
 | .nil, _, _, _ => rfl
 | .cons n v up, bd, o, a => by rw [KE.cl, U8]; exact Aca up bd o _
theorem Ab9 : ∀ (r : KE) (bd : List Ap) (x : Ap) (a b : Ex), r.cl bd (.lt x a b) = .lt x (r.cl bd a) (r.cl (bd ++ [x]) b)
 | .nil, _, _, _, _ => rfl
 | .cons n v up, bd, x, a, b => by rw [KE.cl, U7]; exact Ab9 up bd x _ _
theorem Ab8 : ∀ (r : KE) (bd : List Ap) (f x : Ap) (s t : Ty) (b : Ex), r.cl bd (.fn f x s t b) = .fn f x s t (r.cl (bd ++ [f, x]) b)
 | .nil, _, _, _, _, _, _ => rfl
 | .cons n v up, bd, f, x, s, t, b => by rw [KE.cl, U6]; exact Ab8 up bd f x s t _
theorem F8 {n x : Ap} {v w : Ex} (hv : v.occ [] = []) (hw : w.occ [] = []) (h : n ≠ x) : ∀ e : Ex, (e.put n v).put x w = (e.put x w).put n v
 | .num _ => rfl
 | .name s => by
  simp only [Ex.put]
  by_cases h1 : s = n
  ·have h2 : ¬ s = x := fun e => h (h1.symm.trans e)
   simp only [h1, if_true, if_neg h, Ex.put]
   rw [Ex.put_id (by rw [hv]; simp)]
  ·by_cases h2 : s = x
   ·simp only [h2, if_true, if_neg (Ne.symm h), Ex.put]
    rw [Ex.put_id (by rw [hw]; simp)]
   ·simp only [h1, h2, if_false, Ex.put]
 | .bin o a b => by simp only [Ex.put, F8 hv hw h a, F8 hv hw h b]
 | .ite a b c => by simp only [Ex.put, F8 hv hw h a, F8 hv hw h b, F8 hv hw h c]
 | .lt y a b => by
  simp only [Ex.put, F8 hv hw h a]
  by_cases h1 : y = n
  ·by_cases h2 : y = x
   ·simp only [h1, h2, if_true]
   ·simp only [h1, if_true]
  ·by_cases h2 : y = x
   ·simp only [h2, if_true]
   ·simp only [h1, h2, if_false, F8 hv hw h b]
 | .fn f y s t b => by
  simp only [Ex.put]
  by_cases h1 : f = n ∨ y = n
  ·by_cases h2 : f = x ∨ y = x
   ·simp only [if_pos h1, if_pos h2]
   ·simp only [if_pos h1, if_neg h2]
  ·by_cases h2 : f = x ∨ y = x
   ·simp only [if_pos h2, if_neg h1]
   ·simp only [if_neg h1, if_neg h2, F8 hv hw h b]
 | .un o a => by simp only [Ex.put, F8 hv hw h a]
theorem Td {e : Ex} (h : e.occ [] = []) (n : Ap) (v : Ex) (bd : List Ap) : e.putIf n v bd = e := by
 unfold Ex.putIf
 split
 ·rfl
 ·exact Ex.put_id (by rw [h]; simp)
theorem Q3 : ∀ (r : KE) (bd : List Ap) {e : Ex}, e.occ [] = [] → r.cl bd e = e
 | .nil, _, _, _ => rfl
 | .cons n v up, bd, e, h => by rw [KE.cl, Td h]; exact Q3 up bd h
theorem Tz : ∀ (r : KE) {bd bd' : List Ap} (_ : ∀ n, n ∈ bd ↔ n ∈ bd') (e : Ex), r.cl bd e = r.cl bd' e
 | .nil, _, _, _, _ => rfl
 | .cons n v up, bd, bd', h, e => by
  rw [KE.cl, KE.cl]
  have : e.putIf n v.ex bd = e.putIf n v.ex bd' := by
   by_cases hn : n ∈ bd
   ·rw [It hn, It ((h n).1 hn)]
   ·rw [Ew hn, Ew (fun h' => hn ((h n).2 h'))]
  rw [this]; exact Tz up h _
mutual
theorem KV.closed : ∀ {v : KV}, v.wf → v.ex.occ [] = [] ∧ v.ex.value = true ∧ v.ex.ok = true
 | .num s, h => ⟨rfl, rfl, h⟩
 | .pair a b, h => by
  have h1 := KV.closed h.1
  have h2 := KV.closed h.2
  exact ⟨by simp only [KV.ex, Ex.occ, h1.1, h2.1, List.append_nil], by simp only [KV.ex, Ex.value, h1.2.1, h2.2.1, Bool.and_self], by simp only [KV.ex, Ex.ok, h1.2.2, h2.2.2, Bool.and_self]⟩
 | .clo f x s t b r, h => by
  have hok := h.2.1
  simp only [Ex.ok, Bool.and_eq_true] at hok
  obtain ⟨h1, h2⟩ := KE.closed h.1 [f, x] b hok.2; refine ⟨?_, rfl, ?_⟩
  ·show (r.cl [f, x] b).occ ([] ++ [f, x]) = []
   rw [Qb]; intro y hy; obtain ⟨hy1, hy2⟩ := h1 y hy
   rcases h.2.2 y hy1 with h3 | h3
   ·exact h3
   ·rcases hy2 with h4 | h4
    ·exact h4
    ·exact absurd h3 h4
  ·simp only [KV.ex, Ex.ok, Bool.and_eq_true]
   exact ⟨hok.1, h2⟩
theorem KE.closed : ∀ {r : KE}, r.wf → ∀ (bd : List Ap) (e : Ex), e.ok = true → (∀ y ∈ (r.cl bd e).occ [], y ∈ e.occ [] ∧ (y ∈ bd ∨ y ∉ r.dom)) ∧ (r.cl bd e).ok = true
 | .nil, _, bd, e, he => ⟨fun y hy => ⟨hy, .inr (by simp [KE.dom])⟩, he⟩
 | .cons n v up, h, bd, e, he => by
  have hv := KV.closed h.2.1
  have hok : (e.putIf n v.ex bd).ok = true := by
   unfold Ex.putIf
   split
   ·exact he
   ·exact Ex.put_ok he hv.2.2
  obtain ⟨h1, h2⟩ := KE.closed h.2.2 bd (e.putIf n v.ex bd) hok; refine ⟨fun y hy => ?_, h2⟩; obtain ⟨h3, h4⟩ := h1 y hy
  by_cases hn : n ∈ bd
  ·rw [It hn] at h3; refine ⟨h3, ?_⟩
   rcases h4 with h4 | h4
   ·exact .inl h4
   ·by_cases hyn : y = n
    ·exact .inl (hyn ▸ hn)
    ·exact .inr (by simp only [KE.dom, List.mem_cons, not_or]; exact ⟨hyn, h4⟩)
  ·rw [Ew hn] at h3; obtain ⟨h5, h6⟩ := (Ex.put_occ hv.1).1 h3; refine ⟨h5, ?_⟩
   rcases h4 with h4 | h4
   ·exact .inl h4
   ·exact .inr (by simp only [KE.dom, List.mem_cons, not_or]; exact ⟨h6, h4⟩)
end
theorem Nb : ∀ {r : KE} (_ : r.wf) {bd : List Ap} {x : Ap} {w : Ex} (_ : w.occ [] = []) (_ : x ∉ bd) (e : Ex), r.cl bd (e.put x w) = (r.cl (bd ++ [x]) e).put x w
 | .nil, _, _, _, _, _, _, _ => rfl
 | .cons n v up, h, bd, x, w, hw, hx, e => by
  have hv := (KV.closed h.2.1).1
  rw [KE.cl, KE.cl]
  by_cases hn : n ∈ bd
  ·rw [It hn, It (show n ∈ bd ++ [x] by simp [hn])]
   exact Nb h.2.2 hw hx e
  ·rw [Ew hn]
   by_cases hnx : n = x
   ·subst hnx; rw [It (show n ∈ bd ++ [n] by simp)]; rw [Ex.put_id (e := e.put n w) (by rw [Ex.put_occ hw]; simp)]
    exact Nb h.2.2 hw hx e
   ·rw [Ew (show n ∉ bd ++ [x] by simp [hn, hnx]), F8 hw hv (Ne.symm hnx)]
    exact Nb h.2.2 hw hx _
theorem W7 : ∀ {r : KE} (_ : r.wf) (s : Ap), (∀ v, r.look s = some v → r.cl [] (.name s) = v.ex ∧ v.wf) ∧ (r.look s = none → s ∉ r.dom)
 | .nil, _, s => ⟨fun v hv => (by cases hv), fun _ => (by simp [KE.dom])⟩
 | .cons n v up, h, s => by
  simp only [KE.look, KE.cl]
  by_cases hn : n = s
  ·subst hn; refine ⟨fun u hu => ?_, fun hu => by rw [if_pos rfl] at hu; cases hu⟩; rw [if_pos rfl] at hu; obtain rfl := Option.some.inj hu; rw [Ew (by simp)]
   simp only [Ex.put, if_true]
   exact ⟨Q3 up [] (KV.closed h.2.1).1, h.2.1⟩
  ·rw [if_neg hn, Ew (by simp)]
   simp only [Ex.put, if_neg (Ne.symm hn)]
   obtain ⟨h1, h2⟩ := W7 h.2.2 s
   exact ⟨h1, fun hu => by simp only [KE.dom, List.mem_cons, not_or]; exact ⟨Ne.symm hn, h2 hu⟩⟩
inductive Goes : Ex → Ex → Prop
 | refl {e : Ex} : Goes e e
 | next {e d f : Ex} : e.step = some d → Goes d f → Goes e f
theorem Goes.trans {a b c : Ex} (h : Goes a b) (h' : Goes b c) : Goes a c := by
 induction h with
 | refl => exact h'
 | next hs _ ih => exact .next hs (ih h')
theorem Hk {e d : Ex} (h : e.step = some d) : e.value = false := by
 cases hv : e.value with
 | false => rfl
 | true => rw [W1 hv] at h; cases h
theorem Goes.bin1 {o : B5} {a a' b : Ex} (h : Goes a a') : Goes (.bin o a b) (.bin o a' b) := by
 induction h with
 | refl => exact .refl
 | next hs _ ih => exact .next (by simp only [Ex.step, Hk hs, if_true, hs, Option.map_some]) ih
theorem Goes.bin2 {o : B5} {a b b' : Ex} (ha : a.value = true) (h : Goes b b') : Goes (.bin o a b) (.bin o a b') := by
 induction h with
 | refl => exact .refl
 | next hs _ ih => exact .next (by simp only [Ex.step, ha, Bool.true_eq_false, if_false, Hk hs, if_true, hs, Option.map_some]) ih
theorem Goes.ite1 {a a' b c : Ex} (h : Goes a a') : Goes (.ite a b c) (.ite a' b c) := by
 induction h with
 | refl => exact .refl
 | next hs _ ih => exact .next (by simp only [Ex.step, Hk hs, if_true, hs, Option.map_some]) ih
theorem Goes.lt1 {x : Ap} {a a' b : Ex} (h : Goes a a') : Goes (.lt x a b) (.lt x a' b) := by
 induction h with
 | refl => exact .refl
 | next hs _ ih => exact .next (by simp only [Ex.step, Hk hs, if_true, hs, Option.map_some]) ih
theorem Goes.un1 {o : U2} {a a' : Ex} (h : Goes a a') : Goes (.un o a) (.un o a') := by
 induction h with
 | refl => exact .refl
 | next hs _ ih => exact .next (by simp only [Ex.step, Hk hs, if_true, hs, Option.map_some]) ih
theorem Goes.end {e v d : Ex} (h : Goes e v) (hv : v.step = none) (h' : Goes e d) (hd : d.step = none) : v = d := by
 induction h with
 | refl =>
  cases h' with
  | refl => rfl
  | next hs _ => rw [hv] at hs; cases hs
 | next hs _ ih =>
  cases h' with
  | refl => rw [hd] at hs; cases hs
  | next hs' h2 =>
   rw [hs] at hs'; obtain rfl := Option.some.inj hs'
   exact ih hv h2
def Ex.jam (e : Ex) : Prop := e.value = false ∧ e.step = none
theorem Aag {o : B5} {a b : Ex} (h : a.jam) : (Ex.bin o a b).jam := ⟨by cases o <;> simp [Ex.value, h.1], by simp only [Ex.step, h.1, if_true, h.2, Option.map_none]⟩
theorem Aah {o : B5} {a b : Ex} (ha : a.value = true) (h : b.jam) : (Ex.bin o a b).jam := ⟨by cases o <;> simp [Ex.value, h.1], by simp only [Ex.step, ha, Bool.true_eq_false, if_false, h.1, if_true, h.2, Option.map_none]⟩
theorem Abt {a b c : Ex} (h : a.jam) : (Ex.ite a b c).jam := ⟨rfl, by simp only [Ex.step, h.1, if_true, h.2, Option.map_none]⟩
theorem Acx {x : Ap} {a b : Ex} (h : a.jam) : (Ex.lt x a b).jam := ⟨rfl, by simp only [Ex.step, h.1, if_true, h.2, Option.map_none]⟩
theorem Acy {o : U2} {a : Ex} (h : a.jam) : (Ex.un o a).jam := ⟨rfl, by simp only [Ex.step, h.1, if_true, h.2, Option.map_none]⟩
def Res.says (r : Res) (e : Ex) : Prop := match r.v with
 | some w => w.wf ∧ Goes e w.ex ∧ r.stuck = false
 | none => r.stuck = true → ∃ d, Goes e d ∧ d.jam
theorem Res.says.from {r : Res} {e e' : Ex} (h : r.says e') (hg : Goes e e') : r.says e := by
 unfold Res.says at h ⊢
 split at h
 ·exact ⟨h.1, hg.trans h.2.1, h.2.2⟩
 ·intro hs; obtain ⟨d, h1, h2⟩ := h hs; exact ⟨d, hg.trans h1, h2⟩
theorem Res.says.up {r : Res} {e e' : Ex} (hn : r.v = none) (h : r.says e') (hg : ∀ d, Goes e' d → d.jam → ∃ d', Goes e d' ∧ d'.jam) : r.says e := by
 unfold Res.says at h ⊢
 rw [hn] at h ⊢; intro hs; obtain ⟨d, h1, h2⟩ := h hs
 exact hg d h1 h2
theorem Res.says.some {r : Res} {e : Ex} {w : KV} (hn : r.v = Option.some w) (h : r.says e) : w.wf ∧ Goes e w.ex := by
 unfold Res.says at h
 rw [hn] at h
 exact ⟨h.1, h.2.1⟩
theorem Za {o : B5} {u w : KV} (hu : u.wf) (hw : w.wf) (n : Nat) (hc : ∀ f x s t b r, ¬ (o = .call ∧ u = .clo f x s t b r)) : (Res.of (o.act u w) n).says (.bin o u.ex w.ex) := by
 have vu := (KV.closed hu).2.1
 have vw := (KV.closed hw).2.1
 have hst : (Ex.bin o u.ex w.ex).step = (Ex.bin o u.ex w.ex).turn := by simp only [Ex.step, vu, vw, Bool.true_eq_false, if_false]
 cases o with
 | pair => exact ⟨⟨hu, hw⟩, .refl, rfl⟩
 | call =>
  intro _; refine ⟨_, .refl, rfl, ?_⟩; rw [hst]
  cases u with
  | num s => cases w <;> rfl
  | pair a b => rfl
  | clo f x s t b r => exact absurd ⟨rfl, rfl⟩ (hc f x s t b r)
 | _ =>
  cases u with
  | num s =>
   cases w with
   | num q => exact ⟨(Mz _ s q).1, .next (by rw [hst]; rfl) .refl, rfl⟩
   | _ => exact fun _ => ⟨_, .refl, rfl, by rw [hst]; rfl⟩
  | pair a b => exact fun _ => ⟨_, .refl, rfl, by rw [hst]; rfl⟩
  | clo f x s t b r => exact fun _ => ⟨_, .refl, rfl, by rw [hst]; cases w <;> rfl⟩
theorem Xo {o : U2} {u : KV} (hu : u.wf) (n : Nat) : (Res.of (o.act u) n).says (.un o u.ex) := by
 have vu := (KV.closed hu).2.1
 have hst : (Ex.un o u.ex).step = (Ex.un o u.ex).turn := by simp only [Ex.step, vu, Bool.true_eq_false, if_false]
 cases u with
 | pair a b =>
  cases o with
  | fst => exact ⟨hu.1, .next (by rw [hst]; rfl) .refl, rfl⟩
  | snd => exact ⟨hu.2, .next (by rw [hst]; rfl) .refl, rfl⟩
 | num s => cases o <;> exact fun _ => ⟨_, .refl, rfl, by rw [hst]; rfl⟩
 | clo f x s t b r => cases o <;> exact fun _ => ⟨_, .refl, rfl, by rw [hst]; rfl⟩
theorem Nd : ∀ (n : Nat) (e : Ex) (k : KE), k.wf → e.ok = true → (∀ y ∈ e.occ [], y ∈ k.dom) → (eval n e k).says (k.cl [] e) := by
 intro n
 induction n using Nat.strongRecOn with
 | _ n ih =>
  intro e k hk hok hd
  cases n with
  | zero => rw [Jm]; exact fun h => by cases h
  | succ n =>
   have hl := fun e k => Cv n e k
   cases e with
   | num s => rw [Jk, Zj]; exact ⟨hok, .refl, rfl⟩
   | name s =>
    rw [Jj]; obtain ⟨h1, h2⟩ := W7 hk s
    cases hs : k.look s with
    | none => exact fun h => by cases h
    | some v => obtain ⟨h3, h4⟩ := h1 v hs; rw [h3]; exact ⟨h4, .refl, rfl⟩
   | fn f x s t b =>
    rw [Le, Ab8]; refine ⟨⟨hk, hok, fun y hy => ?_⟩, .refl, rfl⟩
    by_cases hm : y ∈ [f, x]
    ·exact .inl hm
    ·exact .inr (hd y (show y ∈ b.occ ([] ++ [f, x]) from Ex.occ_mem.2 ⟨hy, by simpa using hm⟩))
   | bin o a b =>
    simp only [Ex.ok, Bool.and_eq_true] at hok
    have ha := ih n (by omega) a k hk hok.1 (fun y hy => hd y (List.mem_append_left _ hy))
    have hb := ih (eval n a k).left (by have := hl a k; omega) b k hk hok.2 (fun y hy => hd y (List.mem_append_right _ hy))
    have hlb := Cv (eval n a k).left b k
    have hla := hl a k
    rw [F6, Zh]
    cases hp : (eval n a k).v with
    | none => exact ha.up hp fun d h1 h2 => ⟨_, .bin1 h1, Aag h2⟩
    | some u =>
     obtain ⟨hu, gu⟩ := ha.some hp
     simp only
     cases hq : (eval (eval n a k).left b k).v with
     | none => exact (hb.up hq fun d h1 h2 => ⟨_, .bin2 (KV.closed hu).2.1 h1, Aah (KV.closed hu).2.1 h2⟩ : Res.says _ (.bin o u.ex (k.cl [] b))).from gu.bin1
     | some w =>
      obtain ⟨hw, gw⟩ := hb.some hq
      have g2 : Goes (.bin o (k.cl [] a) (k.cl [] b)) (.bin o u.ex w.ex) := gu.bin1.trans (.bin2 (KV.closed hu).2.1 gw)
      simp only
      split
      ·rename_i o' u' f x s t c r
       have hcl := hu
       obtain ⟨hr, hfok, hfd⟩ := hu
       have hfok' := hfok
       simp only [Ex.ok, Bool.and_eq_true, decide_eq_true_eq] at hfok'
       obtain ⟨⟨⟨⟨⟨nf, nx⟩, hfx⟩, _⟩, _⟩, hcok⟩ := hfok'; refine (ih _ (by omega) c (.cons x w (.cons f (.clo f x s t c r) r)) ⟨nx, hw, nf, hcl, hr⟩ hcok (fun y hy => ?_)).from (g2.trans (.next ?_ .refl))
       ·simp only [KE.dom, List.mem_cons]
        rcases hfd y hy with h | h
        ·simp only [List.mem_cons, List.not_mem_nil, or_false] at h
         rcases h with h | h
         ·exact .inr (.inl h)
         ·exact .inl h
        ·exact .inr (.inr h)
       ·have vw := (KV.closed hw).2.1
        simp only [Ex.step, (KV.closed hcl).2.1, vw, Bool.true_eq_false, if_false]
        show some (((r.cl [f, x] c).put f (KV.clo f x s t c r).ex).put x w.ex) = _
        congr 1
        simp only [KE.cl]
        rw [Ew (by simp), Ew (by simp)]; rw [F8 (KV.closed hw).1 (KV.closed hcl).1 (Ne.symm hfx)]; rw [Nb hr (KV.closed hw).1 (by simp), Nb hr (KV.closed hcl).1 (by simpa using hfx)]; rw [Tz r (bd := [f, x]) (bd' := [] ++ [x] ++ [f]) (by intro n; simp [or_comm])]
      ·rename_i hno
       exact (Za hu hw _ (fun f x s t c r h => hno f x s t c r h.1 h.2)).from g2
   | ite a b c =>
    simp only [Ex.ok, Bool.and_eq_true] at hok
    have ha := ih n (by omega) a k hk hok.1.1 (fun y hy => hd y (List.mem_append_left _ (List.mem_append_left _ hy)))
    have hla := hl a k
    rw [Io, Zi]
    split
    ·rename_i hp; exact ha.up hp fun d h1 h2 => ⟨_, .ite1 h1, Abt h2⟩
    ·rename_i s hp
     obtain ⟨hu, gu⟩ := ha.some hp
     have hst : (Ex.ite (.num s) (k.cl [] b) (k.cl [] c)).step = some (k.cl [] (if s = [48] then b else c)) := by
      simp only [Ex.step, Ex.value, Bool.true_eq_false, if_false, Ex.turn]
      split <;> rfl
     refine (ih _ (by omega) _ k hk ?_ ?_).from (gu.ite1.trans (.next hst .refl))
     ·split
      ·exact hok.1.2
      ·exact hok.2
     ·split
      ·exact fun y hy => hd y (List.mem_append_left _ (List.mem_append_right _ hy))
      ·exact fun y hy => hd y (List.mem_append_right _ hy)
    ·rename_i u hno hp
     obtain ⟨hu, gu⟩ := ha.some hp; intro _; refine ⟨_, gu.ite1, rfl, ?_⟩
     simp only [Ex.step, (KV.closed hu).2.1, Bool.true_eq_false, if_false]
     cases u with
     | num s => exact absurd rfl (hno s)
     | pair a b => rfl
     | clo f x s t b r => rfl
   | lt x a b =>
    simp only [Ex.ok, Bool.and_eq_true] at hok
    have ha := ih n (by omega) a k hk hok.1.2 (fun y hy => hd y (List.mem_append_left _ hy))
    have hla := hl a k
    rw [Jz, Ab9]
    split
    ·rename_i hp; exact ha.up hp fun d h1 h2 => ⟨_, .lt1 h1, Acx h2⟩
    ·rename_i u hp
     obtain ⟨hu, gu⟩ := ha.some hp; refine (ih _ (by omega) b (.cons x u k) ⟨hok.1.1, hu, hk⟩ hok.2 (fun y hy => ?_)).from (gu.lt1.trans (.next ?_ .refl))
     ·simp only [KE.dom, List.mem_cons]
      by_cases hyx : y = x
      ·exact .inl hyx
      ·exact .inr (hd y (List.mem_append_right _ (show y ∈ b.occ ([] ++ [x]) from Ex.occ_mem.2 ⟨hy, by simpa using hyx⟩)))
     ·simp only [Ex.step, (KV.closed hu).2.1, Bool.true_eq_false, if_false, Ex.turn, KE.cl]
      rw [Ew (by simp), Nb hk (KV.closed hu).1 (by simp)]
   | un o a =>
    have ha := ih n (by omega) a k hk hok (fun y hy => hd y hy)
    rw [J8, Aca]
    split
    ·rename_i hp; exact ha.up hp fun d h1 h2 => ⟨_, .un1 h1, Acy h2⟩
    ·rename_i u hp
     obtain ⟨hu, gu⟩ := ha.some hp
     exact (Xo hu _).from gu.un1
section
variable {P : Program} {f : FuncId} {n : Nat} {I₀ : Heap} {Q : Cs} {k : List Item} {E : Gm} {I : Heap} {L : Bh} {ops : Array Oper} {d : Nat} {ty : TypeId} {pos : String} {af : Array Edge} {g : Option (Nat × Bool)} {l : List Oper}
theorem Vb {T e sz bb : Nat} {z : List Value} [ht : Aq P T (.pointer e) sz bb z] (p : Option Addr) (w : World) : (Op.equal T (.pointer p) (.pointer none)).run P w = .ok p.isNone w := by
 refine run_equal_pointer_nil w T p ?_; rw [ht.und]; unfold Program.pointee; rw [ht.und]
theorem Yy {S : World → Prop} {T T' e sz bb : Nat} {z : List Value} [ht : Aq P T (.pointer e) sz bb z] {x y : Operand} {oa : Option Addr} (hx : A7 E x = some (.pointer oa)) (hy : A7 E y = some (.pointer none)) :
  Gn P E S ⟨some d, .binOp .eql T x y T', ty, pos, af, g⟩ (.bool oa.isNone) := fun ac w he _ => by
 simp only [execOp, he.eval hx, he.eval hy]
 refine Ac (a := _) (w' := w) ?_ |>.trans rfl
 rw [Ac (Gp w)]
 simp only [binOp]
 exact Ac (Vb oa w) |>.trans rfl
theorem Gd {T T' e sz bb : Nat} {z : List Value} [ht : Aq P T (.pointer e) sz bb z] {x y : Operand} {oa : Option Addr} (hx : A7 E x = some (.pointer oa)) (hy : A7 E y = some (.pointer none)) (hg : Wants ops E g) (hdn : Nat.blt d n = true)
  (h : A4 P f n I₀ Q ops l k ((d, .bool oa.isNone) :: E) I L) : A4 P f n I₀ Q ops (⟨some d, .binOp .eql T x y T', ty, pos, af, g⟩ :: l) k E I L := Dr (Yy hx hy) hg hdn h
theorem Y1 {S : World → Prop} {T T' e sz bb : Nat} {z : List Value} [ht : Aq P T (.pointer e) sz bb z] {x y : Operand} {oa : Option Addr} (hx : A7 E x = some (.pointer oa)) (hy : A7 E y = some (.pointer none)) :
  Gn P E S ⟨some d, .binOp .neq T x y T', ty, pos, af, g⟩ (.bool (!oa.isNone)) := fun ac w he _ => by
 simp only [execOp, he.eval hx, he.eval hy]
 refine Ac (a := _) (w' := w) ?_ |>.trans rfl
 rw [Ac (Gp w)]
 simp only [binOp]
 exact Ac (Vb oa w) |>.trans rfl
theorem Lk {T T' e sz bb : Nat} {z : List Value} [ht : Aq P T (.pointer e) sz bb z] {x y : Operand} {oa : Option Addr} (hx : A7 E x = some (.pointer oa)) (hy : A7 E y = some (.pointer none)) (hg : Wants ops E g) (hdn : Nat.blt d n = true)
  (h : A4 P f n I₀ Q ops l k ((d, .bool (!oa.isNone)) :: E) I L) : A4 P f n I₀ Q ops (⟨some d, .binOp .neq T x y T', ty, pos, af, g⟩ :: l) k E I L := Dr (Y1 hx hy) hg hdn h
theorem Y2 {S : World → Prop} {T T' e sz bb : Nat} {z : List Value} [ht : Aq P T (.slice e) sz bb z] {x y : Operand} {oa : Option Addr} {m c : Nat} (hx : A7 E x = some (.slice oa m c)) (hy : A7 E y = some (.slice none 0 0)) :
  Gn P E S ⟨some d, .binOp .neq T x y T', ty, pos, af, g⟩ (.bool (!oa.isNone)) := fun ac w he _ => by
 simp only [execOp, he.eval hx, he.eval hy]
 refine Ac (a := _) (w' := w) ?_ |>.trans rfl
 rw [Ac (Ja w)]
 have h : ∀ d : Nat, (Op.equalIn (d + 1) T (.slice oa m c) (.slice none 0 0)).run P w = .ok oa.isNone w := fun d => by
  unfold Op.equalIn
  rw [Ac (A8 ht.und w)]
  cases oa <;> rfl
 simp only [binOp, Op.equal]
 exact Ac (h 9999) |>.trans rfl
theorem Nr {T T' e sz bb : Nat} {z : List Value} [ht : Aq P T (.slice e) sz bb z] {x y : Operand} {oa : Option Addr} {m c : Nat} (hx : A7 E x = some (.slice oa m c)) (hy : A7 E y = some (.slice none 0 0)) (hg : Wants ops E g) (hdn : Nat.blt d n = true)
  (h : A4 P f n I₀ Q ops l k ((d, .bool (!oa.isNone)) :: E) I L) : A4 P f n I₀ Q ops (⟨some d, .binOp .neq T x y T', ty, pos, af, g⟩ :: l) k E I L := Dr (Y2 hx hy) hg hdn h
end
mutual
inductive KVat : Heap → KV → Addr → Prop
 | num {I : Heap} {s : Ap} {a : Addr} (h : Still I a [.string (str s), .slice none 0 0, .pointer none, .pointer none]) : KVat I (.num s) a
 | pair {I : Heap} {u v : KV} {a q pu pv : Addr} {c : Nat} (h : Still I a [.string (str []), .slice (some q) 2 c, .pointer none, .pointer none]) (hq : Still I q [.pointer (some pu), .pointer (some pv)]) (hc : 2 ≤ c) (hu : KVat I u pu) (hv : KVat I v pv) : KVat I (.pair u v) a
 | clo {I : Heap} {f x : Ap} {s t : Ty} {b : Ex} {r : KE} {a fa o : Addr} {c : Nat} {pr : Option Addr} (h : Still I a [.string (str []), .slice none 0 0, .pointer (some fa), .pointer pr])
  (hf : Still I fa [.string (str []), .slice (some o) 6 c]) (hr : Rep I (Ex.fn f x s t b).tree [.string (str []), .slice (some o) 6 c]) (he : KEat I r pr) : KVat I (.clo f x s t b r) a
inductive KEat : Heap → KE → Option Addr → Prop
 | nil {I : Heap} : KEat I .nil none
 | cons {I : Heap} {n : Ap} {v : KV} {up : KE} {a pv : Addr} {pu : Option Addr} (h : Still I a [.string (str n), .pointer (some pv), .pointer pu]) (hv : KVat I v pv) (hu : KEat I up pu) : KEat I (.cons n v up) (some a)
end
mutual
theorem KVat.mono {I I' : Heap} (hle : HLe I I') : ∀ {v : KV} {a : Addr}, KVat I v a → KVat I' v a
 | _, _, .num h => .num (h.mono hle)
 | _, _, .pair h hq hc hu hv => .pair (h.mono hle) (hq.mono hle) hc (hu.mono hle) (hv.mono hle)
 | _, _, .clo h hf hr he => .clo (h.mono hle) (hf.mono hle) (hr.mono hle) (he.mono hle)
theorem KEat.mono {I I' : Heap} (hle : HLe I I') : ∀ {r : KE} {p : Option Addr}, KEat I r p → KEat I' r p
 | _, _, .nil => .nil
 | _, _, .cons h hv hu => .cons (h.mono hle) (hv.mono hle) (hu.mono hle)
end
def RP? (I : Heap) (o : Option KV) (p : Option Addr) : Prop := match o with
 | some w => ∃ x, p = some x ∧ KVat I w x
 | none => p = none
def KL (o : Option KV) (I : Heap) (L : Bh) : Cs := fun v I' L' => ∃ p, v = .pointer p ∧ RP? I o p ∧ I = I' ∧ L = L'
theorem Ue {I : Heap} {r : KE} {p : Option Addr} (h : KEat I r p) (n : Ap) (L : Bh) : Fun Tryz.prog 90 [.pointer p, .string (str n)] I L (KL (r.look n) I L) := by
 refine Ag (by simp) ?_; refine Se rfl (Oa rfl (Aa (Ab (Aj ?_)))); refine Dv (X := KE × Option Addr) (fun x => SizeOf.sizeOf x.1) (fun x => [(0, .pointer x.2), (1, .string (str n))]) (fun _ => I) (fun _ => L) (fun x => KEat I x.1 x.2 ∧ x.1.look n = r.look n) ⟨r, p⟩ ⟨h, rfl⟩ ⟨rfl, rfl, trivial⟩ (fun _ h => h) ?_; rintro ⟨k, q⟩ ⟨hk, hlk⟩ ih
 simp only at hk hlk ih ⊢
 refine Ab (Ab ?_)
 rcases hk with _ | @⟨m, v, up, a, pv, pu, hst, hv, hu⟩
 ·skip
  refine Af rfl (Om rfl ?_); refine Lk rfl rfl .free rfl ?_; refine Aa ?_
  first | refine Sf rfl (by simp) ?_ | refine Al (by simp [look, A7, *]) ?_
  refine Bz rfl ?_; refine Se rfl (Oa rfl (Aa (Ad (.tmp rfl .nil) ?_))); refine ⟨I, L, .refl _, fun _ h => h, none, rfl, ?_, rfl, rfl⟩; rw [← hlk]; exact rfl
 ·skip
  refine Af rfl (Om rfl ?_); refine Lk rfl rfl .free rfl ?_; refine Aa ?_
  first | refine St rfl (by simp) ?_ | refine Bj (by simp [look, A7, *]) ?_
  refine Ae (Ab (Aj (Se rfl (Om rfl ?_)))); refine Av rfl .free rfl ?_
  first | refine Oh rfl ?_ | refine Oj rfl ?_
  refine F4 rfl .free rfl ?_; refine Om rfl (Od rfl rfl rfl (Aa ?_)); refine As rfl ?_ ?_
  ·intro c1
   try simp only [nb] at c1
   refine Se rfl (Om rfl ?_); refine Av rfl .free rfl ?_
   first | refine Oh rfl ?_ | refine Oj rfl ?_
   refine F4 rfl .free rfl ?_; refine Oa rfl (Aa (Ad (.tmp rfl .nil) ?_)); refine ⟨I, L, .refl _, fun _ h => h, some pv, rfl, ?_, rfl, rfl⟩; rw [← hlk, KE.look, if_pos c1]; exact ⟨pv, rfl, hv⟩
  intro c1
  try simp only [nb] at c1
  have hlu : up.look n = r.look n := by rw [← hlk, KE.look, if_neg c1]
  refine Ae (Ak (Af rfl (Om rfl ?_))); refine Av rfl .free rfl ?_
  first | refine Oh rfl ?_ | refine Oj rfl ?_
  refine F4 rfl .free rfl ?_; refine Oa rfl (Aa ?_)
  exact Bp (E' := [(0, .pointer pu), (1, .string (str n))]) ⟨rfl, rfl, trivial⟩ (ih (up, pu) ⟨hu, hlu⟩ (by simp only [KE.cons.sizeOf_spec]; omega))
def Q7 (b n : Nat) (st : Bool) : Nat × Obj := (b, .cells [.int .i64 (n : Nat), .bool st].toArray 63 (0, 0))
theorem Kv {I : Heap} {r : KE} {p : Option Addr} (h : KEat I r p) (n : Ap) {v : KV} {x : Addr} (hv : KVat I v x) (L : Bh) : Fun Tryz.prog 92 [.pointer p, .string (str n), .pointer (some x)] I L (fun w I' L' => ∃ y, w = .pointer (some y) ∧ KEat I' (.cons n v r) (some y) ∧ L = L') := by
 refine Ag (by simp) ?_; refine Se rfl (Oa rfl (Aa (Se rfl ?_)))
 iterate 3 refine Om rfl ?_
 refine Bt rfl rfl rfl .free rfl ?_; refine B7 rfl rfl .free rfl ?_; intro b11; refine Oa rfl (Aa ?_); refine Bi ?_; intro hz; refine Ad (.tmp rfl .nil) ?_
 exact ⟨_, L, hz, fun _ h => h, _, rfl, .cons (Be (xs := [_, _, _]) (ys := [])) (hv.mono hz) (h.mono hz), rfl⟩
theorem Ec (I : Heap) (b n : Nat) (L : Bh) : Fun Tryz.prog 91 [.pointer (some ⟨b, 0, none⟩)] I (Q7 b n false :: L) (fun v I' L' => v = .pointer none ∧ I = I' ∧ L' = Q7 b n true :: L) := by
 unfold Q7
 refine Ag (by simp) ?_; refine Se rfl (Oa rfl (Aa (Se rfl (Om rfl ?_)))); refine Av rfl .free rfl ?_
 first | refine Oh rfl ?_ | refine Oj rfl ?_
 refine Bn rfl rfl rfl rfl .free ?_; refine Aa (Se rfl (Oa rfl (Aa (Ad (.tmp rfl .nil) ?_))))
 exact ⟨I, _, .refl _, fun _ h => h, rfl, rfl, rfl⟩
section
variable {P : Program} {f : FuncId} {n : Nat} {I₀ : Heap} {Q : Cs} {k : List Item} {E : Gm} {I : Heap} {L : Bh} {ops : Array Oper} {d : Nat} {ty : TypeId} {pos : String} {af : Array Edge} {g : Option (Nat × Bool)}
theorem Adc {S : World → Prop} {fuel : Nat} {listed listed' : Array Bool} (i : Nat) {T : TypeId} {x : Operand} {v : Value} {vs : List Value}
  (hi : ops[i]? = some ⟨some d, .box T x, ty, pos, af, g⟩) (hc : decide (Region.ready .any ops listed = [i]) = true) (hl : listed' = listed.setIfInBounds i true) (hx : A7 E x = some v) (hv : Fc v = some vs) (hg : Wants ops E g) (hdn : Nat.blt d n = true) (hS : Eu ops listed' = true ∨ ∀ w, Mem I L w → S w)
  (h : ∀ b, Cq P f n I₀ Q ops S fuel listed' k ((d, .pointer (some ⟨b, 0, none⟩)) :: E) I ((b, .cells vs.toArray T (0, 0)) :: L)) : Cq P f n I₀ Q ops S (fuel + 1) listed k E I L :=
 Sc [i] hc rfl fun j hj => by
  obtain rfl := List.mem_singleton.1 hj; refine Li j hi hl rfl hdn (fun a he => hg.wanted a he) fun a w he hm => ?_
  refine ⟨_, _, I, (w.heap.size, .cells vs.toArray T (0, 0)) :: L, ?_, hm.alloc _, hS.imp id fun hs w' hm' => hs w' hm'.drop, h _⟩
  simp only [execOp, Instr.box, he.eval hx, newVar, newRow, newObj, Hv hv]
  rfl
end
theorem Still.cellAt {I : Heap} {a : Addr} {vs : List Value} (h : Still I a vs) (k : Nat) {v : Value} (hk : vs[k]? = some v) : Still I (a.add k) [v] := by
 rcases h with h | ⟨c, T, fr, hb, hs, hc⟩
 ·subst h; simp at hk
 ·have hlt : k < vs.length := by
   rcases Nat.lt_or_ge k vs.length with g | g
   ·exact g
   ·rw [List.getElem?_eq_none g] at hk; cases hk
  have hb' : I.get (a.add k).block = some (.cells c T fr) := by unfold Addr.add; split <;> exact hb
  have hs' : (a.add k).spot = none := by unfold Addr.add; split <;> simp [hs]
  have ho : (a.add k).off = a.off + k := by unfold Addr.add; split <;> simp [*]
  refine .inr ⟨c, T, fr, hb', hs', fun i hi => ?_⟩
  have h0 : i = 0 := by simpa using hi
  subst h0
  have := hc k hlt
  rw [List.getElem?_eq_getElem hlt] at hk; obtain rfl := Option.some.inj hk; rw [ho]; simpa using this
def KV.nt : KV → Ap
 | .num s => s
 | _ => []
theorem KVat.cell {I : Heap} {v : KV} {a : Addr} (h : KVat I v a) : ∃ x1 x2 x3, Still I a [.string (str v.nt), x1, x2, x3] := by
 cases h with
 | num h => exact ⟨_, _, _, h⟩
 | pair h => exact ⟨_, _, _, h⟩
 | clo h => exact ⟨_, _, _, h⟩
theorem Wk {v : KV} (hw : v.wf) (h : ¬ v.nt = []) : ∃ s, v = .num s ∧ By s = true := by
 cases v with
 | num s => exact ⟨s, rfl, hw⟩
 | pair a b => exact absurd rfl h
 | clo f x s t b r => exact absurd rfl h
theorem Wl {s : Ap} (h : By s = true) : ¬ s = [] := fun e => by subst e; cases h
theorem Y9 {o : B5} {u w : KV} (hu : u.wf) (hw : w.wf) (hp : o ≠ .pair) (h : u.nt = [] ∨ w.nt = []) : o.act u w = none := by
 cases o with
 | pair => exact absurd rfl hp
 | call => rfl
 | _ =>
  cases u with
  | num s =>
   cases w with
   | num q => exact absurd h (by intro h; rcases h with h | h; exact Wl hu h; exact Wl hw h)
   | _ => rfl
  | _ => cases w <;> rfl
def ER (b n : Nat) (o : Option KV) (L : Bh) : Cs := fun v I' L' => ∃ p, v = .pointer p ∧ RP? I' o p ∧ L' = Q7 b n o.isNone :: L
theorem Sv {I : Heap} (ht : Tab I) {o : B5} (ho : o ≠ .call) {u w : KV} (wu : u.wf) (ww : w.wf) {pu pw q : Addr} {c : Nat} (hq : Still I q [.pointer (some pu), .pointer (some pw)]) (hc : 2 ≤ c) (hu : KVat I u pu) (hw : KVat I w pw) (b n : Nat) (L : Bh) :
  Fun Tryz.prog 93 [.pointer (some ⟨b, 0, none⟩), .string (str o.txt), .slice (some q) 2 c] I (Q7 b n false :: L) (ER b n (o.act u w) L) := by
 obtain ⟨x1, x2, x3, su⟩ := hu.cell; obtain ⟨y1, y2, y3, sw⟩ := hw.cell
 have q0 : Still I (q.add (0 * 1)) [.pointer (some pu)] := hq.cellAt 0 rfl
 have q1 : Still I (q.add (1 * 1)) [.pointer (some pw)] := hq.cellAt 1 rfl
 have hfs : ¬ o.txt = [102, 115, 116] := Lr o .fst
 have hsn : ¬ o.txt = [115, 110, 100] := Lr o .snd
 refine Ag (by simp) ?_; refine Se rfl (Oa rfl (Aa (Ab (Se rfl (Om rfl (Aa (Aj (Se rfl (Od rfl rfl rfl (Oa rfl (Aa ?_))))))))))); refine As rfl ?_ ?_
 ·intro c0
  try simp only [nb] at c0
  obtain rfl : o = .pair := B5.txt_inj (o' := .pair) c0; refine Se rfl (Om rfl ?_); refine Bt rfl rfl rfl .free rfl ?_; refine B7 rfl rfl .free rfl ?_; intro b12; refine Oa rfl (Aa ?_); refine Bi ?_; intro hz; refine Ad (.tmp rfl .nil) ?_
  exact ⟨_, _, hz, fun _ h => h, _, rfl, ⟨_, rfl, .pair (Be (xs := [_, _, _, _]) (ys := [])) (hq.mono hz) hc (hu.mono hz) (hw.mono hz)⟩, rfl⟩
 intro c0
 try simp only [nb] at c0
 have hop : o ≠ .pair := fun e => c0 (by rw [e]; rfl)
 refine Ab (Se rfl (Od rfl rfl rfl (Oa rfl (Aa ?_))))
 first | refine E9 rfl (hfs) ?_ | refine E8 rfl (hfs) ?_ | refine Al (by simp [look, A7, *]) ?_
 refine Af rfl (Od rfl rfl rfl (Oa rfl (Aa ?_)))
 first | refine E9 rfl (hsn) ?_ | refine E8 rfl (hsn) ?_ | refine Al (by simp [look, A7, *]) ?_
 refine Ae (Ak (Ab (Se rfl (Om rfl ?_))))
 first | refine A5 rfl rfl 0 rfl .free rfl ?_ | refine A6 rfl rfl 0 rfl .free rfl ?_
 refine Bs rfl (A9 q0 rfl) .free rfl ?_; refine Av rfl .free rfl ?_
 first | refine Oh rfl ?_ | refine Oj rfl ?_
 refine Bs rfl (Ba su (by rfl) rfl) .free rfl ?_; refine Od rfl rfl rfl (Om rfl ?_)
 apply Fx 50 58 rfl
 ·intro g11_8 hk
  try simp only [nb] at g11_8
  refine Ow rfl ?_
  first | refine A5 rfl rfl 1 rfl (.met rfl rfl) rfl ?_ | refine A6 rfl rfl 1 rfl (.met rfl rfl) rfl ?_
  refine Bs rfl (A9 q1 rfl) (.met rfl rfl) rfl ?_; refine Av rfl (.met rfl rfl) rfl ?_
  first | refine Ax rfl (.met rfl rfl) rfl ?_ | refine Bd rfl (.met rfl rfl) rfl ?_
  refine Bs rfl (Ba sw (by rfl) rfl) (.met rfl rfl) rfl ?_; refine Cg rfl rfl rfl (.met rfl rfl) rfl ?_; refine Of rfl rfl ?_
  exact Ar 7 rfl rfl hk
 ·intro _ hk; refine A0 7 rfl ?_; refine Ot rfl rfl ?_
  exact Ar 7 rfl rfl hk
 refine Aa ?_; refine As rfl ?_ ?_
 ·intro c5
  try simp only [nb] at c5
  refine Se rfl (Om rfl ?_); refine Ca rfl (Ec _ b n _) ?_; rintro _ _ _ _ ⟨rfl, rfl, rfl⟩; refine Oa rfl (Aa (Ad (.tmp rfl .nil) ?_))
  have hno : o.act u w = none := Y9 wu ww hop c5
  exact ⟨I, _, .refl _, fun _ h => h, none, rfl, by rw [hno]; rfl, by rw [hno]; rfl⟩
 intro c5
 try simp only [nb] at c5
 obtain ⟨s, rfl, hs⟩ := Wk wu c5.1; obtain ⟨r, rfl, hr⟩ := Wk ww c5.2; refine Ae (Ab ?_); refine Dp 17 rfl rfl ?_; refine Da 0 rfl (Ah rfl) ?_; refine Da 1 rfl (Ah rfl) ?_
 first | refine Da 2 rfl (Bl rfl rfl 0 rfl) ?_ | refine Da 2 rfl (Bm rfl rfl 0 rfl) ?_
 refine Dt 3 [17] rfl (Eh rfl (A9 q0 rfl)) ?_; refine Da 4 rfl (Dn rfl) ?_
 first | refine Da 5 rfl (Ai rfl) ?_ | refine Da 5 rfl (Bb rfl) ?_
 refine Dt 6 [17] rfl (Eh rfl (Ba su (by rfl) rfl)) ?_; refine Da 7 rfl (Ah rfl) ?_
 first | refine Da 8 rfl (Bl rfl rfl 1 rfl) ?_ | refine Da 8 rfl (Bm rfl rfl 1 rfl) ?_
 refine Dt 9 [17] rfl (Eh rfl (A9 q1 rfl)) ?_; refine Da 10 rfl (Dn rfl) ?_
 first | refine Da 11 rfl (Ai rfl) ?_ | refine Da 11 rfl (Bb rfl) ?_
 refine Dt 12 [17] rfl (Eh rfl (Ba sw (by rfl) rfl)) ?_; refine Dc 13 rfl rfl (Mn ht o hs hr _) ?_; rintro _ _ _ _ ⟨rfl, rfl, rfl⟩; refine Hx ?_; refine Da 14 rfl (Hw rfl rfl rfl) ?_; refine Adc 15 rfl (by kernel_rfl) rfl rfl rfl .free rfl (.inr Ao) ?_; intro b76; refine Da 16 rfl (A2 rfl) ?_; refine At (by kernel_rfl) ?_; refine Bi ?_; intro hz; refine Ad (.tmp rfl .nil) ?_
 have hac : o.act (.num s) (.num r) = some (.num (Js o s r)) := by
  cases o <;> first | rfl | exact absurd rfl ho | exact absurd rfl hop
 rw [hac]
 exact ⟨_, _, hz, fun _ h => h, _, rfl, ⟨_, rfl, .num (Be (xs := [_, _, _, _]) (ys := []))⟩, rfl⟩
theorem Ug {I : Heap} {o : U2} {u : KV} {pu q : Addr} {c : Nat} (hq : Still I q [.pointer (some pu)]) (hu : KVat I u pu) (b n : Nat) (L : Bh) :
  Fun Tryz.prog 93 [.pointer (some ⟨b, 0, none⟩), .string (str o.txt), .slice (some q) 1 c] I (Q7 b n false :: L) (ER b n (o.act u) L) := by
 have q0 : Still I (q.add (0 * 1)) [.pointer (some pu)] := hq.cellAt 0 rfl
 have hoo : ¬ o.txt = [102, 115, 116] → o.txt = [115, 110, 100] := by
  cases o with
  | fst => exact fun h => absurd rfl h
  | snd => exact fun _ => rfl
 have hpa : ¬ o.txt = [112, 97, 105, 114] := fun h => Lr .pair o h.symm
 refine Ag (by simp) ?_; refine Se rfl (Oa rfl (Aa (Ab (Se rfl (Om rfl (Aa (Aj (Se rfl (Od rfl rfl rfl (Oa rfl (Aa ?_)))))))))))
 first | refine E9 rfl (hpa) ?_ | refine E8 rfl (hpa) ?_ | refine Al (by simp [look, A7, *]) ?_
 refine Ab (Se rfl (Od rfl rfl rfl (Oa rfl (Aa ?_)))); refine As rfl ?_ ?_
 ·intro c1
  try simp only [nb] at c1
  refine Ae ?_
  first | refine K8 rfl (by first | rfl | exact hoo c1 | decide) ?_ | refine K7 rfl (by first | rfl | exact hoo c1 | decide) ?_ | refine Bj (by simp [look, A7, *]) ?_
  refine Ab (Ab ?_)
  rcases hu with @⟨s, a, hs⟩ | @⟨u1, u2, a, q2, p1, p2, c2, hs, hq2, hc2, h1, h2⟩ | @⟨f, x, s, t, bd, r, a, fa, oo, c2, pr, hs, hf, hrp, he⟩
  ·skip
   refine Af rfl (Om rfl ?_)
   first | refine A5 rfl rfl 0 rfl .free rfl ?_ | refine A6 rfl rfl 0 rfl .free rfl ?_
   refine Bs rfl (A9 q0 rfl) .free rfl ?_; refine Av rfl .free rfl ?_
   first | refine Oh rfl ?_ | refine Oj rfl ?_
   refine Bs rfl (Ba hs (by rfl) rfl) .free rfl ?_; refine Hg rfl rfl .free rfl ?_; refine Aa ?_
   first | refine St rfl (rfl) ?_ | refine Bj (by simp [look, A7, *]) ?_
   refine Se rfl (Om rfl ?_); refine Ca rfl (Ec _ b n _) ?_; rintro _ _ _ _ ⟨rfl, rfl, rfl⟩; refine Oa rfl (Aa (Ad (.tmp rfl .nil) ?_))
   exact ⟨I, _, .refl _, fun _ h => h, none, rfl, by cases o <;> rfl, by cases o <;> rfl⟩
  ·skip
   have r0 : Still I (q2.add (0 * 1)) [.pointer (some p1)] := hq2.cellAt 0 rfl
   have r1 : Still I (q2.add (1 * 1)) [.pointer (some p2)] := hq2.cellAt 1 rfl
   refine Af rfl (Om rfl ?_)
   first | refine A5 rfl rfl 0 rfl .free rfl ?_ | refine A6 rfl rfl 0 rfl .free rfl ?_
   refine Bs rfl (A9 q0 rfl) .free rfl ?_; refine Av rfl .free rfl ?_
   first | refine Oh rfl ?_ | refine Oj rfl ?_
   refine Bs rfl (Ba hs (by rfl) rfl) .free rfl ?_; refine Hg rfl rfl .free rfl ?_; refine Aa ?_
   first | refine Sf rfl (by simp) ?_ | refine Al (by simp [look, A7, *]) ?_
   refine Ae (Ab (Se rfl (Om rfl (Od rfl rfl rfl (Aa ?_))))); refine As rfl ?_ ?_
   ·intro c4
    try simp only [nb] at c4
    refine Se rfl (Om rfl ?_)
    first | refine A5 rfl rfl 0 rfl .free rfl ?_ | refine A6 rfl rfl 0 rfl .free rfl ?_
    refine Bs rfl (A9 q0 rfl) .free rfl ?_; refine Av rfl .free rfl ?_
    first | refine Oh rfl ?_ | refine Oj rfl ?_
    refine Bs rfl (Ba hs (by rfl) rfl) .free rfl ?_
    first | refine A5 rfl rfl 0 rfl .free rfl ?_ | refine A6 rfl rfl 0 rfl .free rfl ?_
    refine Bs rfl (A9 r0 rfl) .free rfl ?_; refine Oa rfl (Aa (Ad (.tmp rfl .nil) ?_)); obtain rfl : o = .fst := U2.txt_inj (o' := .fst) c4
    exact ⟨I, _, .refl _, fun _ h => h, _, rfl, ⟨_, rfl, h1⟩, rfl⟩
   intro c4
   try simp only [nb] at c4
   refine Ae (Se rfl (Om rfl ?_))
   first | refine A5 rfl rfl 0 rfl .free rfl ?_ | refine A6 rfl rfl 0 rfl .free rfl ?_
   refine Bs rfl (A9 q0 rfl) .free rfl ?_; refine Av rfl .free rfl ?_
   first | refine Oh rfl ?_ | refine Oj rfl ?_
   refine Bs rfl (Ba hs (by rfl) rfl) .free rfl ?_
   first | refine A5 rfl rfl 1 rfl .free rfl ?_ | refine A6 rfl rfl 1 rfl .free rfl ?_
   refine Bs rfl (A9 r1 rfl) .free rfl ?_; refine Oa rfl (Aa (Ad (.tmp rfl .nil) ?_)); obtain rfl : o = .snd := by
    cases o with
    | fst => exact absurd rfl c4
    | snd => rfl
   exact ⟨I, _, .refl _, fun _ h => h, _, rfl, ⟨_, rfl, h2⟩, rfl⟩
  ·skip
   refine Af rfl (Om rfl ?_)
   first | refine A5 rfl rfl 0 rfl .free rfl ?_ | refine A6 rfl rfl 0 rfl .free rfl ?_
   refine Bs rfl (A9 q0 rfl) .free rfl ?_; refine Av rfl .free rfl ?_
   first | refine Oh rfl ?_ | refine Oj rfl ?_
   refine Bs rfl (Ba hs (by rfl) rfl) .free rfl ?_; refine Hg rfl rfl .free rfl ?_; refine Aa ?_
   first | refine St rfl (rfl) ?_ | refine Bj (by simp [look, A7, *]) ?_
   refine Se rfl (Om rfl ?_); refine Ca rfl (Ec _ b n _) ?_; rintro _ _ _ _ ⟨rfl, rfl, rfl⟩; refine Oa rfl (Aa (Ad (.tmp rfl .nil) ?_))
   exact ⟨I, _, .refl _, fun _ h => h, none, rfl, by cases o <;> rfl, by cases o <;> rfl⟩
 intro c1
 try simp only [nb] at c1
 refine Af rfl (Od rfl rfl rfl (Oa rfl (Aa ?_)))
 first | refine K8 rfl (by first | rfl | exact hoo c1 | decide) ?_ | refine K7 rfl (by first | rfl | exact hoo c1 | decide) ?_ | refine Bj (by simp [look, A7, *]) ?_
 refine Ab (Ab ?_)
 rcases hu with @⟨s, a, hs⟩ | @⟨u1, u2, a, q2, p1, p2, c2, hs, hq2, hc2, h1, h2⟩ | @⟨f, x, s, t, bd, r, a, fa, oo, c2, pr, hs, hf, hrp, he⟩
 ·skip
  refine Af rfl (Om rfl ?_)
  first | refine A5 rfl rfl 0 rfl .free rfl ?_ | refine A6 rfl rfl 0 rfl .free rfl ?_
  refine Bs rfl (A9 q0 rfl) .free rfl ?_; refine Av rfl .free rfl ?_
  first | refine Oh rfl ?_ | refine Oj rfl ?_
  refine Bs rfl (Ba hs (by rfl) rfl) .free rfl ?_; refine Hg rfl rfl .free rfl ?_; refine Aa ?_
  first | refine St rfl (rfl) ?_ | refine Bj (by simp [look, A7, *]) ?_
  refine Se rfl (Om rfl ?_); refine Ca rfl (Ec _ b n _) ?_; rintro _ _ _ _ ⟨rfl, rfl, rfl⟩; refine Oa rfl (Aa (Ad (.tmp rfl .nil) ?_))
  exact ⟨I, _, .refl _, fun _ h => h, none, rfl, by cases o <;> rfl, by cases o <;> rfl⟩
 ·skip
  have r0 : Still I (q2.add (0 * 1)) [.pointer (some p1)] := hq2.cellAt 0 rfl
  have r1 : Still I (q2.add (1 * 1)) [.pointer (some p2)] := hq2.cellAt 1 rfl
  refine Af rfl (Om rfl ?_)
  first | refine A5 rfl rfl 0 rfl .free rfl ?_ | refine A6 rfl rfl 0 rfl .free rfl ?_
  refine Bs rfl (A9 q0 rfl) .free rfl ?_; refine Av rfl .free rfl ?_
  first | refine Oh rfl ?_ | refine Oj rfl ?_
  refine Bs rfl (Ba hs (by rfl) rfl) .free rfl ?_; refine Hg rfl rfl .free rfl ?_; refine Aa ?_
  first | refine Sf rfl (by simp) ?_ | refine Al (by simp [look, A7, *]) ?_
  refine Ae (Ab (Se rfl (Om rfl (Od rfl rfl rfl (Aa ?_))))); refine As rfl ?_ ?_
  ·intro c4
   try simp only [nb] at c4
   refine Se rfl (Om rfl ?_)
   first | refine A5 rfl rfl 0 rfl .free rfl ?_ | refine A6 rfl rfl 0 rfl .free rfl ?_
   refine Bs rfl (A9 q0 rfl) .free rfl ?_; refine Av rfl .free rfl ?_
   first | refine Oh rfl ?_ | refine Oj rfl ?_
   refine Bs rfl (Ba hs (by rfl) rfl) .free rfl ?_
   first | refine A5 rfl rfl 0 rfl .free rfl ?_ | refine A6 rfl rfl 0 rfl .free rfl ?_
   refine Bs rfl (A9 r0 rfl) .free rfl ?_; refine Oa rfl (Aa (Ad (.tmp rfl .nil) ?_)); obtain rfl : o = .fst := U2.txt_inj (o' := .fst) c4
   exact ⟨I, _, .refl _, fun _ h => h, _, rfl, ⟨_, rfl, h1⟩, rfl⟩
  intro c4
  try simp only [nb] at c4
  refine Ae (Se rfl (Om rfl ?_))
  first | refine A5 rfl rfl 0 rfl .free rfl ?_ | refine A6 rfl rfl 0 rfl .free rfl ?_
  refine Bs rfl (A9 q0 rfl) .free rfl ?_; refine Av rfl .free rfl ?_
  first | refine Oh rfl ?_ | refine Oj rfl ?_
  refine Bs rfl (Ba hs (by rfl) rfl) .free rfl ?_
  first | refine A5 rfl rfl 1 rfl .free rfl ?_ | refine A6 rfl rfl 1 rfl .free rfl ?_
  refine Bs rfl (A9 r1 rfl) .free rfl ?_; refine Oa rfl (Aa (Ad (.tmp rfl .nil) ?_)); obtain rfl : o = .snd := by
   cases o with
   | fst => exact absurd rfl c4
   | snd => rfl
  exact ⟨I, _, .refl _, fun _ h => h, _, rfl, ⟨_, rfl, h2⟩, rfl⟩
 ·skip
  refine Af rfl (Om rfl ?_)
  first | refine A5 rfl rfl 0 rfl .free rfl ?_ | refine A6 rfl rfl 0 rfl .free rfl ?_
  refine Bs rfl (A9 q0 rfl) .free rfl ?_; refine Av rfl .free rfl ?_
  first | refine Oh rfl ?_ | refine Oj rfl ?_
  refine Bs rfl (Ba hs (by rfl) rfl) .free rfl ?_; refine Hg rfl rfl .free rfl ?_; refine Aa ?_
  first | refine St rfl (rfl) ?_ | refine Bj (by simp [look, A7, *]) ?_
  refine Se rfl (Om rfl ?_); refine Ca rfl (Ec _ b n _) ?_; rintro _ _ _ _ ⟨rfl, rfl, rfl⟩; refine Oa rfl (Aa (Ad (.tmp rfl .nil) ?_))
  exact ⟨I, _, .refl _, fun _ h => h, none, rfl, by cases o <;> rfl, by cases o <;> rfl⟩
theorem Ex.shapes8 (e : Ex) : (∃ s, e = .num s) ∨ (∃ s, e = .name s) ∨ (∃ f x s t b, e = .fn f x s t b) ∨ (∃ a b, e = .bin .call a b) ∨ (∃ o a b, o ≠ B5.call ∧ e = .bin o a b) ∨ (∃ a b d, e = .ite a b d) ∨ (∃ z a b, e = .lt z a b) ∨ (∃ o a, e = .un o a) := by
 cases e with
 | num s => exact .inl ⟨s, rfl⟩
 | name s => exact .inr (.inl ⟨s, rfl⟩)
 | fn f x s t b => exact .inr (.inr (.inl ⟨f, x, s, t, b, rfl⟩))
 | bin o a b =>
  by_cases h : o = .call
  ·subst h; exact .inr (.inr (.inr (.inl ⟨a, b, rfl⟩)))
  ·exact .inr (.inr (.inr (.inr (.inl ⟨o, a, b, h, rfl⟩))))
 | ite a b d => exact .inr (.inr (.inr (.inr (.inr (.inl ⟨a, b, d, rfl⟩)))))
 | lt z a b => exact .inr (.inr (.inr (.inr (.inr (.inr (.inl ⟨z, a, b, rfl⟩))))))
 | un o a => exact .inr (.inr (.inr (.inr (.inr (.inr (.inr ⟨o, a, rfl⟩))))))
theorem S2 {s : Ap} (h : By s = true) : Bv s = false := by
 cases hn : Bv s with
 | false => rfl
 | true => rw [Fd hn] at h; cases h
theorem I7 {I : Heap} {o : Option KV} {p : Option Addr} (h : RP? I o p) (hp : p.isNone = true) : o = none ∧ p = none := by
 cases o with
 | none => exact ⟨rfl, h⟩
 | some w => obtain ⟨x, rfl, _⟩ := h; cases hp
theorem I8 {I : Heap} {o : Option KV} {p : Option Addr} (h : RP? I o p) (hp : p.isNone = false) : ∃ w x, o = some w ∧ p = some x ∧ KVat I w x := by
 cases o with
 | none => rw [show p = none from h] at hp; cases hp
 | some w => obtain ⟨x, rfl, hx⟩ := h; exact ⟨w, x, rfl, rfl, hx⟩
theorem KVat.fun {I : Heap} {v : KV} {a : Addr} (h : KVat I v a) : ∃ x1 pf pr, Still I a [.string (str v.nt), x1, .pointer pf, .pointer pr] ∧ (pf = none → ∀ f x s t b r, v ≠ .clo f x s t b r) ∧
  ∀ fa, pf = some fa → ∃ f x s t b r o c, v = .clo f x s t b r ∧ Still I fa [.string (str []), .slice (some o) 6 c] ∧ Rep I (Ex.fn f x s t b).tree [.string (str []), .slice (some o) 6 c] ∧ KEat I r pr := by
 cases h with
 | num h => exact ⟨_, _, _, h, fun _ f x s t b r e => (by cases e), fun fa e => (by cases e)⟩
 | pair h => exact ⟨_, _, _, h, fun _ f x s t b r e => (by cases e), fun fa e => (by cases e)⟩
 | clo h hf hr he => exact ⟨_, _, _, h, fun e => (by cases e), fun fa e => ⟨_, _, _, _, _, _, _, _, rfl, by cases e; exact hf, hr, he⟩⟩
def EVP (b : Nat) (r : Res) (L : Bh) : Cs := fun v I' L' => ∃ p, v = .pointer p ∧ RP? I' r.v p ∧ L' = Q7 b r.left r.stuck :: L
def EvH (N : Nat) : Prop := ∀ {I : Heap} (_ : Tab I) {e : Ex} {cs : List Value} {k : KE} {pk : Option Addr} (n : Nat) (_ : n < N) (_ : n ≤ 1000000) (_ : Rep I e.tree cs) (_ : e.ok = true) (_ : KEat I k pk) (_ : k.wf) (_ : ∀ y ∈ e.occ [], y ∈ k.dom) (b : Nat) (L : Bh),
 Fun Tryz.prog 48 [.pointer (some ⟨b, 0, none⟩), .agg cs.toArray, .pointer pk] I (Q7 b n false :: L) (EVP b (eval n e k) L)
structure EX where
 e : Ex
 k : KE
 pk : Option Addr
 n : Nat
 J : Heap
 o : Option Addr
 c : Nat
theorem Jy {n : Nat} {e : Ex} {k : KE} {u : KV} (hk : k.wf) (hok : e.ok = true) (hd : ∀ y ∈ e.occ [], y ∈ k.dom) (h : (eval n e k).v = some u) : u.wf ∧ (eval n e k).stuck = false := by
 have := Nd n e k hk hok hd
 unfold Res.says at this
 rw [h] at this
 exact ⟨this.1, this.2.2⟩
theorem X1 : ∀ N : Nat, EvH N := by
 intro N
 induction N with
 | zero => intro I ht e cs k pk n hn; omega
 | succ N ihn =>
  intro I ht e cs k pk n hn hm h hok hk hkw hd b L; obtain ⟨oc, cc, _, rfl, -⟩ := h.open
  generalize hR : eval n e k = R
  unfold Q7
  refine Ag (by simp) ?_; refine Se rfl ?_; refine B7 rfl rfl .free rfl ?_; intro b4; refine Oa rfl (Aa (Aj ?_))
  refine Dv (X := EX) (fun x => x.n) (fun x => [(0, .pointer (some ⟨b, 0, none⟩)), (2, .pointer x.pk), (4, .pointer (some ⟨b4, 0, none⟩))]) (fun x => x.J) (fun x => (b4, .cells [.string (str x.e.tree.atom), .slice x.o x.e.tree.parts.length x.c].toArray 39 (0, 0)) :: (b, .cells [.int .i64 (x.n : Nat), .bool false].toArray 63 (0, 0)) :: L) (fun x => HLe I x.J ∧ Rep x.J x.e.tree [.string (str x.e.tree.atom), .slice x.o x.e.tree.parts.length x.c] ∧ x.e.ok = true ∧ KEat x.J x.k x.pk ∧ x.k.wf ∧ (∀ y ∈ x.e.occ [], y ∈ x.k.dom) ∧ x.n < N + 1 ∧ x.n ≤ 1000000 ∧ eval x.n x.e x.k = R) ⟨e, k, pk, n, I, oc, cc⟩ ⟨.refl _, h, hok, hk, hkw, hd, hn, hm, hR⟩ ⟨rfl, rfl, rfl, trivial⟩ (fun _ h => h) ?_
  clear hd hkw hk hok h hn hm hR
  rintro ⟨e, k, pk, n, J, oc, cc⟩ ⟨hle, hr, hok, hk, hkw, hd, hn, hm, hR⟩ ih
  simp only at hle hr hok hk hkw hd hn hm hR ih ⊢
  have ht := ht.mono hle
  refine Aj (Ab (Se rfl (Om rfl ?_))); refine Av rfl .free rfl ?_
  first | refine Oh rfl ?_ | refine Oj rfl ?_
  refine F4 rfl .free rfl ?_; refine Oc rfl rfl rfl (Aa ?_); refine As rfl ?_ ?_
  ·intro c0
   try simp only [nb] at c0
   refine Se rfl (Oa rfl (Aa (Ad (.tmp rfl .nil) ?_))); obtain rfl : n = 0 := by omega
   rw [Jm] at hR; subst hR
   exact ⟨J, _, hle, fun _ h => h.drop, none, rfl, rfl, rfl⟩
  intro c0
  try simp only [nb] at c0
  obtain ⟨m, rfl⟩ : ∃ m, n = m + 1 := ⟨n - 1, by omega⟩; refine Ae (Se rfl (Om rfl ?_)); refine Av rfl .free rfl ?_
  first | refine Oh rfl ?_ | refine Oj rfl ?_
  refine F4 rfl .free rfl ?_; refine Or rfl rfl rfl ?_; refine Cz (t := 21) (v' := .int .i64 (m : Nat)) rfl (by congr 1; omega) ?_; refine Av rfl .free rfl ?_
  first | refine Oh rfl ?_ | refine Oj rfl ?_
  refine Bn rfl rfl rfl rfl .free ?_; refine Aa (Ab (Ab ?_))
  rcases e.shapes8 with ⟨s, rfl⟩ | ⟨s, rfl⟩ | ⟨f, z, s, t, bd, rfl⟩ | ⟨a, d, rfl⟩ | ⟨o, a, d, hoc, rfl⟩ | ⟨a, d, g, rfl⟩ | ⟨z, a, d, rfl⟩ | ⟨o, a, rfl⟩
  ·skip
   refine Af rfl ?_; refine A3 rfl .free rfl ?_; refine Ca rfl (Bu hr _) ?_; rintro _ _ _ _ ⟨rfl, rfl, rfl⟩; rw [show (Ex.num s).tree.parts.isEmpty = true from rfl]; refine Aa ?_
   first | refine St rfl (rfl) ?_ | refine Bj (by simp [look, A7, *]) ?_
   refine Ab (Se rfl (Oh rfl ?_)); refine A1 rfl .free rfl ?_; refine Ca rfl (Ip s (by have := Hf (show By s = true from hok); unfold Az; omega) _ _) ?_; rintro _ _ _ _ ⟨rfl, rfl, rfl⟩; rw [S2 (show By s = true from hok)]; refine Aa ?_
   first | refine Sf rfl (by simp) ?_ | refine Al (by simp [look, A7, *]) ?_
   refine Ae (Se rfl (Oh rfl ?_)); refine A1 rfl .free rfl ?_; refine Bt rfl rfl rfl .free rfl ?_; refine B7 rfl rfl .free rfl ?_; intro b36; refine Oa rfl (Aa ?_); refine Bi ?_; intro hz; refine Ad (.tmp rfl .nil) ?_; rw [Jk] at hR; subst hR
   exact ⟨_, _, hle.trans hz, fun _ h => h.drop, _, rfl, ⟨_, rfl, .num (Be (xs := [_, _, _, _]) (ys := []))⟩, rfl⟩
  ·skip
   refine Af rfl ?_; refine A3 rfl .free rfl ?_; refine Ca rfl (Bu hr _) ?_; rintro _ _ _ _ ⟨rfl, rfl, rfl⟩; rw [show (Ex.name s).tree.parts.isEmpty = true from rfl]; refine Aa ?_
   first | refine St rfl (rfl) ?_ | refine Bj (by simp [look, A7, *]) ?_
   refine Ab (Se rfl (Oh rfl ?_)); refine A1 rfl .free rfl ?_; refine Ca rfl (Ip s (by have := Fh (show Bv s = true from hok); unfold Az; omega) _ _) ?_; rintro _ _ _ _ ⟨rfl, rfl, rfl⟩; rw [show Bv s = true from hok]; refine Aa ?_
   first | refine St rfl (rfl) ?_ | refine Bj (by simp [look, A7, *]) ?_
   refine Se rfl (Om rfl (Oh rfl ?_)); refine A1 rfl .free rfl ?_; refine Ca rfl (Ue hk s _) ?_; rintro _ _ _ _ ⟨p, rfl, hp, rfl, rfl⟩; refine Oa rfl (Aa (Ad (.tmp rfl .nil) ?_)); rw [Jj] at hR; subst hR
   exact ⟨J, _, hle, fun _ h => h.drop, p, rfl, hp, rfl⟩
  ·skip
   refine Af rfl ?_; refine A3 rfl .free rfl ?_; refine Ca rfl (Bu hr _) ?_; rintro _ _ _ _ ⟨rfl, rfl, rfl⟩; rw [show (Ex.fn f z s t bd).tree.parts.isEmpty = false from rfl]; refine Aa ?_
   first | refine Sf rfl (by simp) ?_ | refine Al (by simp [look, A7, *]) ?_
   refine Ae (Ab (Se rfl ?_)); refine A3 rfl .free rfl ?_; refine Ca rfl (Bk hr _) ?_; rintro _ _ _ _ ⟨rfl, rfl, rfl⟩; rw [show (Ex.fn f z s t bd).tree.head = [102, 117, 110] from rfl]; obtain ⟨oa2, c2, oaf, cf, he2, hf⟩ := hr.at'
   simp only [List.cons.injEq, Value.slice.injEq, and_true, true_and] at he2
   obtain ⟨rfl, rfl⟩ := he2; obtain ⟨xa, rfl⟩ : ∃ x, oc = some x := ⟨_, Ct hf.nil (show 0 < 6 by decide)⟩; refine Od rfl rfl rfl (Aa ?_)
   first | refine St rfl (rfl) ?_ | refine Bj (by simp [look, A7, *]) ?_
   refine Se rfl (Om rfl ?_); refine Bt rfl rfl rfl .free rfl ?_; refine B7 rfl rfl .free rfl ?_; intro b42; refine Oa rfl (Aa ?_); refine Bi ?_; intro hz; refine Bi ?_; intro hz2; refine Ad (.tmp rfl .nil) ?_; rw [Le] at hR; subst hR
   exact ⟨_, _, (hle.trans hz).trans hz2, fun _ h => h, _, rfl, ⟨_, rfl, .clo ((Be (xs := [_, _, _, _]) (ys := [])).mono hz2) (Be (xs := [_, _]) (ys := [])) (hr.mono (hz.trans hz2)) (hk.mono (hz.trans hz2))⟩, rfl⟩
  ·skip
   refine Af rfl ?_; refine A3 rfl .free rfl ?_; refine Ca rfl (Bu hr _) ?_; rintro _ _ _ _ ⟨rfl, rfl, rfl⟩; rw [show (Ex.bin .call a d).tree.parts.isEmpty = false from rfl]; refine Aa ?_
   first | refine Sf rfl (by simp) ?_ | refine Al (by simp [look, A7, *]) ?_
   refine Ae (Ab (Se rfl ?_)); refine A3 rfl .free rfl ?_; refine Ca rfl (Bk hr _) ?_; rintro _ _ _ _ ⟨rfl, rfl, rfl⟩; obtain ⟨oa2, c2, oaf, cf, he2, hf⟩ := hr.at'
   simp only [List.cons.injEq, Value.slice.injEq, and_true, true_and] at he2
   obtain ⟨rfl, rfl⟩ := he2; obtain ⟨xa, rfl⟩ : ∃ x, oc = some x := ⟨_, Ct hf.nil (show 0 < 3 by decide)⟩
   have hlen : (Ex.bin .call a d).tree.parts.length = 3 := rfl
   have hev : Tr (Ex.bin .call a d).tree = [1, 2] := rfl
   simp only [Ex.ok, Bool.and_eq_true] at hok
   rw [show (Ex.bin .call a d).tree.head = [99, 97, 108, 108] from rfl]; refine Od rfl rfl rfl (Aa ?_)
   first | refine Sf rfl (by decide) ?_ | refine Al (by simp [look, A7, *]) ?_
   refine Ae (Se rfl (Oa rfl (Aa (Ab (Se rfl ?_))))); refine A3 rfl .free rfl ?_; refine Ca rfl (Dd hf.rep _) ?_; rintro _ J0 _ e0 ⟨oq, ck, rfl, hn0, rfl⟩
   have hf := hf.mono e0
   have hk := hk.mono e0
   have ht := ht.mono e0
   have hle := hle.trans e0
   rw [hev] at hn0; rw [hev]; refine On rfl (Om rfl (Aa (Aj ?_))); refine Dz ?_; refine Se rfl (Oc rfl rfl rfl (Aa (Ab ?_))); refine Cc rfl (by first | rfl | decide | (simp; done) | omega) ?_; refine Ae (Ab (Aj (Se rfl ?_)))
   first | refine A5 rfl rfl _ rfl .free rfl ?_ | refine A6 rfl rfl _ rfl .free rfl ?_
   refine Ef rfl .free rfl ?_; refine Oa rfl (Aa (Se rfl (Om rfl (Oh rfl ?_)))); refine A1 rfl .free rfl ?_; refine Om rfl ?_
   first | refine A5 rfl rfl _ rfl .free rfl ?_ | refine A6 rfl rfl _ rfl .free rfl ?_
   refine D9 rfl .free rfl ?_; refine Om rfl ?_; refine D4 (fun w h => h.f1) ?_; refine Ca rfl (ihn ht m (by omega) (by omega) (hf.as 1 a.tree (by omega) rfl) hok.1 hk hkw (fun y hy => hd y (List.mem_append_left _ hy)) b _) ?_; rintro _ J1 _ e1 ⟨p0, rfl, hp0, rfl⟩
   have hf := hf.mono e1
   have hk := hk.mono e1
   have ht := ht.mono e1
   have hn0 := hn0.mono e1
   have hle := hle.trans e1
   unfold Q7
   refine Oa rfl (Aa (Ab (Se rfl (Om rfl ?_)))); refine Gd rfl rfl .free rfl ?_; refine Aa ?_; refine As rfl ?_ ?_
   ·intro c5
    try simp only [nb] at c5
    obtain ⟨hv0, rfl⟩ := I7 hp0 c5
    have hRR : eval m a k = R := by
     rw [F6] at hR
     simpa only [hv0] using hR
    refine Se rfl (Oa rfl (Aa (Ad (.tmp rfl .nil) ?_))); subst hRR
    exact ⟨_, _, hle, Ms (L' := (b, _) :: L), none, rfl, by rw [hv0]; rfl, rfl⟩
   intro c5
   try simp only [nb] at c5
   obtain ⟨u, pu, hv0, rfl, hau⟩ := I8 hp0 (by simpa using c5); obtain ⟨wu, hst0⟩ := Jy hkw hok.1 (fun y hy => hd y (List.mem_append_left _ hy)) hv0; rw [hst0]; refine Ae (Af rfl (Om rfl (Om rfl ?_))); refine Ol rfl rfl ?_; intro b62; refine Dw (B := none) (xs := []) (ys := [.pointer (some pu)]) (m := 0) (c := 0) (by intro kk; simp) (by rfl) rfl rfl ⟨rfl, rfl, rfl⟩ (fun _ h => h) (by rfl) (fun a ha => by cases ha; exact Ce (.head _) (by rfl)) (by simp) (by rfl) (by decide) (by decide) (by omega) (by decide) .free rfl ?_; intro bb sp c2 hB
   simp only [Cf, List.cons_append, List.nil_append, Nat.zero_add]
   refine Oa rfl (Aa (Ak (Af rfl ?_))); refine Or rfl rfl rfl ?_; refine Om rfl (Aa ?_); refine B0 ?_; refine Se rfl (Oc rfl rfl rfl (Aa (Ab ?_))); refine Cc rfl (by first | rfl | decide | (simp; done) | omega) ?_; refine Ae (Ab (Aj (Se rfl ?_)))
   first | refine A5 rfl rfl _ rfl .free rfl ?_ | refine A6 rfl rfl _ rfl .free rfl ?_
   refine Ef rfl .free rfl ?_; refine Oa rfl (Aa (Se rfl (Om rfl (Oh rfl ?_)))); refine A1 rfl .free rfl ?_; refine Om rfl ?_
   first | refine A5 rfl rfl _ rfl .free rfl ?_ | refine A6 rfl rfl _ rfl .free rfl ?_
   refine D9 rfl .free rfl ?_; refine Om rfl ?_
   have hl0 := Cv m a k
   refine D4 (fun w h => h.f2) ?_; refine Ca rfl (ihn ht (eval m a k).left (by omega) (by omega) (hf.as 2 d.tree (by omega) rfl) hok.2 hk hkw (fun y hy => hd y (List.mem_append_right _ hy)) b _) ?_; rintro _ J2 _ e2 ⟨p1, rfl, hp1, rfl⟩
   have hf := hf.mono e2
   have hk := hk.mono e2
   have ht := ht.mono e2
   have hn0 := hn0.mono e2
   have hle := hle.trans e2
   unfold Q7
   refine Oa rfl (Aa (Ab (Se rfl (Om rfl ?_)))); refine Gd rfl rfl .free rfl ?_; refine Aa ?_; refine As rfl ?_ ?_
   ·intro c5
    try simp only [nb] at c5
    obtain ⟨hv1, rfl⟩ := I7 hp1 c5
    have hRR : eval (eval m a k).left d k = R := by
     rw [F6] at hR
     simpa only [hv0, hv1] using hR
    refine Se rfl (Oa rfl (Aa (Ad (.tmp rfl .nil) ?_))); subst hRR
    exact ⟨_, _, hle, Ms (L' := (b, _) :: L), none, rfl, by rw [hv1]; rfl, rfl⟩
   intro c5
   try simp only [nb] at c5
   obtain ⟨v, pv, hv1, rfl, hav⟩ := I8 hp1 (by simpa using c5); obtain ⟨wv, hst1⟩ := Jy hkw hok.2 (fun y hy => hd y (List.mem_append_right _ hy)) hv1; rw [hst1]; refine Ae (Af rfl (Om rfl (Om rfl ?_))); refine Ol rfl rfl ?_; intro b62; refine Dw (B := some (bb, sp)) (xs := [.pointer (some pu)]) (ys := [.pointer (some pv)]) (m := 1) (c := c2) (by intro kk; simp) (by rfl) rfl rfl hB (fun _ h => h.f2) (by rfl) (fun a ha => by cases ha; exact Ce (.head _) (by rfl)) (by simp) (by rfl) (by decide) (by decide) (by omega) (by decide) .free rfl ?_; intro bb2 sp2 c3 hB2
   simp only [Cf, List.cons_append, List.nil_append]
   refine Oa rfl (Aa (Ak (Af rfl ?_))); refine Or rfl rfl rfl ?_; refine Om rfl (Aa ?_); refine B0 ?_; refine Se rfl (Oc rfl rfl rfl (Aa (Ab ?_))); refine C5 rfl (by first | rfl | decide | (simp; done) | omega) ?_; refine Bz rfl ?_; refine Ab ?_; refine Bi ?_; intro hz
   have hq0 := Be (I := J2) (b := bb2) (xs := [.pointer (some pu), .pointer (some pv)]) (ys := sp2) (T := 64) (fr := (0, 0))
   simp only [List.cons_append, List.nil_append] at hq0
   have hf := hf.mono hz
   have hk := hk.mono hz
   have ht := ht.mono hz
   have hle := hle.trans hz
   have hau := hau.mono (e2.trans hz)
   have hav := hav.mono hz
   have q1 : Still _ ((⟨bb2, 0, none⟩ : Addr).add (1 * 1)) [.pointer (some pv)] := hq0.cellAt 1 rfl
   have q0 : Still _ ((⟨bb2, 0, none⟩ : Addr).add (0 * 1)) [.pointer (some pu)] := hq0.cellAt 0 rfl
   have hl1 := Cv m a k
   have hl2 := Cv (eval m a k).left d k
   rw [F6] at hR
   simp only [hv0, hv1] at hR
   refine Bg (fun w h => Mem.sub (L' := (b, _) :: (b4, _) :: L) (by repeat (first | exact List.Sublist.refl _ | apply List.Sublist.cons_cons | apply List.Sublist.cons)) h) ?_; refine Af rfl ?_; refine A3 rfl .free rfl ?_; refine Ca rfl (Bk hf.rep _) ?_; rintro _ _ _ _ ⟨rfl, rfl, rfl⟩; rw [show (Ex.bin .call a d).tree.head = [99, 97, 108, 108] from rfl]; refine Aa (Aj (Se rfl (Od rfl rfl rfl (Oa rfl (Aa ?_)))))
   first | refine Sf rfl (by decide) ?_ | refine Al (by simp [look, A7, *]) ?_
   refine Se rfl (Od rfl rfl rfl (Oa rfl (Aa ?_)))
   first | refine Sf rfl (by decide) ?_ | refine Al (by simp [look, A7, *]) ?_
   refine Se rfl (Od rfl rfl rfl (Oa rfl (Aa ?_)))
   first | refine St rfl (rfl) ?_ | refine Bj (by simp [look, A7, *]) ?_
   refine Se rfl ?_; obtain ⟨x1, pf, pr, su, hno, hyes⟩ := hau.fun
   refine Om rfl ?_
   first | refine A5 rfl rfl 0 rfl .free rfl ?_ | refine A6 rfl rfl 0 rfl .free rfl ?_
   refine Bs rfl (A9 q0 rfl) .free rfl ?_; refine Av rfl .free rfl ?_
   first | refine Oh rfl ?_ | refine Oj rfl ?_
   refine Bs rfl (Ba su (by rfl) rfl) .free rfl ?_; refine Oa rfl (Aa (Ab (Se rfl (Om rfl ?_)))); refine Gd rfl rfl .free rfl ?_; refine Aa ?_; refine As rfl ?_ ?_
   ·intro c11
    try simp only [nb] at c11
    refine Se rfl (Om rfl ?_); refine Ca rfl (Ec _ b (eval (eval m a k).left d k).left _) ?_; rintro _ _ _ _ ⟨rfl, rfl, rfl⟩; refine Oa rfl (Aa (Ad (.tmp rfl .nil) ?_))
    have hRR : (⟨none, (eval (eval m a k).left d k).left, true⟩ : Res) = R := by
     have hpf : pf = none := by cases pf with | none => rfl | some x => cases c11
     cases u with
     | clo f x s t bd r => exact absurd rfl (hno hpf f x s t bd r)
     | _ => exact hR
    subst hRR
    exact ⟨_, _, hle, Ms (L' := (b, _) :: L), none, rfl, rfl, rfl⟩
   intro c11
   try simp only [nb] at c11
   obtain ⟨fa, rfl⟩ : ∃ fa, pf = some fa := by cases pf with | none => cases c11 | some x => exact ⟨x, rfl⟩
   obtain ⟨fn, x, s, t, bd, r, o6, c6, rfl, hfa, hrf, hke⟩ := hyes fa rfl; obtain ⟨oa3, c3', oaf3, cf3, he3, hf3⟩ := hrf.at'
   simp only [List.cons.injEq, Value.slice.injEq, and_true, true_and] at he3
   obtain ⟨-, rfl, -, rfl⟩ := he3
   have hlen3 : (Ex.fn fn x s t bd).tree.parts.length = 6 := rfl
   simp only at hR
   have hcl := wu
   obtain ⟨hrw, hfok, hfd⟩ := wu
   have hfok' := hfok
   simp only [Ex.ok, Bool.and_eq_true, decide_eq_true_eq] at hfok'
   obtain ⟨⟨⟨⟨⟨nf, nx⟩, hfx⟩, _⟩, _⟩, hcok⟩ := hfok'; refine Ae ?_; refine Dp 36 rfl rfl ?_; refine Da 0 rfl (Ah rfl) ?_; refine Da 1 rfl (Dn rfl) ?_
   first | refine Da 2 rfl (Ai rfl) ?_ | refine Da 2 rfl (Bb rfl) ?_
   refine Dt 3 [34] rfl (Eh rfl (Ba hfa (by rfl) rfl)) ?_
   first | refine Da 4 rfl (Bl rfl rfl 5 rfl) ?_ | refine Da 4 rfl (Bm rfl rfl 5 rfl) ?_
   refine Dt 5 [34] rfl (Eh rfl (Bc (hf3.st _ (by omega)) (by rfl))) ?_; refine Da 6 rfl (Ah rfl) ?_
   first | refine Da 7 rfl (Bl rfl rfl 0 rfl) ?_ | refine Da 7 rfl (Bm rfl rfl 0 rfl) ?_
   refine Dt 8 [34] rfl (Eh rfl (A9 q0 rfl)) ?_; refine Da 9 rfl (Dn rfl) ?_
   first | refine Da 10 rfl (Ai rfl) ?_ | refine Da 10 rfl (Bb rfl) ?_
   refine Dt 11 [34] rfl (Eh rfl (Ba su (by rfl) rfl)) ?_; refine Da 12 rfl (Ah rfl) ?_; refine Da 13 rfl (Dn rfl) ?_
   first | refine Da 14 rfl (Ai rfl) ?_ | refine Da 14 rfl (Bb rfl) ?_
   refine Dt 15 [34] rfl (Eh rfl (Ba hfa (by rfl) rfl)) ?_
   first | refine Da 16 rfl (Bl rfl rfl 1 rfl) ?_ | refine Da 16 rfl (Bm rfl rfl 1 rfl) ?_
   refine Da 17 rfl (Bb rfl) ?_; refine Dt 18 [34] rfl (Eh rfl (Ba (hf3.st _ (by omega)) (by rfl) rfl)) ?_; refine Da 19 rfl (Ah rfl) ?_
   first | refine Da 20 rfl (Bl rfl rfl 0 rfl) ?_ | refine Da 20 rfl (Bm rfl rfl 0 rfl) ?_
   refine Dt 21 [34] rfl (Eh rfl (A9 q0 rfl)) ?_; refine Da 23 rfl (Ah rfl) ?_; refine Da 24 rfl (Dn rfl) ?_
   first | refine Da 25 rfl (Ai rfl) ?_ | refine Da 25 rfl (Bb rfl) ?_
   refine Dt 26 [34] rfl (Eh rfl (Ba hfa (by rfl) rfl)) ?_
   first | refine Da 27 rfl (Bl rfl rfl 2 rfl) ?_ | refine Da 27 rfl (Bm rfl rfl 2 rfl) ?_
   refine Da 28 rfl (Bb rfl) ?_; refine Dt 29 [34] rfl (Eh rfl (Ba (hf3.st _ (by omega)) (by rfl) rfl)) ?_; refine Da 30 rfl (Ah rfl) ?_
   first | refine Da 31 rfl (Bl rfl rfl 1 rfl) ?_ | refine Da 31 rfl (Bm rfl rfl 1 rfl) ?_
   refine Dt 32 [34] rfl (Eh rfl (A9 q1 rfl)) ?_; refine Dc 22 rfl rfl (Kv hke fn hau _) ?_; rintro _ J3 _ e3 ⟨y3, rfl, hk3, rfl⟩
   have hf3 := hf3.mono e3
   have hle := hle.trans e3
   refine Hx ?_; refine Dc 33 rfl rfl (Kv hk3 x (hav.mono e3) _) ?_; rintro _ J4 _ e4 ⟨y4, rfl, hk4, rfl⟩
   have e34 := e3.trans e4
   have hf3 := hf3.mono e4
   have hle := hle.trans e4
   refine Hx ?_; refine Dx 34 rfl rfl rfl rfl ?_; refine Db 35 rfl (A2 rfl) ?_; refine At (by kernel_rfl) ?_; refine Ak (Ak ?_)
   refine Bg (fun w h => h.f1) (Bp (E' := [(0, .pointer (some ⟨b, 0, none⟩)), (2, .pointer (some y4)), (4, .pointer (some ⟨b4, 0, none⟩))]) ⟨rfl, rfl, rfl, trivial⟩ (ih ⟨bd, .cons x v (.cons fn (.clo fn x s t bd r) r), some y4, (eval (eval m a k).left d k).left, _, oaf3 5, cf3 5⟩ ⟨hle, hf3.as 5 bd.tree (by omega) rfl, hcok, hk4, ⟨nx, wv, nf, hcl, hrw⟩, fun y hy => ?_, by show (eval (eval m a k).left d k).left < N + 1; omega, by show (eval (eval m a k).left d k).left ≤ 1000000; omega, hR⟩ (by simp only; omega)))
   simp only [KE.dom, List.mem_cons]
   rcases hfd y hy with h | h
   ·simp only [List.mem_cons, List.not_mem_nil, or_false] at h
    rcases h with h | h
    ·exact .inr (.inl h)
    ·exact .inl h
   ·exact .inr (.inr h)
  ·skip
   refine Af rfl ?_; refine A3 rfl .free rfl ?_; refine Ca rfl (Bu hr _) ?_; rintro _ _ _ _ ⟨rfl, rfl, rfl⟩; rw [show (Ex.bin o a d).tree.parts.isEmpty = false from rfl]; refine Aa ?_
   first | refine Sf rfl (by simp) ?_ | refine Al (by simp [look, A7, *]) ?_
   refine Ae (Ab (Se rfl ?_)); refine A3 rfl .free rfl ?_; refine Ca rfl (Bk hr _) ?_; rintro _ _ _ _ ⟨rfl, rfl, rfl⟩; obtain ⟨oa2, c2, oaf, cf, he2, hf⟩ := hr.at'
   simp only [List.cons.injEq, Value.slice.injEq, and_true, true_and] at he2
   obtain ⟨rfl, rfl⟩ := he2; obtain ⟨xa, rfl⟩ : ∃ x, oc = some x := ⟨_, Ct hf.nil (show 0 < 3 by decide)⟩
   have hlen : (Ex.bin o a d).tree.parts.length = 3 := rfl
   have hev : Tr (Ex.bin o a d).tree = [1, 2] := by cases o <;> rfl
   simp only [Ex.ok, Bool.and_eq_true] at hok
   rw [show (Ex.bin o a d).tree.head = o.txt from rfl]; refine Od rfl rfl rfl (Aa ?_)
   first | refine E9 rfl (o.txt_ne.2.2.1) ?_ | refine E8 rfl (o.txt_ne.2.2.1) ?_ | refine Al (by simp [look, A7, *]) ?_
   refine Ae (Se rfl (Oa rfl (Aa (Ab (Se rfl ?_))))); refine A3 rfl .free rfl ?_; refine Ca rfl (Dd hf.rep _) ?_; rintro _ J0 _ e0 ⟨oq, ck, rfl, hn0, rfl⟩
   have hf := hf.mono e0
   have hk := hk.mono e0
   have ht := ht.mono e0
   have hle := hle.trans e0
   rw [hev] at hn0; rw [hev]; refine On rfl (Om rfl (Aa (Aj ?_))); refine Dz ?_; refine Se rfl (Oc rfl rfl rfl (Aa (Ab ?_))); refine Cc rfl (by first | rfl | decide | (simp; done) | omega) ?_; refine Ae (Ab (Aj (Se rfl ?_)))
   first | refine A5 rfl rfl _ rfl .free rfl ?_ | refine A6 rfl rfl _ rfl .free rfl ?_
   refine Ef rfl .free rfl ?_; refine Oa rfl (Aa (Se rfl (Om rfl (Oh rfl ?_)))); refine A1 rfl .free rfl ?_; refine Om rfl ?_
   first | refine A5 rfl rfl _ rfl .free rfl ?_ | refine A6 rfl rfl _ rfl .free rfl ?_
   refine D9 rfl .free rfl ?_; refine Om rfl ?_; refine D4 (fun w h => h.f1) ?_; refine Ca rfl (ihn ht m (by omega) (by omega) (hf.as 1 a.tree (by omega) rfl) hok.1 hk hkw (fun y hy => hd y (List.mem_append_left _ hy)) b _) ?_; rintro _ J1 _ e1 ⟨p0, rfl, hp0, rfl⟩
   have hf := hf.mono e1
   have hk := hk.mono e1
   have ht := ht.mono e1
   have hn0 := hn0.mono e1
   have hle := hle.trans e1
   unfold Q7
   refine Oa rfl (Aa (Ab (Se rfl (Om rfl ?_)))); refine Gd rfl rfl .free rfl ?_; refine Aa ?_; refine As rfl ?_ ?_
   ·intro c5
    try simp only [nb] at c5
    obtain ⟨hv0, rfl⟩ := I7 hp0 c5
    have hRR : eval m a k = R := by
     rw [F6] at hR
     simpa only [hv0] using hR
    refine Se rfl (Oa rfl (Aa (Ad (.tmp rfl .nil) ?_))); subst hRR
    exact ⟨_, _, hle, Ms (L' := (b, _) :: L), none, rfl, by rw [hv0]; rfl, rfl⟩
   intro c5
   try simp only [nb] at c5
   obtain ⟨u, pu, hv0, rfl, hau⟩ := I8 hp0 (by simpa using c5); obtain ⟨wu, hst0⟩ := Jy hkw hok.1 (fun y hy => hd y (List.mem_append_left _ hy)) hv0; rw [hst0]; refine Ae (Af rfl (Om rfl (Om rfl ?_))); refine Ol rfl rfl ?_; intro b62; refine Dw (B := none) (xs := []) (ys := [.pointer (some pu)]) (m := 0) (c := 0) (by intro kk; simp) (by rfl) rfl rfl ⟨rfl, rfl, rfl⟩ (fun _ h => h) (by rfl) (fun a ha => by cases ha; exact Ce (.head _) (by rfl)) (by simp) (by rfl) (by decide) (by decide) (by omega) (by decide) .free rfl ?_; intro bb sp c2 hB
   simp only [Cf, List.cons_append, List.nil_append, Nat.zero_add]
   refine Oa rfl (Aa (Ak (Af rfl ?_))); refine Or rfl rfl rfl ?_; refine Om rfl (Aa ?_); refine B0 ?_; refine Se rfl (Oc rfl rfl rfl (Aa (Ab ?_))); refine Cc rfl (by first | rfl | decide | (simp; done) | omega) ?_; refine Ae (Ab (Aj (Se rfl ?_)))
   first | refine A5 rfl rfl _ rfl .free rfl ?_ | refine A6 rfl rfl _ rfl .free rfl ?_
   refine Ef rfl .free rfl ?_; refine Oa rfl (Aa (Se rfl (Om rfl (Oh rfl ?_)))); refine A1 rfl .free rfl ?_; refine Om rfl ?_
   first | refine A5 rfl rfl _ rfl .free rfl ?_ | refine A6 rfl rfl _ rfl .free rfl ?_
   refine D9 rfl .free rfl ?_; refine Om rfl ?_
   have hl0 := Cv m a k
   refine D4 (fun w h => h.f2) ?_; refine Ca rfl (ihn ht (eval m a k).left (by omega) (by omega) (hf.as 2 d.tree (by omega) rfl) hok.2 hk hkw (fun y hy => hd y (List.mem_append_right _ hy)) b _) ?_; rintro _ J2 _ e2 ⟨p1, rfl, hp1, rfl⟩
   have hf := hf.mono e2
   have hk := hk.mono e2
   have ht := ht.mono e2
   have hn0 := hn0.mono e2
   have hle := hle.trans e2
   unfold Q7
   refine Oa rfl (Aa (Ab (Se rfl (Om rfl ?_)))); refine Gd rfl rfl .free rfl ?_; refine Aa ?_; refine As rfl ?_ ?_
   ·intro c5
    try simp only [nb] at c5
    obtain ⟨hv1, rfl⟩ := I7 hp1 c5
    have hRR : eval (eval m a k).left d k = R := by
     rw [F6] at hR
     simpa only [hv0, hv1] using hR
    refine Se rfl (Oa rfl (Aa (Ad (.tmp rfl .nil) ?_))); subst hRR
    exact ⟨_, _, hle, Ms (L' := (b, _) :: L), none, rfl, by rw [hv1]; rfl, rfl⟩
   intro c5
   try simp only [nb] at c5
   obtain ⟨v, pv, hv1, rfl, hav⟩ := I8 hp1 (by simpa using c5); obtain ⟨wv, hst1⟩ := Jy hkw hok.2 (fun y hy => hd y (List.mem_append_right _ hy)) hv1; rw [hst1]; refine Ae (Af rfl (Om rfl (Om rfl ?_))); refine Ol rfl rfl ?_; intro b62; refine Dw (B := some (bb, sp)) (xs := [.pointer (some pu)]) (ys := [.pointer (some pv)]) (m := 1) (c := c2) (by intro kk; simp) (by rfl) rfl rfl hB (fun _ h => h.f2) (by rfl) (fun a ha => by cases ha; exact Ce (.head _) (by rfl)) (by simp) (by rfl) (by decide) (by decide) (by omega) (by decide) .free rfl ?_; intro bb2 sp2 c3 hB2
   simp only [Cf, List.cons_append, List.nil_append]
   refine Oa rfl (Aa (Ak (Af rfl ?_))); refine Or rfl rfl rfl ?_; refine Om rfl (Aa ?_); refine B0 ?_; refine Se rfl (Oc rfl rfl rfl (Aa (Ab ?_))); refine C5 rfl (by first | rfl | decide | (simp; done) | omega) ?_; refine Bz rfl ?_; refine Ab ?_; refine Bi ?_; intro hz
   have hq0 := Be (I := J2) (b := bb2) (xs := [.pointer (some pu), .pointer (some pv)]) (ys := sp2) (T := 64) (fr := (0, 0))
   simp only [List.cons_append, List.nil_append] at hq0
   have hf := hf.mono hz
   have hk := hk.mono hz
   have ht := ht.mono hz
   have hle := hle.trans hz
   have hau := hau.mono (e2.trans hz)
   have hav := hav.mono hz
   have q1 : Still _ ((⟨bb2, 0, none⟩ : Addr).add (1 * 1)) [.pointer (some pv)] := hq0.cellAt 1 rfl
   have q0 : Still _ ((⟨bb2, 0, none⟩ : Addr).add (0 * 1)) [.pointer (some pu)] := hq0.cellAt 0 rfl
   have hl1 := Cv m a k
   have hl2 := Cv (eval m a k).left d k
   rw [F6] at hR
   simp only [hv0, hv1] at hR
   refine Bg (fun w h => Mem.sub (L' := (b, _) :: (b4, _) :: L) (by repeat (first | exact List.Sublist.refl _ | apply List.Sublist.cons_cons | apply List.Sublist.cons)) h) ?_; refine Af rfl ?_; refine A3 rfl .free rfl ?_; refine Ca rfl (Bk hf.rep _) ?_; rintro _ _ _ _ ⟨rfl, rfl, rfl⟩; rw [show (Ex.bin o a d).tree.head = o.txt from rfl]; refine Aa (Aj (Se rfl (Od rfl rfl rfl (Oa rfl (Aa ?_)))))
   first | refine E9 rfl (o.txt_ne.1) ?_ | refine E8 rfl (o.txt_ne.1) ?_ | refine Al (by simp [look, A7, *]) ?_
   refine Se rfl (Od rfl rfl rfl (Oa rfl (Aa ?_)))
   first | refine E9 rfl (o.txt_ne.2.1) ?_ | refine E8 rfl (o.txt_ne.2.1) ?_ | refine Al (by simp [look, A7, *]) ?_
   refine Se rfl (Od rfl rfl rfl (Oa rfl (Aa ?_)))
   first | refine E9 rfl (fun h => hoc (B5.txt_inj (o' := .call) h)) ?_ | refine E8 rfl (fun h => hoc (B5.txt_inj (o' := .call) h)) ?_ | refine Al (by simp [look, A7, *]) ?_
   refine Se rfl (Om rfl ?_); refine A3 rfl .free rfl ?_; refine Ca rfl (Bk hf.rep _) ?_; rintro _ _ _ _ ⟨rfl, rfl, rfl⟩; rw [show (Ex.bin o a d).tree.head = o.txt from rfl]; refine Om rfl ?_; refine Ca rfl (Sv ht hoc wu wv hq0 hB2.2.1 hau hav b (eval (eval m a k).left d k).left _) ?_; rintro _ J3 _ e3 ⟨p3, rfl, hp3, rfl⟩; refine Oa rfl (Aa (Ad (.tmp rfl .nil) ?_))
   have hRR : Res.of (o.act u v) (eval (eval m a k).left d k).left = R := by
    rw [← hR]
    cases o <;> first | rfl | exact absurd rfl hoc
   subst hRR
   exact ⟨J3, _, hle.trans e3, fun w h => Mem.sub (L' := Q7 b _ _ :: L) (by repeat (first | exact List.Sublist.refl _ | apply List.Sublist.cons_cons | apply List.Sublist.cons)) h, p3, rfl, hp3, rfl⟩
  ·skip
   refine Af rfl ?_; refine A3 rfl .free rfl ?_; refine Ca rfl (Bu hr _) ?_; rintro _ _ _ _ ⟨rfl, rfl, rfl⟩; rw [show (Ex.ite a d g).tree.parts.isEmpty = false from rfl]; refine Aa ?_
   first | refine Sf rfl (by simp) ?_ | refine Al (by simp [look, A7, *]) ?_
   refine Ae (Ab (Se rfl ?_)); refine A3 rfl .free rfl ?_; refine Ca rfl (Bk hr _) ?_; rintro _ _ _ _ ⟨rfl, rfl, rfl⟩; obtain ⟨oa2, c2, oaf, cf, he2, hf⟩ := hr.at'
   simp only [List.cons.injEq, Value.slice.injEq, and_true, true_and] at he2
   obtain ⟨rfl, rfl⟩ := he2; obtain ⟨xa, rfl⟩ : ∃ x, oc = some x := ⟨_, Ct hf.nil (show 0 < 4 by decide)⟩
   have hlen : (Ex.ite a d g).tree.parts.length = 4 := rfl
   have hev : Tr (Ex.ite a d g).tree = [1] := rfl
   simp only [Ex.ok, Bool.and_eq_true] at hok
   rw [show (Ex.ite a d g).tree.head = [105, 102] from rfl]; refine Od rfl rfl rfl (Aa ?_)
   first | refine Sf rfl (by decide) ?_ | refine Al (by simp [look, A7, *]) ?_
   refine Ae (Se rfl (Oa rfl (Aa (Ab (Se rfl ?_))))); refine A3 rfl .free rfl ?_; refine Ca rfl (Dd hf.rep _) ?_; rintro _ J0 _ e0 ⟨oq, ck, rfl, hn0, rfl⟩
   have hf := hf.mono e0
   have hk := hk.mono e0
   have ht := ht.mono e0
   have hle := hle.trans e0
   rw [hev] at hn0; rw [hev]; refine On rfl (Om rfl (Aa (Aj ?_))); refine Dz ?_; refine Se rfl (Oc rfl rfl rfl (Aa (Ab ?_))); refine Cc rfl (by first | rfl | decide | (simp; done) | omega) ?_; refine Ae (Ab (Aj (Se rfl ?_)))
   first | refine A5 rfl rfl _ rfl .free rfl ?_ | refine A6 rfl rfl _ rfl .free rfl ?_
   refine Ef rfl .free rfl ?_; refine Oa rfl (Aa (Se rfl (Om rfl (Oh rfl ?_)))); refine A1 rfl .free rfl ?_; refine Om rfl ?_
   first | refine A5 rfl rfl _ rfl .free rfl ?_ | refine A6 rfl rfl _ rfl .free rfl ?_
   refine D9 rfl .free rfl ?_; refine Om rfl ?_; refine D4 (fun w h => h.f1) ?_; refine Ca rfl (ihn ht m (by omega) (by omega) (hf.as 1 a.tree (by omega) rfl) hok.1.1 hk hkw (fun y hy => hd y (List.mem_append_left _ (List.mem_append_left _ hy))) b _) ?_; rintro _ J1 _ e1 ⟨p0, rfl, hp0, rfl⟩
   have hf := hf.mono e1
   have hk := hk.mono e1
   have ht := ht.mono e1
   have hn0 := hn0.mono e1
   have hle := hle.trans e1
   unfold Q7
   refine Oa rfl (Aa (Ab (Se rfl (Om rfl ?_)))); refine Gd rfl rfl .free rfl ?_; refine Aa ?_; refine As rfl ?_ ?_
   ·intro c5
    try simp only [nb] at c5
    obtain ⟨hv0, rfl⟩ := I7 hp0 c5
    have hRR : eval m a k = R := by
     rw [Io] at hR
     simpa only [hv0] using hR
    refine Se rfl (Oa rfl (Aa (Ad (.tmp rfl .nil) ?_))); subst hRR
    exact ⟨_, _, hle, Ms (L' := (b, _) :: L), none, rfl, by rw [hv0]; rfl, rfl⟩
   intro c5
   try simp only [nb] at c5
   obtain ⟨u, pu, hv0, rfl, hau⟩ := I8 hp0 (by simpa using c5); obtain ⟨wu, hst0⟩ := Jy hkw hok.1.1 (fun y hy => hd y (List.mem_append_left _ (List.mem_append_left _ hy))) hv0; rw [hst0]; refine Ae (Af rfl (Om rfl (Om rfl ?_))); refine Ol rfl rfl ?_; intro b62; refine Dw (B := none) (xs := []) (ys := [.pointer (some pu)]) (m := 0) (c := 0) (by intro kk; simp) (by rfl) rfl rfl ⟨rfl, rfl, rfl⟩ (fun _ h => h) (by rfl) (fun a ha => by cases ha; exact Ce (.head _) (by rfl)) (by simp) (by rfl) (by decide) (by decide) (by omega) (by decide) .free rfl ?_; intro bb sp c2 hB
   simp only [Cf, List.cons_append, List.nil_append, Nat.zero_add]
   refine Oa rfl (Aa (Ak (Af rfl ?_))); refine Or rfl rfl rfl ?_; refine Om rfl (Aa ?_); refine B0 ?_; refine Se rfl (Oc rfl rfl rfl (Aa (Ab ?_))); refine C5 rfl (by first | rfl | decide | (simp; done) | omega) ?_; refine Bz rfl ?_; refine Ab ?_; refine Bi ?_; intro hz
   have hq0 := Be (I := J1) (b := bb) (xs := [.pointer (some pu)]) (ys := sp) (T := 64) (fr := (0, 0))
   simp only [List.cons_append, List.nil_append] at hq0
   have hf := hf.mono hz
   have hk := hk.mono hz
   have ht := ht.mono hz
   have hle := hle.trans hz
   have hau := hau.mono hz
   have q0 : Still _ ((⟨bb, 0, none⟩ : Addr).add (0 * 1)) [.pointer (some pu)] := hq0.cellAt 0 rfl
   have hl1 := Cv m a k
   skip
   rw [Io] at hR
   simp only [hv0] at hR
   refine Bg (fun w h => Mem.sub (L' := (b, _) :: (b4, _) :: L) (by repeat (first | exact List.Sublist.refl _ | apply List.Sublist.cons_cons | apply List.Sublist.cons)) h) ?_; refine Af rfl ?_; refine A3 rfl .free rfl ?_; refine Ca rfl (Bk hf.rep _) ?_; rintro _ _ _ _ ⟨rfl, rfl, rfl⟩; rw [show (Ex.ite a d g).tree.head = [105, 102] from rfl]; refine Aa (Aj (Se rfl (Od rfl rfl rfl (Oa rfl (Aa ?_)))))
   first | refine St rfl (rfl) ?_ | refine Bj (by simp [look, A7, *]) ?_
   refine Se rfl ?_; obtain ⟨x1, x2, x3, su⟩ := hau.cell; refine Om rfl ?_
   first | refine A5 rfl rfl 0 rfl .free rfl ?_ | refine A6 rfl rfl 0 rfl .free rfl ?_
   refine Bs rfl (A9 q0 rfl) .free rfl ?_; refine Av rfl .free rfl ?_
   first | refine Oh rfl ?_ | refine Oj rfl ?_
   refine Bs rfl (Ba su (by rfl) rfl) .free rfl ?_; refine Aa (Aj (Se rfl (Od rfl rfl rfl (Oa rfl (Aa ?_))))); refine As rfl ?_ ?_
   ·intro c7
    try simp only [nb] at c7
    refine Se rfl (Om rfl ?_); refine Ca rfl (Ec _ b (eval m a k).left _) ?_; rintro _ _ _ _ ⟨rfl, rfl, rfl⟩; refine Oa rfl (Aa (Ad (.tmp rfl .nil) ?_))
    have hRR : (⟨none, (eval m a k).left, true⟩ : Res) = R := by
     cases u with
     | num s => exact absurd c7 (Wl wu)
     | _ => exact hR
    subst hRR
    exact ⟨_, _, hle, Ms (L' := (b, _) :: L), none, rfl, rfl, rfl⟩
   intro c7
   try simp only [nb] at c7
   obtain ⟨s, rfl, hs⟩ := Wk wu c7
   simp only at hR
   have hdb : ∀ y ∈ d.occ [], y ∈ k.dom := fun y hy => hd y (List.mem_append_left _ (List.mem_append_right _ hy))
   have hdc : ∀ y ∈ g.occ [], y ∈ k.dom := fun y hy => hd y (List.mem_append_right _ hy)
   refine Se rfl (Od rfl rfl rfl (Oa rfl (Aa ?_))); refine As rfl ?_ ?_
   ·intro c8
    try simp only [nb] at c8
    have hRR : eval (eval m a k).left d k = R := by rw [← hR, if_pos (show s = [48] from c8)]
    refine Af rfl (Oh rfl ?_); refine A1 rfl .free rfl ?_
    first | refine A5 rfl rfl 2 rfl .free rfl ?_ | refine A6 rfl rfl 2 rfl .free rfl ?_
    refine D9 rfl .free rfl ?_; refine Bn rfl rfl rfl rfl .free ?_; refine Aa ?_
    iterate 3 refine Ak ?_
    first
    | exact Bg (fun w h => h.f1) (Bp (E' := [(0, .pointer (some ⟨b, 0, none⟩)), (2, .pointer pk), (4, .pointer (some ⟨b4, 0, none⟩))]) ⟨rfl, rfl, rfl, trivial⟩ (ih ⟨d, k, pk, (eval m a k).left, _, oaf 2, cf 2⟩ ⟨hle, hf.as 2 d.tree (by omega) rfl, hok.1.2, hk, hkw, hdb, by show (eval m a k).left < N + 1; omega, by show (eval m a k).left ≤ 1000000; omega, hRR⟩ (by simp only; omega)))
    | exact Bg (fun w h => h.f1) (Bp (E' := [(0, .pointer (some ⟨b, 0, none⟩)), (2, .pointer pk), (4, .pointer (some ⟨b4, 0, none⟩))]) ⟨rfl, rfl, rfl, trivial⟩ (ih ⟨g, k, pk, (eval m a k).left, _, oaf 3, cf 3⟩ ⟨hle, hf.as 3 g.tree (by omega) rfl, hok.2, hk, hkw, hdc, by show (eval m a k).left < N + 1; omega, by show (eval m a k).left ≤ 1000000; omega, hRR⟩ (by simp only; omega)))
   intro c8
   try simp only [nb] at c8
   have hRR : eval (eval m a k).left g k = R := by rw [← hR, if_neg (show ¬ s = [48] from c8)]
   refine Af rfl (Oh rfl ?_); refine A1 rfl .free rfl ?_
   first | refine A5 rfl rfl 3 rfl .free rfl ?_ | refine A6 rfl rfl 3 rfl .free rfl ?_
   refine D9 rfl .free rfl ?_; refine Bn rfl rfl rfl rfl .free ?_; refine Aa ?_
   iterate 3 refine Ak ?_
   first
   | exact Bg (fun w h => h.f1) (Bp (E' := [(0, .pointer (some ⟨b, 0, none⟩)), (2, .pointer pk), (4, .pointer (some ⟨b4, 0, none⟩))]) ⟨rfl, rfl, rfl, trivial⟩ (ih ⟨d, k, pk, (eval m a k).left, _, oaf 2, cf 2⟩ ⟨hle, hf.as 2 d.tree (by omega) rfl, hok.1.2, hk, hkw, hdb, by show (eval m a k).left < N + 1; omega, by show (eval m a k).left ≤ 1000000; omega, hRR⟩ (by simp only; omega)))
   | exact Bg (fun w h => h.f1) (Bp (E' := [(0, .pointer (some ⟨b, 0, none⟩)), (2, .pointer pk), (4, .pointer (some ⟨b4, 0, none⟩))]) ⟨rfl, rfl, rfl, trivial⟩ (ih ⟨g, k, pk, (eval m a k).left, _, oaf 3, cf 3⟩ ⟨hle, hf.as 3 g.tree (by omega) rfl, hok.2, hk, hkw, hdc, by show (eval m a k).left < N + 1; omega, by show (eval m a k).left ≤ 1000000; omega, hRR⟩ (by simp only; omega)))
  ·skip
   refine Af rfl ?_; refine A3 rfl .free rfl ?_; refine Ca rfl (Bu hr _) ?_; rintro _ _ _ _ ⟨rfl, rfl, rfl⟩; rw [show (Ex.lt z a d).tree.parts.isEmpty = false from rfl]; refine Aa ?_
   first | refine Sf rfl (by simp) ?_ | refine Al (by simp [look, A7, *]) ?_
   refine Ae (Ab (Se rfl ?_)); refine A3 rfl .free rfl ?_; refine Ca rfl (Bk hr _) ?_; rintro _ _ _ _ ⟨rfl, rfl, rfl⟩; obtain ⟨oa2, c2, oaf, cf, he2, hf⟩ := hr.at'
   simp only [List.cons.injEq, Value.slice.injEq, and_true, true_and] at he2
   obtain ⟨rfl, rfl⟩ := he2; obtain ⟨xa, rfl⟩ : ∃ x, oc = some x := ⟨_, Ct hf.nil (show 0 < 4 by decide)⟩
   have hlen : (Ex.lt z a d).tree.parts.length = 4 := rfl
   have hev : Tr (Ex.lt z a d).tree = [2] := rfl
   simp only [Ex.ok, Bool.and_eq_true] at hok
   rw [show (Ex.lt z a d).tree.head = [108, 101, 116] from rfl]; refine Od rfl rfl rfl (Aa ?_)
   first | refine Sf rfl (by decide) ?_ | refine Al (by simp [look, A7, *]) ?_
   refine Ae (Se rfl (Oa rfl (Aa (Ab (Se rfl ?_))))); refine A3 rfl .free rfl ?_; refine Ca rfl (Dd hf.rep _) ?_; rintro _ J0 _ e0 ⟨oq, ck, rfl, hn0, rfl⟩
   have hf := hf.mono e0
   have hk := hk.mono e0
   have ht := ht.mono e0
   have hle := hle.trans e0
   rw [hev] at hn0; rw [hev]; refine On rfl (Om rfl (Aa (Aj ?_))); refine Dz ?_; refine Se rfl (Oc rfl rfl rfl (Aa (Ab ?_))); refine Cc rfl (by first | rfl | decide | (simp; done) | omega) ?_; refine Ae (Ab (Aj (Se rfl ?_)))
   first | refine A5 rfl rfl _ rfl .free rfl ?_ | refine A6 rfl rfl _ rfl .free rfl ?_
   refine Ef rfl .free rfl ?_; refine Oa rfl (Aa (Se rfl (Om rfl (Oh rfl ?_)))); refine A1 rfl .free rfl ?_; refine Om rfl ?_
   first | refine A5 rfl rfl _ rfl .free rfl ?_ | refine A6 rfl rfl _ rfl .free rfl ?_
   refine D9 rfl .free rfl ?_; refine Om rfl ?_; refine D4 (fun w h => h.f1) ?_; refine Ca rfl (ihn ht m (by omega) (by omega) (hf.as 2 a.tree (by omega) rfl) hok.1.2 hk hkw (fun y hy => hd y (List.mem_append_left _ hy)) b _) ?_; rintro _ J1 _ e1 ⟨p0, rfl, hp0, rfl⟩
   have hf := hf.mono e1
   have hk := hk.mono e1
   have ht := ht.mono e1
   have hn0 := hn0.mono e1
   have hle := hle.trans e1
   unfold Q7
   refine Oa rfl (Aa (Ab (Se rfl (Om rfl ?_)))); refine Gd rfl rfl .free rfl ?_; refine Aa ?_; refine As rfl ?_ ?_
   ·intro c5
    try simp only [nb] at c5
    obtain ⟨hv0, rfl⟩ := I7 hp0 c5
    have hRR : eval m a k = R := by
     rw [Jz] at hR
     simpa only [hv0] using hR
    refine Se rfl (Oa rfl (Aa (Ad (.tmp rfl .nil) ?_))); subst hRR
    exact ⟨_, _, hle, Ms (L' := (b, _) :: L), none, rfl, by rw [hv0]; rfl, rfl⟩
   intro c5
   try simp only [nb] at c5
   obtain ⟨u, pu, hv0, rfl, hau⟩ := I8 hp0 (by simpa using c5); obtain ⟨wu, hst0⟩ := Jy hkw hok.1.2 (fun y hy => hd y (List.mem_append_left _ hy)) hv0; rw [hst0]; refine Ae (Af rfl (Om rfl (Om rfl ?_))); refine Ol rfl rfl ?_; intro b62; refine Dw (B := none) (xs := []) (ys := [.pointer (some pu)]) (m := 0) (c := 0) (by intro kk; simp) (by rfl) rfl rfl ⟨rfl, rfl, rfl⟩ (fun _ h => h) (by rfl) (fun a ha => by cases ha; exact Ce (.head _) (by rfl)) (by simp) (by rfl) (by decide) (by decide) (by omega) (by decide) .free rfl ?_; intro bb sp c2 hB
   simp only [Cf, List.cons_append, List.nil_append, Nat.zero_add]
   refine Oa rfl (Aa (Ak (Af rfl ?_))); refine Or rfl rfl rfl ?_; refine Om rfl (Aa ?_); refine B0 ?_; refine Se rfl (Oc rfl rfl rfl (Aa (Ab ?_))); refine C5 rfl (by first | rfl | decide | (simp; done) | omega) ?_; refine Bz rfl ?_; refine Ab ?_; refine Bi ?_; intro hz
   have hq0 := Be (I := J1) (b := bb) (xs := [.pointer (some pu)]) (ys := sp) (T := 64) (fr := (0, 0))
   simp only [List.cons_append, List.nil_append] at hq0
   have hf := hf.mono hz
   have hk := hk.mono hz
   have ht := ht.mono hz
   have hle := hle.trans hz
   have hau := hau.mono hz
   have q0 : Still _ ((⟨bb, 0, none⟩ : Addr).add (0 * 1)) [.pointer (some pu)] := hq0.cellAt 0 rfl
   have hl1 := Cv m a k
   skip
   rw [Jz] at hR
   simp only [hv0] at hR
   refine Bg (fun w h => Mem.sub (L' := (b, _) :: (b4, _) :: L) (by repeat (first | exact List.Sublist.refl _ | apply List.Sublist.cons_cons | apply List.Sublist.cons)) h) ?_; refine Af rfl ?_; refine A3 rfl .free rfl ?_; refine Ca rfl (Bk hf.rep _) ?_; rintro _ _ _ _ ⟨rfl, rfl, rfl⟩; rw [show (Ex.lt z a d).tree.head = [108, 101, 116] from rfl]; refine Aa (Aj (Se rfl (Od rfl rfl rfl (Oa rfl (Aa ?_)))))
   first | refine Sf rfl (by decide) ?_ | refine Al (by simp [look, A7, *]) ?_
   refine Se rfl (Od rfl rfl rfl (Oa rfl (Aa ?_)))
   first | refine St rfl (rfl) ?_ | refine Bj (by simp [look, A7, *]) ?_
   refine Dp 16 rfl rfl ?_; refine Da 0 rfl (Ai rfl) ?_; refine Dt 1 [14] rfl (Br rfl) ?_
   first | refine Da 2 rfl (Bl rfl rfl 3 rfl) ?_ | refine Da 2 rfl (Bm rfl rfl 3 rfl) ?_
   refine Dt 3 [14] rfl (Bq rfl) ?_; refine Da 4 rfl (Ah rfl) ?_; refine Da 5 rfl (Ai rfl) ?_; refine Dt 6 [14] rfl (Br rfl) ?_
   first | refine Da 7 rfl (Bl rfl rfl 1 rfl) ?_ | refine Da 7 rfl (Bm rfl rfl 1 rfl) ?_
   refine Da 8 rfl (Bb rfl) ?_; refine Dt 9 [14] rfl (Jd rfl) ?_; refine Da 10 rfl (Ah rfl) ?_
   first | refine Da 11 rfl (Bl rfl rfl 0 rfl) ?_ | refine Da 11 rfl (Bm rfl rfl 0 rfl) ?_
   refine Dt 12 [14] rfl (Eh rfl (A9 q0 rfl)) ?_; refine Dc 13 rfl rfl (Kv hk z hau _) ?_; rintro _ J2 _ e2 ⟨y2, rfl, hk2, rfl⟩
   have hf := hf.mono e2
   have hle := hle.trans e2
   refine Hx ?_; refine Dx 14 rfl rfl rfl rfl ?_; refine Db 15 rfl (A2 rfl) ?_; refine At (by kernel_rfl) ?_; refine Ak (Ak ?_); refine Bg (fun w h => h.f1) (Bp (E' := [(0, .pointer (some ⟨b, 0, none⟩)), (2, .pointer (some y2)), (4, .pointer (some ⟨b4, 0, none⟩))]) ⟨rfl, rfl, rfl, trivial⟩ (ih ⟨d, .cons z u k, some y2, (eval m a k).left, _, oaf 3, cf 3⟩ ⟨hle, hf.as 3 d.tree (by omega) rfl, hok.2, hk2, ⟨hok.1.1, wu, hkw⟩, fun y hy => ?_, by show (eval m a k).left < N + 1; omega, by show (eval m a k).left ≤ 1000000; omega, hR⟩ (by simp only; omega)))
   simp only [KE.dom, List.mem_cons]
   by_cases hyx : y = z
   ·exact .inl hyx
   ·exact .inr (hd y (List.mem_append_right _ (show y ∈ d.occ ([] ++ [z]) from Ex.occ_mem.2 ⟨hy, by simpa using hyx⟩)))
  ·skip
   refine Af rfl ?_; refine A3 rfl .free rfl ?_; refine Ca rfl (Bu hr _) ?_; rintro _ _ _ _ ⟨rfl, rfl, rfl⟩; rw [show (Ex.un o a).tree.parts.isEmpty = false from rfl]; refine Aa ?_
   first | refine Sf rfl (by simp) ?_ | refine Al (by simp [look, A7, *]) ?_
   refine Ae (Ab (Se rfl ?_)); refine A3 rfl .free rfl ?_; refine Ca rfl (Bk hr _) ?_; rintro _ _ _ _ ⟨rfl, rfl, rfl⟩; obtain ⟨oa2, c2, oaf, cf, he2, hf⟩ := hr.at'
   simp only [List.cons.injEq, Value.slice.injEq, and_true, true_and] at he2
   obtain ⟨rfl, rfl⟩ := he2; obtain ⟨xa, rfl⟩ : ∃ x, oc = some x := ⟨_, Ct hf.nil (show 0 < 2 by decide)⟩
   have hlen : (Ex.un o a).tree.parts.length = 2 := rfl
   have hev : Tr (Ex.un o a).tree = [1] := by cases o <;> rfl
   simp only [Ex.ok, Bool.and_eq_true] at hok
   rw [show (Ex.un o a).tree.head = o.txt from rfl]; refine Od rfl rfl rfl (Aa ?_)
   first | refine E9 rfl (o.txt_ne.2.2.1) ?_ | refine E8 rfl (o.txt_ne.2.2.1) ?_ | refine Al (by simp [look, A7, *]) ?_
   refine Ae (Se rfl (Oa rfl (Aa (Ab (Se rfl ?_))))); refine A3 rfl .free rfl ?_; refine Ca rfl (Dd hf.rep _) ?_; rintro _ J0 _ e0 ⟨oq, ck, rfl, hn0, rfl⟩
   have hf := hf.mono e0
   have hk := hk.mono e0
   have ht := ht.mono e0
   have hle := hle.trans e0
   rw [hev] at hn0; rw [hev]; refine On rfl (Om rfl (Aa (Aj ?_))); refine Dz ?_; refine Se rfl (Oc rfl rfl rfl (Aa (Ab ?_))); refine Cc rfl (by first | rfl | decide | (simp; done) | omega) ?_; refine Ae (Ab (Aj (Se rfl ?_)))
   first | refine A5 rfl rfl _ rfl .free rfl ?_ | refine A6 rfl rfl _ rfl .free rfl ?_
   refine Ef rfl .free rfl ?_; refine Oa rfl (Aa (Se rfl (Om rfl (Oh rfl ?_)))); refine A1 rfl .free rfl ?_; refine Om rfl ?_
   first | refine A5 rfl rfl _ rfl .free rfl ?_ | refine A6 rfl rfl _ rfl .free rfl ?_
   refine D9 rfl .free rfl ?_; refine Om rfl ?_; refine D4 (fun w h => h.f1) ?_; refine Ca rfl (ihn ht m (by omega) (by omega) (hf.as 1 a.tree (by omega) rfl) hok hk hkw (fun y hy => hd y hy) b _) ?_; rintro _ J1 _ e1 ⟨p0, rfl, hp0, rfl⟩
   have hf := hf.mono e1
   have hk := hk.mono e1
   have ht := ht.mono e1
   have hn0 := hn0.mono e1
   have hle := hle.trans e1
   unfold Q7
   refine Oa rfl (Aa (Ab (Se rfl (Om rfl ?_)))); refine Gd rfl rfl .free rfl ?_; refine Aa ?_; refine As rfl ?_ ?_
   ·intro c5
    try simp only [nb] at c5
    obtain ⟨hv0, rfl⟩ := I7 hp0 c5
    have hRR : eval m a k = R := by
     rw [J8] at hR
     simpa only [hv0] using hR
    refine Se rfl (Oa rfl (Aa (Ad (.tmp rfl .nil) ?_))); subst hRR
    exact ⟨_, _, hle, Ms (L' := (b, _) :: L), none, rfl, by rw [hv0]; rfl, rfl⟩
   intro c5
   try simp only [nb] at c5
   obtain ⟨u, pu, hv0, rfl, hau⟩ := I8 hp0 (by simpa using c5); obtain ⟨wu, hst0⟩ := Jy hkw hok (fun y hy => hd y hy) hv0; rw [hst0]; refine Ae (Af rfl (Om rfl (Om rfl ?_))); refine Ol rfl rfl ?_; intro b62; refine Dw (B := none) (xs := []) (ys := [.pointer (some pu)]) (m := 0) (c := 0) (by intro kk; simp) (by rfl) rfl rfl ⟨rfl, rfl, rfl⟩ (fun _ h => h) (by rfl) (fun a ha => by cases ha; exact Ce (.head _) (by rfl)) (by simp) (by rfl) (by decide) (by decide) (by omega) (by decide) .free rfl ?_; intro bb sp c2 hB
   simp only [Cf, List.cons_append, List.nil_append, Nat.zero_add]
   refine Oa rfl (Aa (Ak (Af rfl ?_))); refine Or rfl rfl rfl ?_; refine Om rfl (Aa ?_); refine B0 ?_; refine Se rfl (Oc rfl rfl rfl (Aa (Ab ?_))); refine C5 rfl (by first | rfl | decide | (simp; done) | omega) ?_; refine Bz rfl ?_; refine Ab ?_; refine Bi ?_; intro hz
   have hq0 := Be (I := J1) (b := bb) (xs := [.pointer (some pu)]) (ys := sp) (T := 64) (fr := (0, 0))
   simp only [List.cons_append, List.nil_append] at hq0
   have hf := hf.mono hz
   have hk := hk.mono hz
   have ht := ht.mono hz
   have hle := hle.trans hz
   have hau := hau.mono hz
   have q0 : Still _ ((⟨bb, 0, none⟩ : Addr).add (0 * 1)) [.pointer (some pu)] := hq0.cellAt 0 rfl
   have hl1 := Cv m a k
   skip
   rw [J8] at hR
   simp only [hv0] at hR
   refine Bg (fun w h => Mem.sub (L' := (b, _) :: (b4, _) :: L) (by repeat (first | exact List.Sublist.refl _ | apply List.Sublist.cons_cons | apply List.Sublist.cons)) h) ?_; refine Af rfl ?_; refine A3 rfl .free rfl ?_; refine Ca rfl (Bk hf.rep _) ?_; rintro _ _ _ _ ⟨rfl, rfl, rfl⟩; rw [show (Ex.un o a).tree.head = o.txt from rfl]; refine Aa (Aj (Se rfl (Od rfl rfl rfl (Oa rfl (Aa ?_)))))
   first | refine E9 rfl (o.txt_ne.1) ?_ | refine E8 rfl (o.txt_ne.1) ?_ | refine Al (by simp [look, A7, *]) ?_
   refine Se rfl (Od rfl rfl rfl (Oa rfl (Aa ?_)))
   first | refine E9 rfl (o.txt_ne.2.1) ?_ | refine E8 rfl (o.txt_ne.2.1) ?_ | refine Al (by simp [look, A7, *]) ?_
   refine Se rfl (Od rfl rfl rfl (Oa rfl (Aa ?_)))
   first | refine E9 rfl (fun h => Lr .call o h.symm) ?_ | refine E8 rfl (fun h => Lr .call o h.symm) ?_ | refine Al (by simp [look, A7, *]) ?_
   refine Se rfl (Om rfl ?_); refine A3 rfl .free rfl ?_; refine Ca rfl (Bk hf.rep _) ?_; rintro _ _ _ _ ⟨rfl, rfl, rfl⟩; rw [show (Ex.un o a).tree.head = o.txt from rfl]; refine Om rfl ?_; refine Ca rfl (Ug hq0 hau b (eval m a k).left _) ?_; rintro _ J3 _ e3 ⟨p3, rfl, hp3, rfl⟩; refine Oa rfl (Aa (Ad (.tmp rfl .nil) ?_))
   have hRR : Res.of (o.act u) (eval m a k).left = R := hR
   subst hRR
   exact ⟨J3, _, hle.trans e3, fun w h => Mem.sub (L' := Q7 b _ _ :: L) (by repeat (first | exact List.Sublist.refl _ | apply List.Sublist.cons_cons | apply List.Sublist.cons)) h, p3, rfl, hp3, rfl⟩
theorem Mk {I : Heap} (ht : Tab I) {e : Ex} {cs : List Value} {k : KE} {pk : Option Addr} (n : Nat) (hm : n ≤ 1000000) (h : Rep I e.tree cs) (hok : e.ok = true) (hk : KEat I k pk) (hkw : k.wf) (hd : ∀ y ∈ e.occ [], y ∈ k.dom) (b : Nat) (L : Bh) :
  Fun Tryz.prog 48 [.pointer (some ⟨b, 0, none⟩), .agg cs.toArray, .pointer pk] I (Q7 b n false :: L) (EVP b (eval n e k) L) := X1 _ ht n (Nat.lt_succ_self _) hm h hok hk hkw hd b L
end Go.Proofs.YtfddjcmeejjhiaaGreatDoor

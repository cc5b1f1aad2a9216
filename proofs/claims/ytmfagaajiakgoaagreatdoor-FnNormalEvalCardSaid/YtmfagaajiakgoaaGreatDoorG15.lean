/- What is evaluated with kept names is reached by steps. No conditions. -/
import Derived.Test.YtmfagaajiakgoaaGreatDoorG14
import Derived.Laws.Pointers

namespace Go.Proofs.YtmfagaajiakgoaaGreatDoor
set_option maxRecDepth 100000
set_option linter.unusedVariables false
set_option linter.unusedSimpArgs false

mutual
def KV.ex : KV → Ex
 | .num s => .num s
 | .pair a b => .bin .pair a.ex b.ex
 | .clo f x s t b r => .fn f x s t (r.cl [f, x] b)
def KE.cl : KE → List As → Ex → Ex
 | .nil, _, e => e
 | .cons n v up, bd, e => up.cl bd (e.putIf n v.ex bd)
end
def KE.dom : KE → List As
 | .nil => []
 | .cons n _ up => n :: up.dom
mutual
def KV.wf : KV → Prop
 | .num s => Ci s = true
 | .pair a b => a.wf ∧ b.wf
 | .clo f x s t b r => r.wf ∧ (Ex.fn f x s t b).ok = true ∧ ∀ y ∈ b.occ [], y ∈ [f, x] ∨ y ∈ r.dom
def KE.wf : KE → Prop
 | .nil => True
 | .cons n v up => B0 n = true ∧ v.wf ∧ up.wf
end
theorem Ab6 (s n : As) (v : Ex) (a : List As) : (Ex.num s).putIf n v a = .num s := by unfold Ex.putIf; split <;> rfl
theorem Acw : ∀ (r : KE) (bd : List As) (s : As), r.cl bd (.num s) = .num s
 | .nil, _, _ => rfl
 | .cons n v up, bd, s => by rw [KE.cl, Ab6]; exact Acw up bd s
theorem Acu : ∀ (r : KE) (bd : List As) (o : B5) (a b : Ex), r.cl bd (.bin o a b) = .bin o (r.cl bd a) (r.cl bd b)
 | .nil, _, _, _, _ => rfl
 | .cons n v up, bd, o, a, b => by rw [KE.cl, Vb]; exact Acu up bd o _ _
theorem Acv : ∀ (r : KE) (bd : List As) (a b c : Ex), r.cl bd (.ite a b c) = .ite (r.cl bd a) (r.cl bd b) (r.cl bd c)
 | .nil, _, _, _, _ => rfl
 | .cons n v up, bd, a, b, c => by rw [KE.cl, Vc]; exact Acv up bd _ _ _
theorem Af4 : ∀ (r : KE) (bd : List As) (o : U2) (a : Ex), r.cl bd (.un o a) = .un o (r.cl bd a)
 | .nil, _, _, _ => rfl
 | .cons n v up, bd, o, a => by rw [KE.cl, Yq]; exact Af4 up bd o _
theorem Af3 : ∀ (r : KE) (bd : List As) (x : As) (a b : Ex), r.cl bd (.lt x a b) = .lt x (r.cl bd a) (r.cl (bd ++ [x]) b)
 | .nil, _, _, _, _ => rfl
 | .cons n v up, bd, x, a, b => by rw [KE.cl, Yp]; exact Af3 up bd x _ _
theorem Af2 : ∀ (r : KE) (bd : List As) (f x : As) (s t : Ty) (b : Ex), r.cl bd (.fn f x s t b) = .fn f x s t (r.cl (bd ++ [f, x]) b)
 | .nil, _, _, _, _, _, _ => rfl
 | .cons n v up, bd, f, x, s, t, b => by rw [KE.cl, Yo]; exact Af2 up bd f x s t _
theorem Hq {n x : As} {v w : Ex} (hv : v.occ [] = []) (hw : w.occ [] = []) (h : n ≠ x) : ∀ e : Ex, (e.put n v).put x w = (e.put x w).put n v
 | .num _ => rfl
 | .name s => by
  simp only [Ex.put]
  by_cases h1 : s = n
  ·have h2 : ¬ s = x := fun e => h (h1.symm.trans e)
   simp only [h1, if_true, if_neg h, Ex.put]
   rw [Ex.put_id (by rw [hv]; simp)]
  ·by_cases h2 : s = x
   ·simp only [h2, if_true, if_neg (Ne.symm h), Ex.put]
    rw [Ex.put_id (by rw [hw]; simp)]
   ·simp only [h1, h2, if_false, Ex.put]
 | .bin o a b => by simp only [Ex.put, Hq hv hw h a, Hq hv hw h b]
 | .ite a b c => by simp only [Ex.put, Hq hv hw h a, Hq hv hw h b, Hq hv hw h c]
 | .lt y a b => by
  simp only [Ex.put, Hq hv hw h a]
  by_cases h1 : y = n
  ·by_cases h2 : y = x
   ·simp only [h1, h2, if_true]
   ·simp only [h1, if_true]
  ·by_cases h2 : y = x
   ·simp only [h2, if_true]
   ·simp only [h1, h2, if_false, Hq hv hw h b]
 | .fn f y s t b => by
  simp only [Ex.put]
  by_cases h1 : f = n ∨ y = n
  ·by_cases h2 : f = x ∨ y = x
   ·simp only [if_pos h1, if_pos h2]
   ·simp only [if_pos h1, if_neg h2]
  ·by_cases h2 : f = x ∨ y = x
   ·simp only [if_pos h2, if_neg h1]
   ·simp only [if_neg h1, if_neg h2, Hq hv hw h b]
 | .un o a => by simp only [Ex.put, Hq hv hw h a]
theorem Wr {e : Ex} (h : e.occ [] = []) (n : As) (v : Ex) (bd : List As) : e.putIf n v bd = e := by
 unfold Ex.putIf
 split
 ·rfl
 ·exact Ex.put_id (by rw [h]; simp)
theorem Uo : ∀ (r : KE) (bd : List As) {e : Ex}, e.occ [] = [] → r.cl bd e = e
 | .nil, _, _, _ => rfl
 | .cons n v up, bd, e, h => by rw [KE.cl, Wr h]; exact Uo up bd h
theorem Xc : ∀ (r : KE) {bd bd' : List As} (_ : ∀ n, n ∈ bd ↔ n ∈ bd') (e : Ex), r.cl bd e = r.cl bd' e
 | .nil, _, _, _, _ => rfl
 | .cons n v up, bd, bd', h, e => by
  rw [KE.cl, KE.cl]
  have : e.putIf n v.ex bd = e.putIf n v.ex bd' := by
   by_cases hn : n ∈ bd
   ·rw [Kw hn, Kw ((h n).1 hn)]
   ·rw [Fy hn, Fy (fun h' => hn ((h n).2 h'))]
  rw [this]; exact Xc up h _
mutual
theorem KV.closed : ∀ {v : KV}, v.wf → v.ex.occ [] = [] ∧ v.ex.value = true ∧ v.ex.ok = true
 | .num s, h => ⟨rfl, rfl, h⟩
 | .pair a b, h => by
  have h1 := KV.closed h.1
  have h2 := KV.closed h.2
  exact ⟨by simp only [KV.ex, Ex.occ, h1.1, h2.1, List.append_nil], by simp only [KV.ex, Ex.value, h1.2.1, h2.2.1, Bool.and_self], by simp only [KV.ex, Ex.ok, h1.2.2, h2.2.2, Bool.and_self]⟩
 | .clo f x s t b r, h => by
  have hok := h.2.1
  simp only [Ex.ok, Bool.and_eq_true] at hok
  obtain ⟨h1, h2⟩ := KE.closed h.1 [f, x] b hok.2; refine ⟨?_, rfl, ?_⟩
  ·show (r.cl [f, x] b).occ ([] ++ [f, x]) = []
   rw [Tf]; intro y hy; obtain ⟨hy1, hy2⟩ := h1 y hy
   rcases h.2.2 y hy1 with h3 | h3
   ·exact h3
   ·rcases hy2 with h4 | h4
    ·exact h4
    ·exact absurd h3 h4
  ·simp only [KV.ex, Ex.ok, Bool.and_eq_true]
   exact ⟨hok.1, h2⟩
theorem KE.closed : ∀ {r : KE}, r.wf → ∀ (bd : List As) (e : Ex), e.ok = true → (∀ y ∈ (r.cl bd e).occ [], y ∈ e.occ [] ∧ (y ∈ bd ∨ y ∉ r.dom)) ∧ (r.cl bd e).ok = true
 | .nil, _, bd, e, he => ⟨fun y hy => ⟨hy, .inr (by simp [KE.dom])⟩, he⟩
 | .cons n v up, h, bd, e, he => by
  have hv := KV.closed h.2.1
  have hok : (e.putIf n v.ex bd).ok = true := by
   unfold Ex.putIf
   split
   ·exact he
   ·exact Ex.put_ok he hv.2.2
  obtain ⟨h1, h2⟩ := KE.closed h.2.2 bd (e.putIf n v.ex bd) hok; refine ⟨fun y hy => ?_, h2⟩; obtain ⟨h3, h4⟩ := h1 y hy
  by_cases hn : n ∈ bd
  ·rw [Kw hn] at h3; refine ⟨h3, ?_⟩
   rcases h4 with h4 | h4
   ·exact .inl h4
   ·by_cases hyn : y = n
    ·exact .inl (hyn ▸ hn)
    ·exact .inr (by simp only [KE.dom, List.mem_cons, not_or]; exact ⟨hyn, h4⟩)
  ·rw [Fy hn] at h3; obtain ⟨h5, h6⟩ := (Ex.put_occ hv.1).1 h3; refine ⟨h5, ?_⟩
   rcases h4 with h4 | h4
   ·exact .inl h4
   ·exact .inr (by simp only [KE.dom, List.mem_cons, not_or]; exact ⟨h6, h4⟩)
end
theorem Qb : ∀ {r : KE} (_ : r.wf) {bd : List As} {x : As} {w : Ex} (_ : w.occ [] = []) (_ : x ∉ bd) (e : Ex), r.cl bd (e.put x w) = (r.cl (bd ++ [x]) e).put x w
 | .nil, _, _, _, _, _, _, _ => rfl
 | .cons n v up, h, bd, x, w, hw, hx, e => by
  have hv := (KV.closed h.2.1).1
  rw [KE.cl, KE.cl]
  by_cases hn : n ∈ bd
  ·rw [Kw hn, Kw (show n ∈ bd ++ [x] by simp [hn])]
   exact Qb h.2.2 hw hx e
  ·rw [Fy hn]
   by_cases hnx : n = x
   ·subst hnx; rw [Kw (show n ∈ bd ++ [n] by simp)]; rw [Ex.put_id (e := e.put n w) (by rw [Ex.put_occ hw]; simp)]
    exact Qb h.2.2 hw hx e
   ·rw [Fy (show n ∉ bd ++ [x] by simp [hn, hnx]), Hq hw hv (Ne.symm hnx)]
    exact Qb h.2.2 hw hx _
theorem Aae : ∀ {r : KE} (_ : r.wf) (s : As), (∀ v, r.look s = some v → r.cl [] (.name s) = v.ex ∧ v.wf) ∧ (r.look s = none → s ∉ r.dom)
 | .nil, _, s => ⟨fun v hv => (by cases hv), fun _ => (by simp [KE.dom])⟩
 | .cons n v up, h, s => by
  simp only [KE.look, KE.cl]
  by_cases hn : n = s
  ·subst hn; refine ⟨fun u hu => ?_, fun hu => by rw [if_pos rfl] at hu; cases hu⟩; rw [if_pos rfl] at hu; obtain rfl := Option.some.inj hu; rw [Fy (by simp)]
   simp only [Ex.put, if_true]
   exact ⟨Uo up [] (KV.closed h.2.1).1, h.2.1⟩
  ·rw [if_neg hn, Fy (by simp)]
   simp only [Ex.put, if_neg (Ne.symm hn)]
   obtain ⟨h1, h2⟩ := Aae h.2.2 s
   exact ⟨h1, fun hu => by simp only [KE.dom, List.mem_cons, not_or]; exact ⟨Ne.symm hn, h2 hu⟩⟩
inductive Goes : Ex → Ex → Prop
 | refl {e : Ex} : Goes e e
 | next {e d f : Ex} : e.step = some d → Goes d f → Goes e f
theorem Goes.trans {a b c : Ex} (h : Goes a b) (h' : Goes b c) : Goes a c := by
 induction h with
 | refl => exact h'
 | next hs _ ih => exact .next hs (ih h')
theorem Pb {e d : Ex} (h : e.step = some d) : e.value = false := by
 cases hv : e.value with
 | false => rfl
 | true => rw [Z6 hv] at h; cases h
theorem Goes.bin1 {o : B5} {a a' b : Ex} (h : Goes a a') : Goes (.bin o a b) (.bin o a' b) := by
 induction h with
 | refl => exact .refl
 | next hs _ ih => exact .next Nt ih
theorem Goes.bin2 {o : B5} {a b b' : Ex} (ha : a.value = true) (h : Goes b b') : Goes (.bin o a b) (.bin o a b') := by
 induction h with
 | refl => exact .refl
 | next hs _ ih => exact .next (by simp only [Ex.step, ha, Bool.true_eq_false, if_false, Pb hs, if_true, hs, Option.map_some]) ih
theorem Goes.ite1 {a a' b c : Ex} (h : Goes a a') : Goes (.ite a b c) (.ite a' b c) := by
 induction h with
 | refl => exact .refl
 | next hs _ ih => exact .next Nt ih
theorem Goes.lt1 {x : As} {a a' b : Ex} (h : Goes a a') : Goes (.lt x a b) (.lt x a' b) := by
 induction h with
 | refl => exact .refl
 | next hs _ ih => exact .next Nt ih
theorem Goes.un1 {o : U2} {a a' : Ex} (h : Goes a a') : Goes (.un o a) (.un o a') := by
 induction h with
 | refl => exact .refl
 | next hs _ ih => exact .next Nt ih
theorem Goes.end {e v d : Ex} (h : Goes e v) (hv : v.step = none) (h' : Goes e d) (hd : d.step = none) : v = d := by
 induction h with
 | refl =>
  cases h' with
  | refl => rfl
  | next hs _ => rw [hv] at hs; cases hs
 | next hs _ ih =>
  cases h' with
  | refl => rw [hd] at hs; cases hs
  | next hs' h2 =>
   rw [hs] at hs'; obtain rfl := Option.some.inj hs'
   exact ih hv h2
def Ex.jam (e : Ex) : Prop := e.value = false ∧ e.step = none
theorem Adp {o : B5} {a b : Ex} (h : a.jam) : (Ex.bin o a b).jam := ⟨by cases o <;> simp [Ex.value, h.1], by simp only [Ex.step, h.1, if_true, h.2, Option.map_none]⟩
theorem Adq {o : B5} {a b : Ex} (ha : a.value = true) (h : b.jam) : (Ex.bin o a b).jam := ⟨by cases o <;> simp [Ex.value, h.1], by simp only [Ex.step, ha, Bool.true_eq_false, if_false, h.1, if_true, h.2, Option.map_none]⟩
theorem Aff {a b c : Ex} (h : a.jam) : (Ex.ite a b c).jam := ⟨rfl, by simp only [Ex.step, h.1, if_true, h.2, Option.map_none]⟩
theorem Agp {x : As} {a b : Ex} (h : a.jam) : (Ex.lt x a b).jam := ⟨rfl, by simp only [Ex.step, h.1, if_true, h.2, Option.map_none]⟩
theorem Agq {o : U2} {a : Ex} (h : a.jam) : (Ex.un o a).jam := ⟨rfl, by simp only [Ex.step, h.1, if_true, h.2, Option.map_none]⟩
def Res.says (r : Res) (e : Ex) : Prop := match r.v with
 | some w => w.wf ∧ Goes e w.ex ∧ r.stuck = false
 | none => r.stuck = true → ∃ d, Goes e d ∧ d.jam
theorem Res.says.from {r : Res} {e e' : Ex} (h : r.says e') (hg : Goes e e') : r.says e := by
 unfold Res.says at h ⊢
 split at h
 ·exact ⟨h.1, hg.trans h.2.1, h.2.2⟩
 ·intro hs; obtain ⟨d, h1, h2⟩ := h hs; exact ⟨d, hg.trans h1, h2⟩
theorem Res.says.up {r : Res} {e e' : Ex} (hn : r.v = none) (h : r.says e') (hg : ∀ d, Goes e' d → d.jam → ∃ d', Goes e d' ∧ d'.jam) : r.says e := by
 unfold Res.says at h ⊢
 rw [hn] at h ⊢; intro hs; obtain ⟨d, h1, h2⟩ := h hs
 exact hg d h1 h2
theorem Res.says.some {r : Res} {e : Ex} {w : KV} (hn : r.v = Option.some w) (h : r.says e) : w.wf ∧ Goes e w.ex := by
 unfold Res.says at h
 rw [hn] at h
 exact ⟨h.1, h.2.1⟩
theorem Acn {o : B5} {u w : KV} (hu : u.wf) (hw : w.wf) (n : Nat) (hc : ∀ f x s t b r, ¬ (o = .call ∧ u = .clo f x s t b r)) : (Res.of (o.act u w) n).says (.bin o u.ex w.ex) := by
 have vu := (KV.closed hu).2.1
 have vw := (KV.closed hw).2.1
 have hst : (Ex.bin o u.ex w.ex).step = (Ex.bin o u.ex w.ex).turn := by simp only [Ex.step, vu, vw, Bool.true_eq_false, if_false]
 cases o with
 | pair => exact ⟨⟨hu, hw⟩, .refl, rfl⟩
 | call =>
  intro _; refine ⟨_, .refl, rfl, ?_⟩; rw [hst]
  cases u with
  | num s => cases w <;> rfl
  | pair a b => rfl
  | clo f x s t b r => exact absurd ⟨rfl, rfl⟩ (hc f x s t b r)
 | _ =>
  cases u with
  | num s =>
   cases w with
   | num q => exact ⟨(Yt _ s q).1, .next (by rw [hst]; rfl) .refl, rfl⟩
   | _ => exact fun _ => ⟨_, .refl, rfl, by rw [hst]; rfl⟩
  | pair a b => exact fun _ => ⟨_, .refl, rfl, by rw [hst]; rfl⟩
  | clo f x s t b r => exact fun _ => ⟨_, .refl, rfl, by rw [hst]; cases w <;> rfl⟩
theorem Aa0 {o : U2} {u : KV} (hu : u.wf) (n : Nat) : (Res.of (o.act u) n).says (.un o u.ex) := by
 have vu := (KV.closed hu).2.1
 have hst : (Ex.un o u.ex).step = (Ex.un o u.ex).turn := by simp only [Ex.step, vu, Bool.true_eq_false, if_false]
 cases u with
 | pair a b =>
  cases o with
  | fst => exact ⟨hu.1, .next (by rw [hst]; rfl) .refl, rfl⟩
  | snd => exact ⟨hu.2, .next (by rw [hst]; rfl) .refl, rfl⟩
 | num s => cases o <;> exact fun _ => ⟨_, .refl, rfl, by rw [hst]; rfl⟩
 | clo f x s t b r => cases o <;> exact fun _ => ⟨_, .refl, rfl, by rw [hst]; rfl⟩
theorem Is : ∀ (n : Nat) (e : Ex) (k : KE), k.wf → e.ok = true → (∀ y ∈ e.occ [], y ∈ k.dom) → (eval n e k).says (k.cl [] e) := by
 intro n
 induction n using Nat.strongRecOn with
 | _ n ih =>
  intro e k hk hok hd
  cases n with
  | zero => rw [Lw]; exact fun h => by cases h
  | succ n =>
   have hl := fun e k => Co n e k
   cases e with
   | num s => rw [Kn, Acw]; exact ⟨hok, .refl, rfl⟩
   | name s =>
    rw [Hv]; obtain ⟨h1, h2⟩ := Aae hk s
    cases hs : k.look s with
    | none => exact fun h => by cases h
    | some v => obtain ⟨h3, h4⟩ := h1 v hs; rw [h3]; exact ⟨h4, .refl, rfl⟩
   | fn f x s t b =>
    rw [Kc, Af2]; refine ⟨⟨hk, hok, fun y hy => ?_⟩, .refl, rfl⟩
    by_cases hm : y ∈ [f, x]
    ·exact .inl hm
    ·exact .inr (hd y (show y ∈ b.occ ([] ++ [f, x]) from Ex.occ_mem.2 ⟨hy, by simpa using hm⟩))
   | bin o a b =>
    simp only [Ex.ok, Bool.and_eq_true] at hok
    have ha := ih n Aa a k hk hok.1 (fun y hy => hd y (List.mem_append_left _ hy))
    have hb := ih (eval n a k).left (by have := hl a k; omega) b k hk hok.2 (fun y hy => hd y (List.mem_append_right _ hy))
    have hlb := Co (eval n a k).left b k
    have hla := hl a k
    rw [I3, Acu]
    cases hp : (eval n a k).v with
    | none => exact ha.up hp fun d h1 h2 => ⟨_, .bin1 h1, Adp h2⟩
    | some u =>
     obtain ⟨hu, gu⟩ := ha.some hp
     simp only
     cases hq : (eval (eval n a k).left b k).v with
     | none => exact (hb.up hq fun d h1 h2 => ⟨_, .bin2 (KV.closed hu).2.1 h1, Adq (KV.closed hu).2.1 h2⟩ : Res.says _ (.bin o u.ex (k.cl [] b))).from gu.bin1
     | some w =>
      obtain ⟨hw, gw⟩ := hb.some hq
      have g2 : Goes (.bin o (k.cl [] a) (k.cl [] b)) (.bin o u.ex w.ex) := gu.bin1.trans (.bin2 (KV.closed hu).2.1 gw)
      simp only
      split
      ·rename_i o' u' f x s t c r
       have hcl := hu
       obtain ⟨hr, hfok, hfd⟩ := hu
       have hfok' := hfok
       simp only [Ex.ok, Bool.and_eq_true, decide_eq_true_eq] at hfok'
       obtain ⟨⟨⟨⟨⟨nf, nx⟩, hfx⟩, _⟩, _⟩, hcok⟩ := hfok'; refine (ih _ Aa c (.cons x w (.cons f (.clo f x s t c r) r)) ⟨nx, hw, nf, hcl, hr⟩ hcok (fun y hy => ?_)).from (g2.trans (.next ?_ .refl))
       ·simp only [KE.dom, List.mem_cons]
        rcases hfd y hy with h | h
        ·simp only [List.mem_cons, List.not_mem_nil, or_false] at h
         rcases h with h | h
         ·exact .inr (.inl h)
         ·exact .inl h
        ·exact .inr (.inr h)
       ·have vw := (KV.closed hw).2.1
        simp only [Ex.step, (KV.closed hcl).2.1, vw, Bool.true_eq_false, if_false]
        show some (((r.cl [f, x] c).put f (KV.clo f x s t c r).ex).put x w.ex) = _
        congr 1
        simp only [KE.cl]
        rw [Fy Ae, Fy Ae]; rw [Hq (KV.closed hw).1 (KV.closed hcl).1 (Ne.symm hfx)]; rw [Qb hr (KV.closed hw).1 Ae, Qb hr (KV.closed hcl).1 (by simpa using hfx)]; rw [Xc r (bd := [f, x]) (bd' := [] ++ [x] ++ [f]) (by intro n; simp [or_comm])]
      ·rename_i hno
       exact (Acn hu hw _ (fun f x s t c r h => hno f x s t c r h.1 h.2)).from g2
   | ite a b c =>
    simp only [Ex.ok, Bool.and_eq_true] at hok
    have ha := ih n Aa a k hk hok.1.1 (fun y hy => hd y (List.mem_append_left _ (List.mem_append_left _ hy)))
    have hla := hl a k
    rw [Hm, Acv]
    split
    ·rename_i hp; exact ha.up hp fun d h1 h2 => ⟨_, .ite1 h1, Aff h2⟩
    ·rename_i s hp
     obtain ⟨hu, gu⟩ := ha.some hp
     have hst : (Ex.ite (.num s) (k.cl [] b) (k.cl [] c)).step = some (k.cl [] (if s = [48] then b else c)) := by
      simp only [Ex.step, Ex.value, Bool.true_eq_false, if_false, Ex.turn]
      split <;> rfl
     refine (ih _ Aa _ k hk ?_ ?_).from (gu.ite1.trans (.next hst .refl))
     ·split
      ·exact hok.1.2
      ·exact hok.2
     ·split
      ·exact fun y hy => hd y (List.mem_append_left _ (List.mem_append_right _ hy))
      ·exact fun y hy => hd y (List.mem_append_right _ hy)
    ·rename_i u hno hp
     obtain ⟨hu, gu⟩ := ha.some hp; intro _; refine ⟨_, gu.ite1, rfl, ?_⟩
     simp only [Ex.step, (KV.closed hu).2.1, Bool.true_eq_false, if_false]
     cases u with
     | num s => exact absurd rfl (hno s)
     | pair a b => rfl
     | clo f x s t b r => rfl
   | lt x a b =>
    simp only [Ex.ok, Bool.and_eq_true] at hok
    have ha := ih n Aa a k hk hok.1.2 (fun y hy => hd y (List.mem_append_left _ hy))
    have hla := hl a k
    rw [I4, Af3]
    split
    ·rename_i hp; exact ha.up hp fun d h1 h2 => ⟨_, .lt1 h1, Agp h2⟩
    ·rename_i u hp
     obtain ⟨hu, gu⟩ := ha.some hp; refine (ih _ Aa b (.cons x u k) ⟨hok.1.1, hu, hk⟩ hok.2 (fun y hy => ?_)).from (gu.lt1.trans (.next ?_ .refl))
     ·simp only [KE.dom, List.mem_cons]
      by_cases hyx : y = x
      ·exact .inl hyx
      ·exact .inr (hd y (List.mem_append_right _ (show y ∈ b.occ ([] ++ [x]) from Ex.occ_mem.2 ⟨hy, by simpa using hyx⟩)))
     ·simp only [Ex.step, (KV.closed hu).2.1, Bool.true_eq_false, if_false, Ex.turn, KE.cl]
      rw [Fy Ae, Qb hk (KV.closed hu).1 Ae]
   | un o a =>
    have ha := ih n Aa a k hk hok (fun y hy => hd y hy)
    rw [I5, Af4]
    split
    ·rename_i hp; exact ha.up hp fun d h1 h2 => ⟨_, .un1 h1, Agq h2⟩
    ·rename_i u hp
     obtain ⟨hu, gu⟩ := ha.some hp
     exact (Aa0 hu _).from gu.un1
section
variable {P : Program} {f : FuncId} {n : Nat} {I₀ : Heap} {Q : Cv} {k : List Item} {E : Hg} {I : Heap} {L : Bj} {ops : Array Oper} {d : Nat} {ty : TypeId} {pos : String} {af : Array Edge} {g : Option (Nat × Bool)} {l : List Oper}
theorem Yv {T e sz bb : Nat} {z : List Value} [ht : At P T (.pointer e) sz bb z] (p : Option Addr) (w : World) : (Op.equal T (.pointer p) (.pointer none)).run P w = .ok p.isNone w := by
 refine run_equal_pointer_nil w T p ?_; rw [ht.und]; unfold Program.pointee; rw [ht.und]
theorem Acb {S : World → Prop} {T T' e sz bb : Nat} {z : List Value} [ht : At P T (.pointer e) sz bb z] {x y : Operand} {oa : Option Addr} (hx : Ch E x = some (.pointer oa)) (hy : Ch E y = some (.pointer none)) :
  Ia P E S ⟨some d, .binOp .eql T x y T', ty, pos, af, g⟩ (.bool oa.isNone) := fun ac w he _ => by
 simp only [execOp, he.eval hx, he.eval hy]
 refine Ag (a := _) (w' := w) ?_ |>.trans rfl
 rw [Ag (Id w)]
 simp only [binOp]
 exact Ag (Yv oa w) |>.trans rfl
theorem Hz {T T' e sz bb : Nat} {z : List Value} [ht : At P T (.pointer e) sz bb z] {x y : Operand} {oa : Option Addr} (hx : Ch E x = some (.pointer oa)) (hy : Ch E y = some (.pointer none)) (hg : Wants ops E g) (hdn : Nat.blt d n = true)
  (h : A8 P f n I₀ Q ops l k ((d, .bool oa.isNone) :: E) I L) : A8 P f n I₀ Q ops (⟨some d, .binOp .eql T x y T', ty, pos, af, g⟩ :: l) k E I L := Es (Acb hx hy) hg hdn h
theorem Ace {S : World → Prop} {T T' e sz bb : Nat} {z : List Value} [ht : At P T (.pointer e) sz bb z] {x y : Operand} {oa : Option Addr} (hx : Ch E x = some (.pointer oa)) (hy : Ch E y = some (.pointer none)) :
  Ia P E S ⟨some d, .binOp .neq T x y T', ty, pos, af, g⟩ (.bool (!oa.isNone)) := fun ac w he _ => by
 simp only [execOp, he.eval hx, he.eval hy]
 refine Ag (a := _) (w' := w) ?_ |>.trans rfl
 rw [Ag (Id w)]
 simp only [binOp]
 exact Ag (Yv oa w) |>.trans rfl
theorem N4 {T T' e sz bb : Nat} {z : List Value} [ht : At P T (.pointer e) sz bb z] {x y : Operand} {oa : Option Addr} (hx : Ch E x = some (.pointer oa)) (hy : Ch E y = some (.pointer none)) (hg : Wants ops E g) (hdn : Nat.blt d n = true)
  (h : A8 P f n I₀ Q ops l k ((d, .bool (!oa.isNone)) :: E) I L) : A8 P f n I₀ Q ops (⟨some d, .binOp .neq T x y T', ty, pos, af, g⟩ :: l) k E I L := Es (Ace hx hy) hg hdn h
theorem Acf {S : World → Prop} {T T' e sz bb : Nat} {z : List Value} [ht : At P T (.slice e) sz bb z] {x y : Operand} {oa : Option Addr} {m c : Nat} (hx : Ch E x = some (.slice oa m c)) (hy : Ch E y = some (.slice none 0 0)) :
  Ia P E S ⟨some d, .binOp .neq T x y T', ty, pos, af, g⟩ (.bool (!oa.isNone)) := fun ac w he _ => by
 simp only [execOp, he.eval hx, he.eval hy]
 refine Ag (a := _) (w' := w) ?_ |>.trans rfl
 rw [Ag (La w)]
 have h : ∀ d : Nat, (Op.equalIn (d + 1) T (.slice oa m c) (.slice none 0 0)).run P w = .ok oa.isNone w := fun d => by
  unfold Op.equalIn
  rw [Ag (A3 ht.und w)]
  cases oa <;> rfl
 simp only [binOp, Op.equal]
 exact Ag (h 9999) |>.trans rfl
theorem Qw {T T' e sz bb : Nat} {z : List Value} [ht : At P T (.slice e) sz bb z] {x y : Operand} {oa : Option Addr} {m c : Nat} (hx : Ch E x = some (.slice oa m c)) (hy : Ch E y = some (.slice none 0 0)) (hg : Wants ops E g) (hdn : Nat.blt d n = true)
  (h : A8 P f n I₀ Q ops l k ((d, .bool (!oa.isNone)) :: E) I L) : A8 P f n I₀ Q ops (⟨some d, .binOp .neq T x y T', ty, pos, af, g⟩ :: l) k E I L := Es (Acf hx hy) hg hdn h
end
mutual
inductive KVat : Heap → KV → Addr → Prop
 | num {I : Heap} {s : As} {a : Addr} (h : Still I a [.string (str s), .slice none 0 0, .pointer none, .pointer none]) : KVat I (.num s) a
 | pair {I : Heap} {u v : KV} {a q pu pv : Addr} {c : Nat} (h : Still I a [.string (str []), .slice (some q) 2 c, .pointer none, .pointer none]) (hq : Still I q [.pointer (some pu), .pointer (some pv)]) (hc : 2 ≤ c) (hu : KVat I u pu) (hv : KVat I v pv) : KVat I (.pair u v) a
 | clo {I : Heap} {f x : As} {s t : Ty} {b : Ex} {r : KE} {a fa o : Addr} {c : Nat} {pr : Option Addr} (h : Still I a [.string (str []), .slice none 0 0, .pointer (some fa), .pointer pr])
  (hf : Still I fa [.string (str []), .slice (some o) 6 c]) (hr : Rep I (Ex.fn f x s t b).tree [.string (str []), .slice (some o) 6 c]) (he : KEat I r pr) : KVat I (.clo f x s t b r) a
inductive KEat : Heap → KE → Option Addr → Prop
 | nil {I : Heap} : KEat I .nil none
 | cons {I : Heap} {n : As} {v : KV} {up : KE} {a pv : Addr} {pu : Option Addr} (h : Still I a [.string (str n), .pointer (some pv), .pointer pu]) (hv : KVat I v pv) (hu : KEat I up pu) : KEat I (.cons n v up) (some a)
end
mutual
theorem KVat.mono {I I' : Heap} (hle : HLe I I') : ∀ {v : KV} {a : Addr}, KVat I v a → KVat I' v a
 | _, _, .num h => .num (h.mono hle)
 | _, _, .pair h hq hc hu hv => .pair (h.mono hle) (hq.mono hle) hc (hu.mono hle) (hv.mono hle)
 | _, _, .clo h hf hr he => .clo (h.mono hle) (hf.mono hle) (hr.mono hle) (he.mono hle)
theorem KEat.mono {I I' : Heap} (hle : HLe I I') : ∀ {r : KE} {p : Option Addr}, KEat I r p → KEat I' r p
 | _, _, .nil => .nil
 | _, _, .cons h hv hu => .cons (h.mono hle) (hv.mono hle) (hu.mono hle)
end
def RP? (I : Heap) (o : Option KV) (p : Option Addr) : Prop := match o with
 | some w => ∃ x, p = some x ∧ KVat I w x
 | none => p = none
def KL (o : Option KV) (I : Heap) (L : Bj) : Cv := fun v I' L' => ∃ p, v = .pointer p ∧ RP? I o p ∧ I = I' ∧ L = L'
theorem Xt {I : Heap} {r : KE} {p : Option Addr} (h : KEat I r p) (n : As) (L : Bj) : Fun Tryz.prog 83 [.pointer p, .string (str n)] I L (KL (r.look n) I L) := by
 refine Ao Ae ?_; refine Se rfl (Oa rfl (Ab (Ah (Aq ?_)))); refine Dn (X := KE × Option Addr) (fun x => SizeOf.sizeOf x.1) (fun x => [(0, .pointer x.2), (1, .string (str n))]) (fun _ => I) (fun _ => L) (fun x => KEat I x.1 x.2 ∧ x.1.look n = r.look n) ⟨r, p⟩ ⟨h, rfl⟩ ⟨rfl, rfl, trivial⟩ (fun _ h => h) ?_; rintro ⟨k, q⟩ ⟨hk, hlk⟩ ih
 simp only at hk hlk ih ⊢
 refine Ah (Ah ?_)
 rcases hk with _ | @⟨m, v, up, a, pv, pu, hst, hv, hu⟩
 ·skip
  refine Al rfl (Om rfl ?_); refine N4 rfl rfl .free rfl ?_; refine Ab ?_
  first | refine Sf rfl Ae ?_ | refine A0 Ar ?_
  refine Cc rfl ?_; refine Se rfl (Oa rfl (Ab (Am (.tmp rfl .nil) ?_))); refine ⟨I, L, .refl _, fun _ h => h, none, rfl, ?_, rfl, rfl⟩; rw [← hlk]; exact rfl
 ·skip
  refine Al rfl (Om rfl ?_); refine N4 rfl rfl .free rfl ?_; refine Ab ?_
  first | refine St rfl Ae ?_ | refine B9 Ar ?_
  refine Ak (Ah (Aq (Se rfl (Om rfl ?_)))); refine Aw rfl .free rfl ?_
  first | refine Oh rfl ?_ | refine Oj rfl ?_
  refine L8 rfl .free rfl ?_; refine Om rfl (Od rfl rfl rfl (Ab ?_)); refine A6 rfl ?_ ?_
  ·intro c1
   try simp only [nb] at c1
   refine Se rfl (Om rfl ?_); refine Aw rfl .free rfl ?_
   first | refine Oh rfl ?_ | refine Oj rfl ?_
   refine L8 rfl .free rfl ?_; refine Oa rfl (Ab (Am (.tmp rfl .nil) ?_)); refine ⟨I, L, .refl _, fun _ h => h, some pv, rfl, ?_, rfl, rfl⟩; rw [← hlk, KE.look, if_pos c1]; exact ⟨pv, rfl, hv⟩
  intro c1
  try simp only [nb] at c1
  have hlu : up.look n = r.look n := by rw [← hlk, KE.look, if_neg c1]
  refine Ak (Ap (Al rfl (Om rfl ?_))); refine Aw rfl .free rfl ?_
  first | refine Oh rfl ?_ | refine Oj rfl ?_
  refine L8 rfl .free rfl ?_; refine Oa rfl (Ab ?_)
  exact Ed (E' := [(0, .pointer pu), (1, .string (str n))]) ⟨rfl, rfl, trivial⟩ (ih (up, pu) ⟨hu, hlu⟩ (by simp only [KE.cons.sizeOf_spec]; omega))
def T5 (b n : Nat) (st : Bool) : Nat × Obj := (b, .cells [.int .i64 (n : Nat), .bool st].toArray 55 (0, 0))
theorem M9 {I : Heap} {r : KE} {p : Option Addr} (h : KEat I r p) (n : As) {v : KV} {x : Addr} (hv : KVat I v x) (L : Bj) : Fun Tryz.prog 87 [.pointer p, .string (str n), .pointer (some x)] I L (fun w I' L' => ∃ y, w = .pointer (some y) ∧ KEat I' (.cons n v r) (some y) ∧ L = L') := by
 refine Ao Ae ?_; refine Se rfl (Oa rfl (Ab (Se rfl ?_)))
 iterate 3 refine Om rfl ?_
 refine Cd rfl rfl rfl .free rfl ?_; refine Cm rfl rfl .free rfl ?_; intro b11; refine Oa rfl (Ab ?_); refine Bu ?_; intro hz; refine Am (.tmp rfl .nil) ?_
 exact ⟨_, L, hz, fun _ h => h, _, rfl, .cons (A9 (xs := [_, _, _]) (ys := [])) (hv.mono hz) (h.mono hz), rfl⟩
theorem E7 (I : Heap) (b n : Nat) (L : Bj) : Fun Tryz.prog 86 [.pointer (some ⟨b, 0, none⟩)] I (T5 b n false :: L) (fun v I' L' => v = .pointer none ∧ I = I' ∧ L' = T5 b n true :: L) := by
 unfold T5
 refine Ao Ae ?_; refine Se rfl (Oa rfl (Ab (Se rfl (Om rfl ?_)))); refine Aw rfl .free rfl ?_
 first | refine Oh rfl ?_ | refine Oj rfl ?_
 refine By rfl rfl rfl rfl .free ?_; refine Ab (Se rfl (Oa rfl (Ab (Am (.tmp rfl .nil) ?_))))
 exact ⟨I, _, .refl _, fun _ h => h, rfl, rfl, rfl⟩
section
variable {P : Program} {f : FuncId} {n : Nat} {I₀ : Heap} {Q : Cv} {k : List Item} {E : Hg} {I : Heap} {L : Bj} {ops : Array Oper} {d : Nat} {ty : TypeId} {pos : String} {af : Array Edge} {g : Option (Nat × Bool)}
theorem Ag7 {S : World → Prop} {fuel : Nat} {listed listed' : Array Bool} (i : Nat) {T : TypeId} {x : Operand} {v : Value} {vs : List Value}
  (hi : ops[i]? = some ⟨some d, .box T x, ty, pos, af, g⟩) (hc : decide (Region.ready .any ops listed = [i]) = true) (hl : listed' = listed.setIfInBounds i true) (hx : Ch E x = some v) (hv : Gc v = some vs) (hg : Wants ops E g) (hdn : Nat.blt d n = true) (hS : F6 ops listed' = true ∨ ∀ w, Mem I L w → S w)
  (h : ∀ b, C0 P f n I₀ Q ops S fuel listed' k ((d, .pointer (some ⟨b, 0, none⟩)) :: E) I ((b, .cells vs.toArray T (0, 0)) :: L)) : C0 P f n I₀ Q ops S (fuel + 1) listed k E I L :=
 Vw [i] hc rfl fun j hj => by
  obtain rfl := List.mem_singleton.1 hj; refine Pr j hi hl rfl hdn (fun a he => hg.wanted a he) fun a w he hm => ?_
  refine ⟨_, _, I, (w.heap.size, .cells vs.toArray T (0, 0)) :: L, ?_, hm.alloc _, hS.imp id fun hs w' hm' => hs w' hm'.drop, h _⟩
  simp only [execOp, Instr.box, he.eval hx, newVar, newRow, newObj, Jx hv]
  rfl
end
theorem Still.cellAt {I : Heap} {a : Addr} {vs : List Value} (h : Still I a vs) (k : Nat) {v : Value} (hk : vs[k]? = some v) : Still I (a.add k) [v] := by
 rcases h with h | ⟨c, T, fr, hb, hs, hc⟩
 ·subst h; simp at hk
 ·have hlt : k < vs.length := by
   rcases Nat.lt_or_ge k vs.length with g | g
   ·exact g
   ·rw [List.getElem?_eq_none g] at hk; cases hk
  have hb' : I.get (a.add k).block = some (.cells c T fr) := by unfold Addr.add; split <;> exact hb
  have hs' : (a.add k).spot = none := by unfold Addr.add; split <;> simp [hs]
  have ho : (a.add k).off = a.off + k := by unfold Addr.add; split <;> simp [*]
  refine .inr ⟨c, T, fr, hb', hs', fun i hi => ?_⟩
  have h0 : i = 0 := by simpa using hi
  subst h0
  have := hc k hlt
  rw [List.getElem?_eq_getElem hlt] at hk; obtain rfl := Option.some.inj hk; rw [ho]; simpa using this
def KV.nt : KV → As
 | .num s => s
 | _ => []
theorem KVat.cell {I : Heap} {v : KV} {a : Addr} (h : KVat I v a) : ∃ x1 x2 x3, Still I a [.string (str v.nt), x1, x2, x3] := by
 cases h with
 | num h => exact ⟨_, _, _, h⟩
 | pair h => exact ⟨_, _, _, h⟩
 | clo h => exact ⟨_, _, _, h⟩
theorem Zr {v : KV} (hw : v.wf) (h : ¬ v.nt = []) : ∃ s, v = .num s ∧ Ci s = true := by
 cases v with
 | num s => exact ⟨s, rfl, hw⟩
 | pair a b => exact absurd rfl h
 | clo f x s t b r => exact absurd rfl h
theorem Zs {s : As} (h : Ci s = true) : ¬ s = [] := fun e => by subst e; cases h
theorem Acm {o : B5} {u w : KV} (hu : u.wf) (hw : w.wf) (hp : o ≠ .pair) (h : u.nt = [] ∨ w.nt = []) : o.act u w = none := by
 cases o with
 | pair => exact absurd rfl hp
 | call => rfl
 | _ =>
  cases u with
  | num s =>
   cases w with
   | num q => exact absurd h (by intro h; rcases h with h | h; exact Zs hu h; exact Zs hw h)
   | _ => rfl
  | _ => cases w <;> rfl
def ER (b n : Nat) (o : Option KV) (L : Bj) : Cv := fun v I' L' => ∃ p, v = .pointer p ∧ RP? I' o p ∧ L' = T5 b n o.isNone :: L
theorem V9 {I : Heap} (ht : Tab I) {o : B5} (ho : o ≠ .call) {u w : KV} (wu : u.wf) (ww : w.wf) {pu pw q : Addr} {c : Nat} (hq : Still I q [.pointer (some pu), .pointer (some pw)]) (hc : 2 ≤ c) (hu : KVat I u pu) (hw : KVat I w pw) (b n : Nat) (L : Bj) :
  Fun Tryz.prog 88 [.pointer (some ⟨b, 0, none⟩), .string (str o.txt), .slice (some q) 2 c] I (T5 b n false :: L) (ER b n (o.act u w) L) := by
 obtain ⟨x1, x2, x3, su⟩ := hu.cell; obtain ⟨y1, y2, y3, sw⟩ := hw.cell
 have q0 : Still I (q.add (0 * 1)) [.pointer (some pu)] := hq.cellAt 0 rfl
 have q1 : Still I (q.add (1 * 1)) [.pointer (some pw)] := hq.cellAt 1 rfl
 have hfs : ¬ o.txt = [102, 115, 116] := W7 o .fst
 have hsn : ¬ o.txt = [115, 110, 100] := W7 o .snd
 refine Ao Ae ?_; refine Se rfl (Oa rfl (Ab (Ah (Se rfl (Om rfl (Ab (Aq (Se rfl (Od rfl rfl rfl (Oa rfl (Ab ?_))))))))))); refine A6 rfl ?_ ?_
 ·intro c0
  try simp only [nb] at c0
  obtain rfl : o = .pair := B5.txt_inj (o' := .pair) c0; refine Se rfl (Om rfl ?_); refine Cd rfl rfl rfl .free rfl ?_; refine Cm rfl rfl .free rfl ?_; intro b12; refine Oa rfl (Ab ?_); refine Bu ?_; intro hz; refine Am (.tmp rfl .nil) ?_
  exact ⟨_, _, hz, fun _ h => h, _, rfl, ⟨_, rfl, .pair (A9 (xs := [_, _, _, _]) (ys := [])) (hq.mono hz) hc (hu.mono hz) (hw.mono hz)⟩, rfl⟩
 intro c0
 try simp only [nb] at c0
 have hop : o ≠ .pair := fun e => c0 (by rw [e]; rfl)
 refine Ah (Se rfl (Od rfl rfl rfl (Oa rfl (Ab ?_))))
 first | refine Ez rfl (hfs) ?_ | refine Ey rfl (hfs) ?_ | refine A0 Ar ?_
 refine Al rfl (Od rfl rfl rfl (Oa rfl (Ab ?_)))
 first | refine Ez rfl (hsn) ?_ | refine Ey rfl (hsn) ?_ | refine A0 Ar ?_
 refine Ak (Ap (Ah (Se rfl (Om rfl ?_))))
 first | refine Bs rfl rfl 0 rfl .free rfl ?_ | refine Bt rfl rfl 0 rfl .free rfl ?_
 refine Cp rfl (Be q0 rfl) .free rfl ?_; refine Aw rfl .free rfl ?_
 first | refine Oh rfl ?_ | refine Oj rfl ?_
 refine Cp rfl (Bi su Ac rfl) .free rfl ?_; refine Od rfl rfl rfl (Om rfl ?_)
 apply G4 50 58 rfl
 ·intro g11_8 hk
  try simp only [nb] at g11_8
  refine Ow rfl ?_
  first | refine Bs rfl rfl 1 rfl (.met rfl rfl) rfl ?_ | refine Bt rfl rfl 1 rfl (.met rfl rfl) rfl ?_
  refine Cp rfl (Be q1 rfl) (.met rfl rfl) rfl ?_; refine Aw rfl (.met rfl rfl) rfl ?_
  first | refine Cj rfl (.met rfl rfl) rfl ?_ | refine Bh rfl (.met rfl rfl) rfl ?_
  refine Cp rfl (Bi sw Ac rfl) (.met rfl rfl) rfl ?_; refine F9 rfl rfl rfl (.met rfl rfl) rfl ?_; refine Of rfl rfl ?_
  exact Bb 7 rfl rfl hk
 ·intro _ hk; refine Br 7 rfl ?_; refine Ot rfl rfl ?_
  exact Bb 7 rfl rfl hk
 refine Ab ?_; refine A6 rfl ?_ ?_
 ·intro c5
  try simp only [nb] at c5
  refine Se rfl (Om rfl ?_); refine Ca rfl (E7 _ b n _) ?_; rintro _ _ _ _ ⟨rfl, rfl, rfl⟩; refine Oa rfl (Ab (Am (.tmp rfl .nil) ?_))
  have hno : o.act u w = none := Acm wu ww hop c5
  exact ⟨I, _, .refl _, fun _ h => h, none, rfl, by rw [hno]; rfl, by rw [hno]; rfl⟩
 intro c5
 try simp only [nb] at c5
 obtain ⟨s, rfl, hs⟩ := Zr wu c5.1; obtain ⟨r, rfl, hr⟩ := Zr ww c5.2; refine Ak (Ah ?_); refine Fh 17 rfl rfl ?_; refine Da 0 rfl (Ai rfl) ?_; refine Da 1 rfl (Ai rfl) ?_
 first | refine Da 2 rfl (Bc rfl rfl 0 rfl) ?_ | refine Da 2 rfl (Bd rfl rfl 0 rfl) ?_
 refine Dt 3 [17] rfl (Fs rfl (Be q0 rfl)) ?_; refine Da 4 rfl (Cb rfl) ?_
 first | refine Da 5 rfl (Aj rfl) ?_ | refine Da 5 rfl (A4 rfl) ?_
 refine Dt 6 [17] rfl (Fs rfl (Bi su Ac rfl)) ?_; refine Da 7 rfl (Ai rfl) ?_
 first | refine Da 8 rfl (Bc rfl rfl 1 rfl) ?_ | refine Da 8 rfl (Bd rfl rfl 1 rfl) ?_
 refine Dt 9 [17] rfl (Fs rfl (Be q1 rfl)) ?_; refine Da 10 rfl (Cb rfl) ?_
 first | refine Da 11 rfl (Aj rfl) ?_ | refine Da 11 rfl (A4 rfl) ?_
 refine Dt 12 [17] rfl (Fs rfl (Bi sw Ac rfl)) ?_; refine Dc 13 rfl rfl (Ac7 ht o hs hr _) ?_; rintro _ _ _ _ ⟨rfl, rfl, rfl⟩; refine Hx ?_; refine Da 14 rfl (H9 rfl rfl rfl) ?_; refine Ag7 15 rfl Af rfl rfl rfl .free rfl (.inr Au) ?_; intro b76; refine Da 16 rfl (Bk rfl) ?_; refine A5 Af ?_; refine Bu ?_; intro hz; refine Am (.tmp rfl .nil) ?_
 have hac : o.act (.num s) (.num r) = some (.num (Tl o s r)) := by
  cases o <;> first | rfl | exact absurd rfl ho | exact absurd rfl hop
 rw [hac]
 exact ⟨_, _, hz, fun _ h => h, _, rfl, ⟨_, rfl, .num (A9 (xs := [_, _, _, _]) (ys := []))⟩, rfl⟩
theorem Xw {I : Heap} {o : U2} {u : KV} {pu q : Addr} {c : Nat} (hq : Still I q [.pointer (some pu)]) (hu : KVat I u pu) (b n : Nat) (L : Bj) :
  Fun Tryz.prog 88 [.pointer (some ⟨b, 0, none⟩), .string (str o.txt), .slice (some q) 1 c] I (T5 b n false :: L) (ER b n (o.act u) L) := by
 have q0 : Still I (q.add (0 * 1)) [.pointer (some pu)] := hq.cellAt 0 rfl
 have hoo : ¬ o.txt = [102, 115, 116] → o.txt = [115, 110, 100] := by
  cases o with
  | fst => exact fun h => absurd rfl h
  | snd => exact fun _ => rfl
 have hpa : ¬ o.txt = [112, 97, 105, 114] := fun h => W7 .pair o h.symm
 refine Ao Ae ?_; refine Se rfl (Oa rfl (Ab (Ah (Se rfl (Om rfl (Ab (Aq (Se rfl (Od rfl rfl rfl (Oa rfl (Ab ?_)))))))))))
 first | refine Ez rfl (hpa) ?_ | refine Ey rfl (hpa) ?_ | refine A0 Ar ?_
 refine Ah (Se rfl (Od rfl rfl rfl (Oa rfl (Ab ?_)))); refine A6 rfl ?_ ?_
 ·intro c1
  try simp only [nb] at c1
  refine Ak ?_
  first | refine K3 rfl (by first | rfl | exact hoo c1 | decide) ?_ | refine K2 rfl (by first | rfl | exact hoo c1 | decide) ?_ | refine B9 Ar ?_
  refine Ah (Ah ?_)
  rcases hu with @⟨s, a, hs⟩ | @⟨u1, u2, a, q2, p1, p2, c2, hs, hq2, hc2, h1, h2⟩ | @⟨f, x, s, t, bd, r, a, fa, oo, c2, pr, hs, hf, hrp, he⟩
  ·skip
   refine Al rfl (Om rfl ?_)
   first | refine Bs rfl rfl 0 rfl .free rfl ?_ | refine Bt rfl rfl 0 rfl .free rfl ?_
   refine Cp rfl (Be q0 rfl) .free rfl ?_; refine Aw rfl .free rfl ?_
   first | refine Oh rfl ?_ | refine Oj rfl ?_
   refine Cp rfl (Bi hs Ac rfl) .free rfl ?_; refine Jh rfl rfl .free rfl ?_; refine Ab ?_
   first | refine St rfl (rfl) ?_ | refine B9 Ar ?_
   refine Se rfl (Om rfl ?_); refine Ca rfl (E7 _ b n _) ?_; rintro _ _ _ _ ⟨rfl, rfl, rfl⟩; refine Oa rfl (Ab (Am (.tmp rfl .nil) ?_))
   exact ⟨I, _, .refl _, fun _ h => h, none, rfl, by cases o <;> rfl, by cases o <;> rfl⟩
  ·skip
   have r0 : Still I (q2.add (0 * 1)) [.pointer (some p1)] := hq2.cellAt 0 rfl
   have r1 : Still I (q2.add (1 * 1)) [.pointer (some p2)] := hq2.cellAt 1 rfl
   refine Al rfl (Om rfl ?_)
   first | refine Bs rfl rfl 0 rfl .free rfl ?_ | refine Bt rfl rfl 0 rfl .free rfl ?_
   refine Cp rfl (Be q0 rfl) .free rfl ?_; refine Aw rfl .free rfl ?_
   first | refine Oh rfl ?_ | refine Oj rfl ?_
   refine Cp rfl (Bi hs Ac rfl) .free rfl ?_; refine Jh rfl rfl .free rfl ?_; refine Ab ?_
   first | refine Sf rfl Ae ?_ | refine A0 Ar ?_
   refine Ak (Ah (Se rfl (Om rfl (Od rfl rfl rfl (Ab ?_))))); refine A6 rfl ?_ ?_
   ·intro c4
    try simp only [nb] at c4
    refine Se rfl (Om rfl ?_)
    first | refine Bs rfl rfl 0 rfl .free rfl ?_ | refine Bt rfl rfl 0 rfl .free rfl ?_
    refine Cp rfl (Be q0 rfl) .free rfl ?_; refine Aw rfl .free rfl ?_
    first | refine Oh rfl ?_ | refine Oj rfl ?_
    refine Cp rfl (Bi hs Ac rfl) .free rfl ?_
    first | refine Bs rfl rfl 0 rfl .free rfl ?_ | refine Bt rfl rfl 0 rfl .free rfl ?_
    refine Cp rfl (Be r0 rfl) .free rfl ?_; refine Oa rfl (Ab (Am (.tmp rfl .nil) ?_)); obtain rfl : o = .fst := U2.txt_inj (o' := .fst) c4
    exact ⟨I, _, .refl _, fun _ h => h, _, rfl, ⟨_, rfl, h1⟩, rfl⟩
   intro c4
   try simp only [nb] at c4
   refine Ak (Se rfl (Om rfl ?_))
   first | refine Bs rfl rfl 0 rfl .free rfl ?_ | refine Bt rfl rfl 0 rfl .free rfl ?_
   refine Cp rfl (Be q0 rfl) .free rfl ?_; refine Aw rfl .free rfl ?_
   first | refine Oh rfl ?_ | refine Oj rfl ?_
   refine Cp rfl (Bi hs Ac rfl) .free rfl ?_
   first | refine Bs rfl rfl 1 rfl .free rfl ?_ | refine Bt rfl rfl 1 rfl .free rfl ?_
   refine Cp rfl (Be r1 rfl) .free rfl ?_; refine Oa rfl (Ab (Am (.tmp rfl .nil) ?_)); obtain rfl : o = .snd := by
    cases o with
    | fst => exact absurd rfl c4
    | snd => rfl
   exact ⟨I, _, .refl _, fun _ h => h, _, rfl, ⟨_, rfl, h2⟩, rfl⟩
  ·skip
   refine Al rfl (Om rfl ?_)
   first | refine Bs rfl rfl 0 rfl .free rfl ?_ | refine Bt rfl rfl 0 rfl .free rfl ?_
   refine Cp rfl (Be q0 rfl) .free rfl ?_; refine Aw rfl .free rfl ?_
   first | refine Oh rfl ?_ | refine Oj rfl ?_
   refine Cp rfl (Bi hs Ac rfl) .free rfl ?_; refine Jh rfl rfl .free rfl ?_; refine Ab ?_
   first | refine St rfl (rfl) ?_ | refine B9 Ar ?_
   refine Se rfl (Om rfl ?_); refine Ca rfl (E7 _ b n _) ?_; rintro _ _ _ _ ⟨rfl, rfl, rfl⟩; refine Oa rfl (Ab (Am (.tmp rfl .nil) ?_))
   exact ⟨I, _, .refl _, fun _ h => h, none, rfl, by cases o <;> rfl, by cases o <;> rfl⟩
 intro c1
 try simp only [nb] at c1
 refine Al rfl (Od rfl rfl rfl (Oa rfl (Ab ?_)))
 first | refine K3 rfl (by first | rfl | exact hoo c1 | decide) ?_ | refine K2 rfl (by first | rfl | exact hoo c1 | decide) ?_ | refine B9 Ar ?_
 refine Ah (Ah ?_)
 rcases hu with @⟨s, a, hs⟩ | @⟨u1, u2, a, q2, p1, p2, c2, hs, hq2, hc2, h1, h2⟩ | @⟨f, x, s, t, bd, r, a, fa, oo, c2, pr, hs, hf, hrp, he⟩
 ·skip
  refine Al rfl (Om rfl ?_)
  first | refine Bs rfl rfl 0 rfl .free rfl ?_ | refine Bt rfl rfl 0 rfl .free rfl ?_
  refine Cp rfl (Be q0 rfl) .free rfl ?_; refine Aw rfl .free rfl ?_
  first | refine Oh rfl ?_ | refine Oj rfl ?_
  refine Cp rfl (Bi hs Ac rfl) .free rfl ?_; refine Jh rfl rfl .free rfl ?_; refine Ab ?_
  first | refine St rfl (rfl) ?_ | refine B9 Ar ?_
  refine Se rfl (Om rfl ?_); refine Ca rfl (E7 _ b n _) ?_; rintro _ _ _ _ ⟨rfl, rfl, rfl⟩; refine Oa rfl (Ab (Am (.tmp rfl .nil) ?_))
  exact ⟨I, _, .refl _, fun _ h => h, none, rfl, by cases o <;> rfl, by cases o <;> rfl⟩
 ·skip
  have r0 : Still I (q2.add (0 * 1)) [.pointer (some p1)] := hq2.cellAt 0 rfl
  have r1 : Still I (q2.add (1 * 1)) [.pointer (some p2)] := hq2.cellAt 1 rfl
  refine Al rfl (Om rfl ?_)
  first | refine Bs rfl rfl 0 rfl .free rfl ?_ | refine Bt rfl rfl 0 rfl .free rfl ?_
  refine Cp rfl (Be q0 rfl) .free rfl ?_; refine Aw rfl .free rfl ?_
  first | refine Oh rfl ?_ | refine Oj rfl ?_
  refine Cp rfl (Bi hs Ac rfl) .free rfl ?_; refine Jh rfl rfl .free rfl ?_; refine Ab ?_
  first | refine Sf rfl Ae ?_ | refine A0 Ar ?_
  refine Ak (Ah (Se rfl (Om rfl (Od rfl rfl rfl (Ab ?_))))); refine A6 rfl ?_ ?_
  ·intro c4
   try simp only [nb] at c4
   refine Se rfl (Om rfl ?_)
   first | refine Bs rfl rfl 0 rfl .free rfl ?_ | refine Bt rfl rfl 0 rfl .free rfl ?_
   refine Cp rfl (Be q0 rfl) .free rfl ?_; refine Aw rfl .free rfl ?_
   first | refine Oh rfl ?_ | refine Oj rfl ?_
   refine Cp rfl (Bi hs Ac rfl) .free rfl ?_
   first | refine Bs rfl rfl 0 rfl .free rfl ?_ | refine Bt rfl rfl 0 rfl .free rfl ?_
   refine Cp rfl (Be r0 rfl) .free rfl ?_; refine Oa rfl (Ab (Am (.tmp rfl .nil) ?_)); obtain rfl : o = .fst := U2.txt_inj (o' := .fst) c4
   exact ⟨I, _, .refl _, fun _ h => h, _, rfl, ⟨_, rfl, h1⟩, rfl⟩
  intro c4
  try simp only [nb] at c4
  refine Ak (Se rfl (Om rfl ?_))
  first | refine Bs rfl rfl 0 rfl .free rfl ?_ | refine Bt rfl rfl 0 rfl .free rfl ?_
  refine Cp rfl (Be q0 rfl) .free rfl ?_; refine Aw rfl .free rfl ?_
  first | refine Oh rfl ?_ | refine Oj rfl ?_
  refine Cp rfl (Bi hs Ac rfl) .free rfl ?_
  first | refine Bs rfl rfl 1 rfl .free rfl ?_ | refine Bt rfl rfl 1 rfl .free rfl ?_
  refine Cp rfl (Be r1 rfl) .free rfl ?_; refine Oa rfl (Ab (Am (.tmp rfl .nil) ?_)); obtain rfl : o = .snd := by
   cases o with
   | fst => exact absurd rfl c4
   | snd => rfl
  exact ⟨I, _, .refl _, fun _ h => h, _, rfl, ⟨_, rfl, h2⟩, rfl⟩
 ·skip
  refine Al rfl (Om rfl ?_)
  first | refine Bs rfl rfl 0 rfl .free rfl ?_ | refine Bt rfl rfl 0 rfl .free rfl ?_
  refine Cp rfl (Be q0 rfl) .free rfl ?_; refine Aw rfl .free rfl ?_
  first | refine Oh rfl ?_ | refine Oj rfl ?_
  refine Cp rfl (Bi hs Ac rfl) .free rfl ?_; refine Jh rfl rfl .free rfl ?_; refine Ab ?_
  first | refine St rfl (rfl) ?_ | refine B9 Ar ?_
  refine Se rfl (Om rfl ?_); refine Ca rfl (E7 _ b n _) ?_; rintro _ _ _ _ ⟨rfl, rfl, rfl⟩; refine Oa rfl (Ab (Am (.tmp rfl .nil) ?_))
  exact ⟨I, _, .refl _, fun _ h => h, none, rfl, by cases o <;> rfl, by cases o <;> rfl⟩
theorem Ex.shapes8 (e : Ex) : (∃ s, e = .num s) ∨ (∃ s, e = .name s) ∨ (∃ f x s t b, e = .fn f x s t b) ∨ (∃ a b, e = .bin .call a b) ∨ (∃ o a b, o ≠ B5.call ∧ e = .bin o a b) ∨ (∃ a b d, e = .ite a b d) ∨ (∃ z a b, e = .lt z a b) ∨ (∃ o a, e = .un o a) := by
 cases e with
 | num s => exact .inl ⟨s, rfl⟩
 | name s => exact .inr (.inl ⟨s, rfl⟩)
 | fn f x s t b => exact .inr (.inr (.inl ⟨f, x, s, t, b, rfl⟩))
 | bin o a b =>
  by_cases h : o = .call
  ·subst h; exact .inr (.inr (.inr (.inl ⟨a, b, rfl⟩)))
  ·exact .inr (.inr (.inr (.inr (.inl ⟨o, a, b, h, rfl⟩))))
 | ite a b d => exact .inr (.inr (.inr (.inr (.inr (.inl ⟨a, b, d, rfl⟩)))))
 | lt z a b => exact .inr (.inr (.inr (.inr (.inr (.inr (.inl ⟨z, a, b, rfl⟩))))))
 | un o a => exact .inr (.inr (.inr (.inr (.inr (.inr (.inr ⟨o, a, rfl⟩))))))
theorem Wh {s : As} (h : Ci s = true) : B0 s = false := by
 cases hn : B0 s with
 | false => rfl
 | true => rw [Hy hn] at h; cases h
theorem K7 {I : Heap} {o : Option KV} {p : Option Addr} (h : RP? I o p) (hp : p.isNone = true) : o = none ∧ p = none := by
 cases o with
 | none => exact ⟨rfl, h⟩
 | some w => obtain ⟨x, rfl, _⟩ := h; cases hp
theorem K8 {I : Heap} {o : Option KV} {p : Option Addr} (h : RP? I o p) (hp : p.isNone = false) : ∃ w x, o = some w ∧ p = some x ∧ KVat I w x := by
 cases o with
 | none => rw [show p = none from h] at hp; cases hp
 | some w => obtain ⟨x, rfl, hx⟩ := h; exact ⟨w, x, rfl, rfl, hx⟩
theorem KVat.fun {I : Heap} {v : KV} {a : Addr} (h : KVat I v a) : ∃ x1 pf pr, Still I a [.string (str v.nt), x1, .pointer pf, .pointer pr] ∧ (pf = none → ∀ f x s t b r, v ≠ .clo f x s t b r) ∧
  ∀ fa, pf = some fa → ∃ f x s t b r o c, v = .clo f x s t b r ∧ Still I fa [.string (str []), .slice (some o) 6 c] ∧ Rep I (Ex.fn f x s t b).tree [.string (str []), .slice (some o) 6 c] ∧ KEat I r pr := by
 cases h with
 | num h => exact ⟨_, _, _, h, fun _ f x s t b r e => (by cases e), fun fa e => (by cases e)⟩
 | pair h => exact ⟨_, _, _, h, fun _ f x s t b r e => (by cases e), fun fa e => (by cases e)⟩
 | clo h hf hr he => exact ⟨_, _, _, h, fun e => (by cases e), fun fa e => ⟨_, _, _, _, _, _, _, _, rfl, by cases e; exact hf, hr, he⟩⟩
def EVP (b : Nat) (r : Res) (L : Bj) : Cv := fun v I' L' => ∃ p, v = .pointer p ∧ RP? I' r.v p ∧ L' = T5 b r.left r.stuck :: L
def EvH (N : Nat) : Prop := ∀ {I : Heap} (_ : Tab I) {e : Ex} {cs : List Value} {k : KE} {pk : Option Addr} (n : Nat) (_ : n < N) (_ : n ≤ 1000000) (_ : Rep I e.tree cs) (_ : e.ok = true) (_ : KEat I k pk) (_ : k.wf) (_ : ∀ y ∈ e.occ [], y ∈ k.dom) (b : Nat) (L : Bj),
 Fun Tryz.prog 43 [.pointer (some ⟨b, 0, none⟩), .agg cs.toArray, .pointer pk] I (T5 b n false :: L) (EVP b (eval n e k) L)
structure EX where
 e : Ex
 k : KE
 pk : Option Addr
 n : Nat
 J : Heap
 o : Option Addr
 c : Nat
theorem Mc {n : Nat} {e : Ex} {k : KE} {u : KV} (hk : k.wf) (hok : e.ok = true) (hd : ∀ y ∈ e.occ [], y ∈ k.dom) (h : (eval n e k).v = some u) : u.wf ∧ (eval n e k).stuck = false := by
 have := Is n e k hk hok hd
 unfold Res.says at this
 rw [h] at this
 exact ⟨this.1, this.2.2⟩
theorem Abe : ∀ N : Nat, EvH N := by
 intro N
 induction N with
 | zero => intro I ht e cs k pk n hn; omega
 | succ N ihn =>
  intro I ht e cs k pk n hn hm h hok hk hkw hd b L; obtain ⟨oc, cc, _, rfl, -⟩ := h.open
  generalize hR : eval n e k = R
  unfold T5
  refine Ao Ae ?_; refine Se rfl ?_; refine Cm rfl rfl .free rfl ?_; intro b4; refine Oa rfl (Ab (Aq ?_))
  refine Dn (X := EX) (fun x => x.n) (fun x => [(0, .pointer (some ⟨b, 0, none⟩)), (2, .pointer x.pk), (4, .pointer (some ⟨b4, 0, none⟩))]) (fun x => x.J) (fun x => (b4, .cells [.string (str x.e.tree.atom), .slice x.o x.e.tree.parts.length x.c].toArray 49 (0, 0)) :: (b, .cells [.int .i64 (x.n : Nat), .bool false].toArray 55 (0, 0)) :: L) (fun x => HLe I x.J ∧ Rep x.J x.e.tree [.string (str x.e.tree.atom), .slice x.o x.e.tree.parts.length x.c] ∧ x.e.ok = true ∧ KEat x.J x.k x.pk ∧ x.k.wf ∧ (∀ y ∈ x.e.occ [], y ∈ x.k.dom) ∧ x.n < N + 1 ∧ x.n ≤ 1000000 ∧ eval x.n x.e x.k = R) ⟨e, k, pk, n, I, oc, cc⟩ ⟨.refl _, h, hok, hk, hkw, hd, hn, hm, hR⟩ ⟨rfl, rfl, rfl, trivial⟩ (fun _ h => h) ?_
  clear hd hkw hk hok h hn hm hR
  rintro ⟨e, k, pk, n, J, oc, cc⟩ ⟨hle, hr, hok, hk, hkw, hd, hn, hm, hR⟩ ih
  simp only at hle hr hok hk hkw hd hn hm hR ih ⊢
  have ht := ht.mono hle
  refine Aq (Ah (Se rfl (Om rfl ?_))); refine Aw rfl .free rfl ?_
  first | refine Oh rfl ?_ | refine Oj rfl ?_
  refine L8 rfl .free rfl ?_; refine Oc rfl rfl rfl (Ab ?_); refine A6 rfl ?_ ?_
  ·intro c0
   try simp only [nb] at c0
   refine Se rfl (Oa rfl (Ab (Am (.tmp rfl .nil) ?_))); obtain rfl : n = 0 := by omega
   rw [Lw] at hR; subst hR
   exact ⟨J, _, hle, fun _ h => h.drop, none, rfl, rfl, rfl⟩
  intro c0
  try simp only [nb] at c0
  obtain ⟨m, rfl⟩ : ∃ m, n = m + 1 := ⟨n - 1, by omega⟩; refine Ak (Se rfl (Om rfl ?_)); refine Aw rfl .free rfl ?_
  first | refine Oh rfl ?_ | refine Oj rfl ?_
  refine L8 rfl .free rfl ?_; refine Or rfl rfl rfl ?_; refine Gl (t := 21) (v' := .int .i64 (m : Nat)) rfl F7 ?_; refine Aw rfl .free rfl ?_
  first | refine Oh rfl ?_ | refine Oj rfl ?_
  refine By rfl rfl rfl rfl .free ?_; refine Ab (Ah (Ah ?_))
  rcases e.shapes8 with ⟨s, rfl⟩ | ⟨s, rfl⟩ | ⟨f, z, s, t, bd, rfl⟩ | ⟨a, d, rfl⟩ | ⟨o, a, d, hoc, rfl⟩ | ⟨a, d, g, rfl⟩ | ⟨z, a, d, rfl⟩ | ⟨o, a, rfl⟩
  ·skip
   refine Al rfl ?_; refine Az rfl .free rfl ?_; refine Ca rfl (B8 hr _) ?_; rintro _ _ _ _ ⟨rfl, rfl, rfl⟩; rw [show (Ex.num s).tree.parts.isEmpty = true from rfl]; refine Ab ?_
   first | refine St rfl (rfl) ?_ | refine B9 Ar ?_
   refine Ah (Se rfl (Oh rfl ?_)); refine Bv rfl .free rfl ?_; refine Ca rfl (Ko s (by have := Ny (show Ci s = true from hok); unfold Bg; omega) _ _) ?_; rintro _ _ _ _ ⟨rfl, rfl, rfl⟩; rw [Wh (show Ci s = true from hok)]; refine Ab ?_
   first | refine Sf rfl Ae ?_ | refine A0 Ar ?_
   refine Ak (Se rfl (Oh rfl ?_)); refine Bv rfl .free rfl ?_; refine Cd rfl rfl rfl .free rfl ?_; refine Cm rfl rfl .free rfl ?_; intro b36; refine Oa rfl (Ab ?_); refine Bu ?_; intro hz; refine Am (.tmp rfl .nil) ?_; rw [Kn] at hR; subst hR
   exact ⟨_, _, hle.trans hz, fun _ h => h.drop, _, rfl, ⟨_, rfl, .num (A9 (xs := [_, _, _, _]) (ys := []))⟩, rfl⟩
  ·skip
   refine Al rfl ?_; refine Az rfl .free rfl ?_; refine Ca rfl (B8 hr _) ?_; rintro _ _ _ _ ⟨rfl, rfl, rfl⟩; rw [show (Ex.name s).tree.parts.isEmpty = true from rfl]; refine Ab ?_
   first | refine St rfl (rfl) ?_ | refine B9 Ar ?_
   refine Ah (Se rfl (Oh rfl ?_)); refine Bv rfl .free rfl ?_; refine Ca rfl (Ko s (by have := Jf (show B0 s = true from hok); unfold Bg; omega) _ _) ?_; rintro _ _ _ _ ⟨rfl, rfl, rfl⟩; rw [show B0 s = true from hok]; refine Ab ?_
   first | refine St rfl (rfl) ?_ | refine B9 Ar ?_
   refine Se rfl (Om rfl (Oh rfl ?_)); refine Bv rfl .free rfl ?_; refine Ca rfl (Xt hk s _) ?_; rintro _ _ _ _ ⟨p, rfl, hp, rfl, rfl⟩; refine Oa rfl (Ab (Am (.tmp rfl .nil) ?_)); rw [Hv] at hR; subst hR
   exact ⟨J, _, hle, fun _ h => h.drop, p, rfl, hp, rfl⟩
  ·skip
   refine Al rfl ?_; refine Az rfl .free rfl ?_; refine Ca rfl (B8 hr _) ?_; rintro _ _ _ _ ⟨rfl, rfl, rfl⟩; rw [show (Ex.fn f z s t bd).tree.parts.isEmpty = false from rfl]; refine Ab ?_
   first | refine Sf rfl Ae ?_ | refine A0 Ar ?_
   refine Ak (Ah (Se rfl ?_)); refine Az rfl .free rfl ?_; refine Ca rfl (Bl hr _) ?_; rintro _ _ _ _ ⟨rfl, rfl, rfl⟩; rw [show (Ex.fn f z s t bd).tree.head = [102, 117, 110] from rfl]; obtain ⟨oa2, c2, oaf, cf, he2, hf⟩ := hr.at'
   simp only [List.cons.injEq, Value.slice.injEq, and_true, true_and] at he2
   obtain ⟨rfl, rfl⟩ := he2; obtain ⟨xa, rfl⟩ : ∃ x, oc = some x := ⟨_, En hf.nil (show 0 < 6 by decide)⟩; refine Od rfl rfl rfl (Ab ?_)
   first | refine St rfl (rfl) ?_ | refine B9 Ar ?_
   refine Se rfl (Om rfl ?_); refine Cd rfl rfl rfl .free rfl ?_; refine Cm rfl rfl .free rfl ?_; intro b42; refine Oa rfl (Ab ?_); refine Bu ?_; intro hz; refine Bu ?_; intro hz2; refine Am (.tmp rfl .nil) ?_; rw [Kc] at hR; subst hR
   exact ⟨_, _, (hle.trans hz).trans hz2, fun _ h => h, _, rfl, ⟨_, rfl, .clo ((A9 (xs := [_, _, _, _]) (ys := [])).mono hz2) (A9 (xs := [_, _]) (ys := [])) (hr.mono (hz.trans hz2)) (hk.mono (hz.trans hz2))⟩, rfl⟩
  ·skip
   refine Al rfl ?_; refine Az rfl .free rfl ?_; refine Ca rfl (B8 hr _) ?_; rintro _ _ _ _ ⟨rfl, rfl, rfl⟩; rw [show (Ex.bin .call a d).tree.parts.isEmpty = false from rfl]; refine Ab ?_
   first | refine Sf rfl Ae ?_ | refine A0 Ar ?_
   refine Ak (Ah (Se rfl ?_)); refine Az rfl .free rfl ?_; refine Ca rfl (Bl hr _) ?_; rintro _ _ _ _ ⟨rfl, rfl, rfl⟩; obtain ⟨oa2, c2, oaf, cf, he2, hf⟩ := hr.at'
   simp only [List.cons.injEq, Value.slice.injEq, and_true, true_and] at he2
   obtain ⟨rfl, rfl⟩ := he2; obtain ⟨xa, rfl⟩ : ∃ x, oc = some x := ⟨_, En hf.nil (show 0 < 3 by decide)⟩
   have hlen : (Ex.bin .call a d).tree.parts.length = 3 := rfl
   have hev : evT (Ex.bin .call a d).tree = [1, 2] := rfl
   simp only [Ex.ok, Bool.and_eq_true] at hok
   rw [show (Ex.bin .call a d).tree.head = [99, 97, 108, 108] from rfl]; refine Od rfl rfl rfl (Ab ?_)
   first | refine Sf rfl Ad ?_ | refine A0 Ar ?_
   refine Ak (Se rfl (Oa rfl (Ab (Ah (Se rfl ?_))))); refine Az rfl .free rfl ?_; refine Ca rfl (Gr hf.rep _) ?_; rintro _ J0 _ e0 ⟨oq, ck, rfl, hn0, rfl⟩
   have hf := hf.mono e0
   have hk := hk.mono e0
   have ht := ht.mono e0
   have hle := hle.trans e0
   rw [hev] at hn0; rw [hev]; refine On rfl (Om rfl (Ab (Aq ?_))); refine Ee ?_; refine Se rfl (Oc rfl rfl rfl (Ab (Ah ?_))); refine B6 rfl Ay ?_; refine Ak (Ah (Aq (Se rfl ?_)))
   first | refine Bs rfl rfl _ rfl .free rfl ?_ | refine Bt rfl rfl _ rfl .free rfl ?_
   refine Er rfl .free rfl ?_; refine Oa rfl (Ab (Se rfl (Om rfl (Oh rfl ?_)))); refine Bv rfl .free rfl ?_; refine Om rfl ?_
   first | refine Bs rfl rfl _ rfl .free rfl ?_ | refine Bt rfl rfl _ rfl .free rfl ?_
   refine Gv rfl .free rfl ?_; refine Om rfl ?_; refine C4 (fun w h => h.f1) ?_; refine Ca rfl (ihn ht m Aa Aa (hf.as 1 a.tree Aa rfl) hok.1 hk hkw (fun y hy => hd y (List.mem_append_left _ hy)) b _) ?_; rintro _ J1 _ e1 ⟨p0, rfl, hp0, rfl⟩
   have hf := hf.mono e1
   have hk := hk.mono e1
   have ht := ht.mono e1
   have hn0 := hn0.mono e1
   have hle := hle.trans e1
   unfold T5
   refine Oa rfl (Ab (Ah (Se rfl (Om rfl ?_)))); refine Hz rfl rfl .free rfl ?_; refine Ab ?_; refine A6 rfl ?_ ?_
   ·intro c5
    try simp only [nb] at c5
    obtain ⟨hv0, rfl⟩ := K7 hp0 c5
    have hRR : eval m a k = R := by
     rw [I3] at hR
     simpa only [hv0] using hR
    refine Se rfl (Oa rfl (Ab (Am (.tmp rfl .nil) ?_))); subst hRR
    exact ⟨_, _, hle, Ms (L' := (b, _) :: L), none, rfl, by rw [hv0]; rfl, rfl⟩
   intro c5
   try simp only [nb] at c5
   obtain ⟨u, pu, hv0, rfl, hau⟩ := K8 hp0 (by simpa using c5); obtain ⟨wu, hst0⟩ := Mc hkw hok.1 (fun y hy => hd y (List.mem_append_left _ hy)) hv0; rw [hst0]; refine Ak (Al rfl (Om rfl (Om rfl ?_))); refine Ol rfl rfl ?_; intro b62; refine D1 (B := none) (xs := []) (ys := [.pointer (some pu)]) (m := 0) (c := 0) Av Ac rfl rfl ⟨rfl, rfl, rfl⟩ (fun _ h => h) Ac (fun a ha => by cases ha; exact Bw (.head _) Ac) Ae Ac Ad Ad Aa Ad .free rfl ?_; intro bb sp c2 hB
   simp only [A2, List.cons_append, List.nil_append, Nat.zero_add]
   refine Oa rfl (Ab (Ap (Al rfl ?_))); refine Or rfl rfl rfl ?_; refine Om rfl (Ab ?_); refine Bz ?_; refine Se rfl (Oc rfl rfl rfl (Ab (Ah ?_))); refine B6 rfl Ay ?_; refine Ak (Ah (Aq (Se rfl ?_)))
   first | refine Bs rfl rfl _ rfl .free rfl ?_ | refine Bt rfl rfl _ rfl .free rfl ?_
   refine Er rfl .free rfl ?_; refine Oa rfl (Ab (Se rfl (Om rfl (Oh rfl ?_)))); refine Bv rfl .free rfl ?_; refine Om rfl ?_
   first | refine Bs rfl rfl _ rfl .free rfl ?_ | refine Bt rfl rfl _ rfl .free rfl ?_
   refine Gv rfl .free rfl ?_; refine Om rfl ?_
   have hl0 := Co m a k
   refine C4 (fun w h => h.f2) ?_; refine Ca rfl (ihn ht (eval m a k).left Aa Aa (hf.as 2 d.tree Aa rfl) hok.2 hk hkw (fun y hy => hd y (List.mem_append_right _ hy)) b _) ?_; rintro _ J2 _ e2 ⟨p1, rfl, hp1, rfl⟩
   have hf := hf.mono e2
   have hk := hk.mono e2
   have ht := ht.mono e2
   have hn0 := hn0.mono e2
   have hle := hle.trans e2
   unfold T5
   refine Oa rfl (Ab (Ah (Se rfl (Om rfl ?_)))); refine Hz rfl rfl .free rfl ?_; refine Ab ?_; refine A6 rfl ?_ ?_
   ·intro c5
    try simp only [nb] at c5
    obtain ⟨hv1, rfl⟩ := K7 hp1 c5
    have hRR : eval (eval m a k).left d k = R := by
     rw [I3] at hR
     simpa only [hv0, hv1] using hR
    refine Se rfl (Oa rfl (Ab (Am (.tmp rfl .nil) ?_))); subst hRR
    exact ⟨_, _, hle, Ms (L' := (b, _) :: L), none, rfl, by rw [hv1]; rfl, rfl⟩
   intro c5
   try simp only [nb] at c5
   obtain ⟨v, pv, hv1, rfl, hav⟩ := K8 hp1 (by simpa using c5); obtain ⟨wv, hst1⟩ := Mc hkw hok.2 (fun y hy => hd y (List.mem_append_right _ hy)) hv1; rw [hst1]; refine Ak (Al rfl (Om rfl (Om rfl ?_))); refine Ol rfl rfl ?_; intro b62; refine D1 (B := some (bb, sp)) (xs := [.pointer (some pu)]) (ys := [.pointer (some pv)]) (m := 1) (c := c2) Av Ac rfl rfl hB (fun _ h => h.f2) Ac (fun a ha => by cases ha; exact Bw (.head _) Ac) Ae Ac Ad Ad Aa Ad .free rfl ?_; intro bb2 sp2 c3 hB2
   simp only [A2, List.cons_append, List.nil_append]
   refine Oa rfl (Ab (Ap (Al rfl ?_))); refine Or rfl rfl rfl ?_; refine Om rfl (Ab ?_); refine Bz ?_; refine Se rfl (Oc rfl rfl rfl (Ab (Ah ?_))); refine De rfl Ay ?_; refine Cc rfl ?_; refine Ah ?_; refine Bu ?_; intro hz
   have hq0 := A9 (I := J2) (b := bb2) (xs := [.pointer (some pu), .pointer (some pv)]) (ys := sp2) (T := 56) (fr := (0, 0))
   simp only [List.cons_append, List.nil_append] at hq0
   have hf := hf.mono hz
   have hk := hk.mono hz
   have ht := ht.mono hz
   have hle := hle.trans hz
   have hau := hau.mono (e2.trans hz)
   have hav := hav.mono hz
   have q1 : Still _ ((⟨bb2, 0, none⟩ : Addr).add (1 * 1)) [.pointer (some pv)] := hq0.cellAt 1 rfl
   have q0 : Still _ ((⟨bb2, 0, none⟩ : Addr).add (0 * 1)) [.pointer (some pu)] := hq0.cellAt 0 rfl
   have hl1 := Co m a k
   have hl2 := Co (eval m a k).left d k
   rw [I3] at hR
   simp only [hv0, hv1] at hR
   refine Cu (fun w h => Mem.sub (L' := (b, _) :: (b4, _) :: L) A7 h) ?_; refine Al rfl ?_; refine Az rfl .free rfl ?_; refine Ca rfl (Bl hf.rep _) ?_; rintro _ _ _ _ ⟨rfl, rfl, rfl⟩; rw [show (Ex.bin .call a d).tree.head = [99, 97, 108, 108] from rfl]; refine Ab (Aq (Se rfl (Od rfl rfl rfl (Oa rfl (Ab ?_)))))
   first | refine Sf rfl Ad ?_ | refine A0 Ar ?_
   refine Se rfl (Od rfl rfl rfl (Oa rfl (Ab ?_)))
   first | refine Sf rfl Ad ?_ | refine A0 Ar ?_
   refine Se rfl (Od rfl rfl rfl (Oa rfl (Ab ?_)))
   first | refine St rfl (rfl) ?_ | refine B9 Ar ?_
   refine Se rfl ?_; obtain ⟨x1, pf, pr, su, hno, hyes⟩ := hau.fun
   refine Om rfl ?_
   first | refine Bs rfl rfl 0 rfl .free rfl ?_ | refine Bt rfl rfl 0 rfl .free rfl ?_
   refine Cp rfl (Be q0 rfl) .free rfl ?_; refine Aw rfl .free rfl ?_
   first | refine Oh rfl ?_ | refine Oj rfl ?_
   refine Cp rfl (Bi su Ac rfl) .free rfl ?_; refine Oa rfl (Ab (Ah (Se rfl (Om rfl ?_)))); refine Hz rfl rfl .free rfl ?_; refine Ab ?_; refine A6 rfl ?_ ?_
   ·intro c11
    try simp only [nb] at c11
    refine Se rfl (Om rfl ?_); refine Ca rfl (E7 _ b (eval (eval m a k).left d k).left _) ?_; rintro _ _ _ _ ⟨rfl, rfl, rfl⟩; refine Oa rfl (Ab (Am (.tmp rfl .nil) ?_))
    have hRR : (⟨none, (eval (eval m a k).left d k).left, true⟩ : Res) = R := by
     have hpf : pf = none := by cases pf with | none => rfl | some x => cases c11
     cases u with
     | clo f x s t bd r => exact absurd rfl (hno hpf f x s t bd r)
     | _ => exact hR
    subst hRR
    exact ⟨_, _, hle, Ms (L' := (b, _) :: L), none, rfl, rfl, rfl⟩
   intro c11
   try simp only [nb] at c11
   obtain ⟨fa, rfl⟩ : ∃ fa, pf = some fa := by cases pf with | none => cases c11 | some x => exact ⟨x, rfl⟩
   obtain ⟨fn, x, s, t, bd, r, o6, c6, rfl, hfa, hrf, hke⟩ := hyes fa rfl; obtain ⟨oa3, c3', oaf3, cf3, he3, hf3⟩ := hrf.at'
   simp only [List.cons.injEq, Value.slice.injEq, and_true, true_and] at he3
   obtain ⟨-, rfl, -, rfl⟩ := he3
   have hlen3 : (Ex.fn fn x s t bd).tree.parts.length = 6 := rfl
   simp only at hR
   have hcl := wu
   obtain ⟨hrw, hfok, hfd⟩ := wu
   have hfok' := hfok
   simp only [Ex.ok, Bool.and_eq_true, decide_eq_true_eq] at hfok'
   obtain ⟨⟨⟨⟨⟨nf, nx⟩, hfx⟩, _⟩, _⟩, hcok⟩ := hfok'; refine Ak ?_; refine Fh 36 rfl rfl ?_; refine Da 0 rfl (Ai rfl) ?_; refine Da 1 rfl (Cb rfl) ?_
   first | refine Da 2 rfl (Aj rfl) ?_ | refine Da 2 rfl (A4 rfl) ?_
   refine Dt 3 [34] rfl (Fs rfl (Bi hfa Ac rfl)) ?_
   first | refine Da 4 rfl (Bc rfl rfl 5 rfl) ?_ | refine Da 4 rfl (Bd rfl rfl 5 rfl) ?_
   refine Dt 5 [34] rfl (Fs rfl (Ew (hf3.st _ Aa) Ac)) ?_; refine Da 6 rfl (Ai rfl) ?_
   first | refine Da 7 rfl (Bc rfl rfl 0 rfl) ?_ | refine Da 7 rfl (Bd rfl rfl 0 rfl) ?_
   refine Dt 8 [34] rfl (Fs rfl (Be q0 rfl)) ?_; refine Da 9 rfl (Cb rfl) ?_
   first | refine Da 10 rfl (Aj rfl) ?_ | refine Da 10 rfl (A4 rfl) ?_
   refine Dt 11 [34] rfl (Fs rfl (Bi su Ac rfl)) ?_; refine Da 12 rfl (Ai rfl) ?_; refine Da 13 rfl (Cb rfl) ?_
   first | refine Da 14 rfl (Aj rfl) ?_ | refine Da 14 rfl (A4 rfl) ?_
   refine Dt 15 [34] rfl (Fs rfl (Bi hfa Ac rfl)) ?_
   first | refine Da 16 rfl (Bc rfl rfl 1 rfl) ?_ | refine Da 16 rfl (Bd rfl rfl 1 rfl) ?_
   refine Da 17 rfl (A4 rfl) ?_; refine Dt 18 [34] rfl (Fs rfl (Bi (hf3.st _ Aa) Ac rfl)) ?_; refine Da 19 rfl (Ai rfl) ?_
   first | refine Da 20 rfl (Bc rfl rfl 0 rfl) ?_ | refine Da 20 rfl (Bd rfl rfl 0 rfl) ?_
   refine Dt 21 [34] rfl (Fs rfl (Be q0 rfl)) ?_; refine Da 23 rfl (Ai rfl) ?_; refine Da 24 rfl (Cb rfl) ?_
   first | refine Da 25 rfl (Aj rfl) ?_ | refine Da 25 rfl (A4 rfl) ?_
   refine Dt 26 [34] rfl (Fs rfl (Bi hfa Ac rfl)) ?_
   first | refine Da 27 rfl (Bc rfl rfl 2 rfl) ?_ | refine Da 27 rfl (Bd rfl rfl 2 rfl) ?_
   refine Da 28 rfl (A4 rfl) ?_; refine Dt 29 [34] rfl (Fs rfl (Bi (hf3.st _ Aa) Ac rfl)) ?_; refine Da 30 rfl (Ai rfl) ?_
   first | refine Da 31 rfl (Bc rfl rfl 1 rfl) ?_ | refine Da 31 rfl (Bd rfl rfl 1 rfl) ?_
   refine Dt 32 [34] rfl (Fs rfl (Be q1 rfl)) ?_; refine Dc 22 rfl rfl (M9 hke fn hau _) ?_; rintro _ J3 _ e3 ⟨y3, rfl, hk3, rfl⟩
   have hf3 := hf3.mono e3
   have hle := hle.trans e3
   refine Hx ?_; refine Dc 33 rfl rfl (M9 hk3 x (hav.mono e3) _) ?_; rintro _ J4 _ e4 ⟨y4, rfl, hk4, rfl⟩
   have e34 := e3.trans e4
   have hf3 := hf3.mono e4
   have hle := hle.trans e4
   refine Hx ?_; refine Dx 34 rfl rfl rfl rfl ?_; refine Db 35 rfl (Bk rfl) ?_; refine A5 Af ?_; refine Ap (Ap ?_)
   refine Cu (fun w h => h.f1) (Ed (E' := [(0, .pointer (some ⟨b, 0, none⟩)), (2, .pointer (some y4)), (4, .pointer (some ⟨b4, 0, none⟩))]) ⟨rfl, rfl, rfl, trivial⟩ (ih ⟨bd, .cons x v (.cons fn (.clo fn x s t bd r) r), some y4, (eval (eval m a k).left d k).left, _, oaf3 5, cf3 5⟩ ⟨hle, hf3.as 5 bd.tree Aa rfl, hcok, hk4, ⟨nx, wv, nf, hcl, hrw⟩, fun y hy => ?_, by show (eval (eval m a k).left d k).left < N + 1; omega, by show (eval (eval m a k).left d k).left ≤ 1000000; omega, hR⟩ Dq))
   simp only [KE.dom, List.mem_cons]
   rcases hfd y hy with h | h
   ·simp only [List.mem_cons, List.not_mem_nil, or_false] at h
    rcases h with h | h
    ·exact .inr (.inl h)
    ·exact .inl h
   ·exact .inr (.inr h)
  ·skip
   refine Al rfl ?_; refine Az rfl .free rfl ?_; refine Ca rfl (B8 hr _) ?_; rintro _ _ _ _ ⟨rfl, rfl, rfl⟩; rw [show (Ex.bin o a d).tree.parts.isEmpty = false from rfl]; refine Ab ?_
   first | refine Sf rfl Ae ?_ | refine A0 Ar ?_
   refine Ak (Ah (Se rfl ?_)); refine Az rfl .free rfl ?_; refine Ca rfl (Bl hr _) ?_; rintro _ _ _ _ ⟨rfl, rfl, rfl⟩; obtain ⟨oa2, c2, oaf, cf, he2, hf⟩ := hr.at'
   simp only [List.cons.injEq, Value.slice.injEq, and_true, true_and] at he2
   obtain ⟨rfl, rfl⟩ := he2; obtain ⟨xa, rfl⟩ : ∃ x, oc = some x := ⟨_, En hf.nil (show 0 < 3 by decide)⟩
   have hlen : (Ex.bin o a d).tree.parts.length = 3 := rfl
   have hev : evT (Ex.bin o a d).tree = [1, 2] := by cases o <;> rfl
   simp only [Ex.ok, Bool.and_eq_true] at hok
   rw [show (Ex.bin o a d).tree.head = o.txt from rfl]; refine Od rfl rfl rfl (Ab ?_)
   first | refine Ez rfl (o.txt_ne.2.2.1) ?_ | refine Ey rfl (o.txt_ne.2.2.1) ?_ | refine A0 Ar ?_
   refine Ak (Se rfl (Oa rfl (Ab (Ah (Se rfl ?_))))); refine Az rfl .free rfl ?_; refine Ca rfl (Gr hf.rep _) ?_; rintro _ J0 _ e0 ⟨oq, ck, rfl, hn0, rfl⟩
   have hf := hf.mono e0
   have hk := hk.mono e0
   have ht := ht.mono e0
   have hle := hle.trans e0
   rw [hev] at hn0; rw [hev]; refine On rfl (Om rfl (Ab (Aq ?_))); refine Ee ?_; refine Se rfl (Oc rfl rfl rfl (Ab (Ah ?_))); refine B6 rfl Ay ?_; refine Ak (Ah (Aq (Se rfl ?_)))
   first | refine Bs rfl rfl _ rfl .free rfl ?_ | refine Bt rfl rfl _ rfl .free rfl ?_
   refine Er rfl .free rfl ?_; refine Oa rfl (Ab (Se rfl (Om rfl (Oh rfl ?_)))); refine Bv rfl .free rfl ?_; refine Om rfl ?_
   first | refine Bs rfl rfl _ rfl .free rfl ?_ | refine Bt rfl rfl _ rfl .free rfl ?_
   refine Gv rfl .free rfl ?_; refine Om rfl ?_; refine C4 (fun w h => h.f1) ?_; refine Ca rfl (ihn ht m Aa Aa (hf.as 1 a.tree Aa rfl) hok.1 hk hkw (fun y hy => hd y (List.mem_append_left _ hy)) b _) ?_; rintro _ J1 _ e1 ⟨p0, rfl, hp0, rfl⟩
   have hf := hf.mono e1
   have hk := hk.mono e1
   have ht := ht.mono e1
   have hn0 := hn0.mono e1
   have hle := hle.trans e1
   unfold T5
   refine Oa rfl (Ab (Ah (Se rfl (Om rfl ?_)))); refine Hz rfl rfl .free rfl ?_; refine Ab ?_; refine A6 rfl ?_ ?_
   ·intro c5
    try simp only [nb] at c5
    obtain ⟨hv0, rfl⟩ := K7 hp0 c5
    have hRR : eval m a k = R := by
     rw [I3] at hR
     simpa only [hv0] using hR
    refine Se rfl (Oa rfl (Ab (Am (.tmp rfl .nil) ?_))); subst hRR
    exact ⟨_, _, hle, Ms (L' := (b, _) :: L), none, rfl, by rw [hv0]; rfl, rfl⟩
   intro c5
   try simp only [nb] at c5
   obtain ⟨u, pu, hv0, rfl, hau⟩ := K8 hp0 (by simpa using c5); obtain ⟨wu, hst0⟩ := Mc hkw hok.1 (fun y hy => hd y (List.mem_append_left _ hy)) hv0; rw [hst0]; refine Ak (Al rfl (Om rfl (Om rfl ?_))); refine Ol rfl rfl ?_; intro b62; refine D1 (B := none) (xs := []) (ys := [.pointer (some pu)]) (m := 0) (c := 0) Av Ac rfl rfl ⟨rfl, rfl, rfl⟩ (fun _ h => h) Ac (fun a ha => by cases ha; exact Bw (.head _) Ac) Ae Ac Ad Ad Aa Ad .free rfl ?_; intro bb sp c2 hB
   simp only [A2, List.cons_append, List.nil_append, Nat.zero_add]
   refine Oa rfl (Ab (Ap (Al rfl ?_))); refine Or rfl rfl rfl ?_; refine Om rfl (Ab ?_); refine Bz ?_; refine Se rfl (Oc rfl rfl rfl (Ab (Ah ?_))); refine B6 rfl Ay ?_; refine Ak (Ah (Aq (Se rfl ?_)))
   first | refine Bs rfl rfl _ rfl .free rfl ?_ | refine Bt rfl rfl _ rfl .free rfl ?_
   refine Er rfl .free rfl ?_; refine Oa rfl (Ab (Se rfl (Om rfl (Oh rfl ?_)))); refine Bv rfl .free rfl ?_; refine Om rfl ?_
   first | refine Bs rfl rfl _ rfl .free rfl ?_ | refine Bt rfl rfl _ rfl .free rfl ?_
   refine Gv rfl .free rfl ?_; refine Om rfl ?_
   have hl0 := Co m a k
   refine C4 (fun w h => h.f2) ?_; refine Ca rfl (ihn ht (eval m a k).left Aa Aa (hf.as 2 d.tree Aa rfl) hok.2 hk hkw (fun y hy => hd y (List.mem_append_right _ hy)) b _) ?_; rintro _ J2 _ e2 ⟨p1, rfl, hp1, rfl⟩
   have hf := hf.mono e2
   have hk := hk.mono e2
   have ht := ht.mono e2
   have hn0 := hn0.mono e2
   have hle := hle.trans e2
   unfold T5
   refine Oa rfl (Ab (Ah (Se rfl (Om rfl ?_)))); refine Hz rfl rfl .free rfl ?_; refine Ab ?_; refine A6 rfl ?_ ?_
   ·intro c5
    try simp only [nb] at c5
    obtain ⟨hv1, rfl⟩ := K7 hp1 c5
    have hRR : eval (eval m a k).left d k = R := by
     rw [I3] at hR
     simpa only [hv0, hv1] using hR
    refine Se rfl (Oa rfl (Ab (Am (.tmp rfl .nil) ?_))); subst hRR
    exact ⟨_, _, hle, Ms (L' := (b, _) :: L), none, rfl, by rw [hv1]; rfl, rfl⟩
   intro c5
   try simp only [nb] at c5
   obtain ⟨v, pv, hv1, rfl, hav⟩ := K8 hp1 (by simpa using c5); obtain ⟨wv, hst1⟩ := Mc hkw hok.2 (fun y hy => hd y (List.mem_append_right _ hy)) hv1; rw [hst1]; refine Ak (Al rfl (Om rfl (Om rfl ?_))); refine Ol rfl rfl ?_; intro b62; refine D1 (B := some (bb, sp)) (xs := [.pointer (some pu)]) (ys := [.pointer (some pv)]) (m := 1) (c := c2) Av Ac rfl rfl hB (fun _ h => h.f2) Ac (fun a ha => by cases ha; exact Bw (.head _) Ac) Ae Ac Ad Ad Aa Ad .free rfl ?_; intro bb2 sp2 c3 hB2
   simp only [A2, List.cons_append, List.nil_append]
   refine Oa rfl (Ab (Ap (Al rfl ?_))); refine Or rfl rfl rfl ?_; refine Om rfl (Ab ?_); refine Bz ?_; refine Se rfl (Oc rfl rfl rfl (Ab (Ah ?_))); refine De rfl Ay ?_; refine Cc rfl ?_; refine Ah ?_; refine Bu ?_; intro hz
   have hq0 := A9 (I := J2) (b := bb2) (xs := [.pointer (some pu), .pointer (some pv)]) (ys := sp2) (T := 56) (fr := (0, 0))
   simp only [List.cons_append, List.nil_append] at hq0
   have hf := hf.mono hz
   have hk := hk.mono hz
   have ht := ht.mono hz
   have hle := hle.trans hz
   have hau := hau.mono (e2.trans hz)
   have hav := hav.mono hz
   have q1 : Still _ ((⟨bb2, 0, none⟩ : Addr).add (1 * 1)) [.pointer (some pv)] := hq0.cellAt 1 rfl
   have q0 : Still _ ((⟨bb2, 0, none⟩ : Addr).add (0 * 1)) [.pointer (some pu)] := hq0.cellAt 0 rfl
   have hl1 := Co m a k
   have hl2 := Co (eval m a k).left d k
   rw [I3] at hR
   simp only [hv0, hv1] at hR
   refine Cu (fun w h => Mem.sub (L' := (b, _) :: (b4, _) :: L) A7 h) ?_; refine Al rfl ?_; refine Az rfl .free rfl ?_; refine Ca rfl (Bl hf.rep _) ?_; rintro _ _ _ _ ⟨rfl, rfl, rfl⟩; rw [show (Ex.bin o a d).tree.head = o.txt from rfl]; refine Ab (Aq (Se rfl (Od rfl rfl rfl (Oa rfl (Ab ?_)))))
   first | refine Ez rfl (o.txt_ne.1) ?_ | refine Ey rfl (o.txt_ne.1) ?_ | refine A0 Ar ?_
   refine Se rfl (Od rfl rfl rfl (Oa rfl (Ab ?_)))
   first | refine Ez rfl (o.txt_ne.2.1) ?_ | refine Ey rfl (o.txt_ne.2.1) ?_ | refine A0 Ar ?_
   refine Se rfl (Od rfl rfl rfl (Oa rfl (Ab ?_)))
   first | refine Ez rfl (fun h => hoc (B5.txt_inj (o' := .call) h)) ?_ | refine Ey rfl (fun h => hoc (B5.txt_inj (o' := .call) h)) ?_ | refine A0 Ar ?_
   refine Se rfl (Om rfl ?_); refine Az rfl .free rfl ?_; refine Ca rfl (Bl hf.rep _) ?_; rintro _ _ _ _ ⟨rfl, rfl, rfl⟩; rw [show (Ex.bin o a d).tree.head = o.txt from rfl]; refine Om rfl ?_; refine Ca rfl (V9 ht hoc wu wv hq0 hB2.2.1 hau hav b (eval (eval m a k).left d k).left _) ?_; rintro _ J3 _ e3 ⟨p3, rfl, hp3, rfl⟩; refine Oa rfl (Ab (Am (.tmp rfl .nil) ?_))
   have hRR : Res.of (o.act u v) (eval (eval m a k).left d k).left = R := by
    rw [← hR]
    cases o <;> first | rfl | exact absurd rfl hoc
   subst hRR
   exact ⟨J3, _, hle.trans e3, fun w h => Mem.sub (L' := T5 b _ _ :: L) A7 h, p3, rfl, hp3, rfl⟩
  ·skip
   refine Al rfl ?_; refine Az rfl .free rfl ?_; refine Ca rfl (B8 hr _) ?_; rintro _ _ _ _ ⟨rfl, rfl, rfl⟩; rw [show (Ex.ite a d g).tree.parts.isEmpty = false from rfl]; refine Ab ?_
   first | refine Sf rfl Ae ?_ | refine A0 Ar ?_
   refine Ak (Ah (Se rfl ?_)); refine Az rfl .free rfl ?_; refine Ca rfl (Bl hr _) ?_; rintro _ _ _ _ ⟨rfl, rfl, rfl⟩; obtain ⟨oa2, c2, oaf, cf, he2, hf⟩ := hr.at'
   simp only [List.cons.injEq, Value.slice.injEq, and_true, true_and] at he2
   obtain ⟨rfl, rfl⟩ := he2; obtain ⟨xa, rfl⟩ : ∃ x, oc = some x := ⟨_, En hf.nil (show 0 < 4 by decide)⟩
   have hlen : (Ex.ite a d g).tree.parts.length = 4 := rfl
   have hev : evT (Ex.ite a d g).tree = [1] := rfl
   simp only [Ex.ok, Bool.and_eq_true] at hok
   rw [show (Ex.ite a d g).tree.head = [105, 102] from rfl]; refine Od rfl rfl rfl (Ab ?_)
   first | refine Sf rfl Ad ?_ | refine A0 Ar ?_
   refine Ak (Se rfl (Oa rfl (Ab (Ah (Se rfl ?_))))); refine Az rfl .free rfl ?_; refine Ca rfl (Gr hf.rep _) ?_; rintro _ J0 _ e0 ⟨oq, ck, rfl, hn0, rfl⟩
   have hf := hf.mono e0
   have hk := hk.mono e0
   have ht := ht.mono e0
   have hle := hle.trans e0
   rw [hev] at hn0; rw [hev]; refine On rfl (Om rfl (Ab (Aq ?_))); refine Ee ?_; refine Se rfl (Oc rfl rfl rfl (Ab (Ah ?_))); refine B6 rfl Ay ?_; refine Ak (Ah (Aq (Se rfl ?_)))
   first | refine Bs rfl rfl _ rfl .free rfl ?_ | refine Bt rfl rfl _ rfl .free rfl ?_
   refine Er rfl .free rfl ?_; refine Oa rfl (Ab (Se rfl (Om rfl (Oh rfl ?_)))); refine Bv rfl .free rfl ?_; refine Om rfl ?_
   first | refine Bs rfl rfl _ rfl .free rfl ?_ | refine Bt rfl rfl _ rfl .free rfl ?_
   refine Gv rfl .free rfl ?_; refine Om rfl ?_; refine C4 (fun w h => h.f1) ?_; refine Ca rfl (ihn ht m Aa Aa (hf.as 1 a.tree Aa rfl) hok.1.1 hk hkw (fun y hy => hd y (List.mem_append_left _ (List.mem_append_left _ hy))) b _) ?_; rintro _ J1 _ e1 ⟨p0, rfl, hp0, rfl⟩
   have hf := hf.mono e1
   have hk := hk.mono e1
   have ht := ht.mono e1
   have hn0 := hn0.mono e1
   have hle := hle.trans e1
   unfold T5
   refine Oa rfl (Ab (Ah (Se rfl (Om rfl ?_)))); refine Hz rfl rfl .free rfl ?_; refine Ab ?_; refine A6 rfl ?_ ?_
   ·intro c5
    try simp only [nb] at c5
    obtain ⟨hv0, rfl⟩ := K7 hp0 c5
    have hRR : eval m a k = R := by
     rw [Hm] at hR
     simpa only [hv0] using hR
    refine Se rfl (Oa rfl (Ab (Am (.tmp rfl .nil) ?_))); subst hRR
    exact ⟨_, _, hle, Ms (L' := (b, _) :: L), none, rfl, by rw [hv0]; rfl, rfl⟩
   intro c5
   try simp only [nb] at c5
   obtain ⟨u, pu, hv0, rfl, hau⟩ := K8 hp0 (by simpa using c5); obtain ⟨wu, hst0⟩ := Mc hkw hok.1.1 (fun y hy => hd y (List.mem_append_left _ (List.mem_append_left _ hy))) hv0; rw [hst0]; refine Ak (Al rfl (Om rfl (Om rfl ?_))); refine Ol rfl rfl ?_; intro b62; refine D1 (B := none) (xs := []) (ys := [.pointer (some pu)]) (m := 0) (c := 0) Av Ac rfl rfl ⟨rfl, rfl, rfl⟩ (fun _ h => h) Ac (fun a ha => by cases ha; exact Bw (.head _) Ac) Ae Ac Ad Ad Aa Ad .free rfl ?_; intro bb sp c2 hB
   simp only [A2, List.cons_append, List.nil_append, Nat.zero_add]
   refine Oa rfl (Ab (Ap (Al rfl ?_))); refine Or rfl rfl rfl ?_; refine Om rfl (Ab ?_); refine Bz ?_; refine Se rfl (Oc rfl rfl rfl (Ab (Ah ?_))); refine De rfl Ay ?_; refine Cc rfl ?_; refine Ah ?_; refine Bu ?_; intro hz
   have hq0 := A9 (I := J1) (b := bb) (xs := [.pointer (some pu)]) (ys := sp) (T := 56) (fr := (0, 0))
   simp only [List.cons_append, List.nil_append] at hq0
   have hf := hf.mono hz
   have hk := hk.mono hz
   have ht := ht.mono hz
   have hle := hle.trans hz
   have hau := hau.mono hz
   have q0 : Still _ ((⟨bb, 0, none⟩ : Addr).add (0 * 1)) [.pointer (some pu)] := hq0.cellAt 0 rfl
   have hl1 := Co m a k
   skip
   rw [Hm] at hR
   simp only [hv0] at hR
   refine Cu (fun w h => Mem.sub (L' := (b, _) :: (b4, _) :: L) A7 h) ?_; refine Al rfl ?_; refine Az rfl .free rfl ?_; refine Ca rfl (Bl hf.rep _) ?_; rintro _ _ _ _ ⟨rfl, rfl, rfl⟩; rw [show (Ex.ite a d g).tree.head = [105, 102] from rfl]; refine Ab (Aq (Se rfl (Od rfl rfl rfl (Oa rfl (Ab ?_)))))
   first | refine St rfl (rfl) ?_ | refine B9 Ar ?_
   refine Se rfl ?_; obtain ⟨x1, x2, x3, su⟩ := hau.cell; refine Om rfl ?_
   first | refine Bs rfl rfl 0 rfl .free rfl ?_ | refine Bt rfl rfl 0 rfl .free rfl ?_
   refine Cp rfl (Be q0 rfl) .free rfl ?_; refine Aw rfl .free rfl ?_
   first | refine Oh rfl ?_ | refine Oj rfl ?_
   refine Cp rfl (Bi su Ac rfl) .free rfl ?_; refine Ab (Aq (Se rfl (Od rfl rfl rfl (Oa rfl (Ab ?_))))); refine A6 rfl ?_ ?_
   ·intro c7
    try simp only [nb] at c7
    refine Se rfl (Om rfl ?_); refine Ca rfl (E7 _ b (eval m a k).left _) ?_; rintro _ _ _ _ ⟨rfl, rfl, rfl⟩; refine Oa rfl (Ab (Am (.tmp rfl .nil) ?_))
    have hRR : (⟨none, (eval m a k).left, true⟩ : Res) = R := by
     cases u with
     | num s => exact absurd c7 (Zs wu)
     | _ => exact hR
    subst hRR
    exact ⟨_, _, hle, Ms (L' := (b, _) :: L), none, rfl, rfl, rfl⟩
   intro c7
   try simp only [nb] at c7
   obtain ⟨s, rfl, hs⟩ := Zr wu c7
   simp only at hR
   have hdb : ∀ y ∈ d.occ [], y ∈ k.dom := fun y hy => hd y (List.mem_append_left _ (List.mem_append_right _ hy))
   have hdc : ∀ y ∈ g.occ [], y ∈ k.dom := fun y hy => hd y (List.mem_append_right _ hy)
   refine Se rfl (Od rfl rfl rfl (Oa rfl (Ab ?_))); refine A6 rfl ?_ ?_
   ·intro c8
    try simp only [nb] at c8
    have hRR : eval (eval m a k).left d k = R := by rw [← hR, if_pos (show s = [48] from c8)]
    refine Al rfl (Oh rfl ?_); refine Bv rfl .free rfl ?_
    first | refine Bs rfl rfl 2 rfl .free rfl ?_ | refine Bt rfl rfl 2 rfl .free rfl ?_
    refine Gv rfl .free rfl ?_; refine By rfl rfl rfl rfl .free ?_; refine Ab ?_
    iterate 3 refine Ap ?_
    first
    | exact Cu (fun w h => h.f1) (Ed (E' := [(0, .pointer (some ⟨b, 0, none⟩)), (2, .pointer pk), (4, .pointer (some ⟨b4, 0, none⟩))]) ⟨rfl, rfl, rfl, trivial⟩ (ih ⟨d, k, pk, (eval m a k).left, _, oaf 2, cf 2⟩ ⟨hle, hf.as 2 d.tree Aa rfl, hok.1.2, hk, hkw, hdb, by show (eval m a k).left < N + 1; omega, by show (eval m a k).left ≤ 1000000; omega, hRR⟩ Dq))
    | exact Cu (fun w h => h.f1) (Ed (E' := [(0, .pointer (some ⟨b, 0, none⟩)), (2, .pointer pk), (4, .pointer (some ⟨b4, 0, none⟩))]) ⟨rfl, rfl, rfl, trivial⟩ (ih ⟨g, k, pk, (eval m a k).left, _, oaf 3, cf 3⟩ ⟨hle, hf.as 3 g.tree Aa rfl, hok.2, hk, hkw, hdc, by show (eval m a k).left < N + 1; omega, by show (eval m a k).left ≤ 1000000; omega, hRR⟩ Dq))
   intro c8
   try simp only [nb] at c8
   have hRR : eval (eval m a k).left g k = R := by rw [← hR, if_neg (show ¬ s = [48] from c8)]
   refine Al rfl (Oh rfl ?_); refine Bv rfl .free rfl ?_
   first | refine Bs rfl rfl 3 rfl .free rfl ?_ | refine Bt rfl rfl 3 rfl .free rfl ?_
   refine Gv rfl .free rfl ?_; refine By rfl rfl rfl rfl .free ?_; refine Ab ?_
   iterate 3 refine Ap ?_
   first
   | exact Cu (fun w h => h.f1) (Ed (E' := [(0, .pointer (some ⟨b, 0, none⟩)), (2, .pointer pk), (4, .pointer (some ⟨b4, 0, none⟩))]) ⟨rfl, rfl, rfl, trivial⟩ (ih ⟨d, k, pk, (eval m a k).left, _, oaf 2, cf 2⟩ ⟨hle, hf.as 2 d.tree Aa rfl, hok.1.2, hk, hkw, hdb, by show (eval m a k).left < N + 1; omega, by show (eval m a k).left ≤ 1000000; omega, hRR⟩ Dq))
   | exact Cu (fun w h => h.f1) (Ed (E' := [(0, .pointer (some ⟨b, 0, none⟩)), (2, .pointer pk), (4, .pointer (some ⟨b4, 0, none⟩))]) ⟨rfl, rfl, rfl, trivial⟩ (ih ⟨g, k, pk, (eval m a k).left, _, oaf 3, cf 3⟩ ⟨hle, hf.as 3 g.tree Aa rfl, hok.2, hk, hkw, hdc, by show (eval m a k).left < N + 1; omega, by show (eval m a k).left ≤ 1000000; omega, hRR⟩ Dq))
  ·skip
   refine Al rfl ?_; refine Az rfl .free rfl ?_; refine Ca rfl (B8 hr _) ?_; rintro _ _ _ _ ⟨rfl, rfl, rfl⟩; rw [show (Ex.lt z a d).tree.parts.isEmpty = false from rfl]; refine Ab ?_
   first | refine Sf rfl Ae ?_ | refine A0 Ar ?_
   refine Ak (Ah (Se rfl ?_)); refine Az rfl .free rfl ?_; refine Ca rfl (Bl hr _) ?_; rintro _ _ _ _ ⟨rfl, rfl, rfl⟩; obtain ⟨oa2, c2, oaf, cf, he2, hf⟩ := hr.at'
   simp only [List.cons.injEq, Value.slice.injEq, and_true, true_and] at he2
   obtain ⟨rfl, rfl⟩ := he2; obtain ⟨xa, rfl⟩ : ∃ x, oc = some x := ⟨_, En hf.nil (show 0 < 4 by decide)⟩
   have hlen : (Ex.lt z a d).tree.parts.length = 4 := rfl
   have hev : evT (Ex.lt z a d).tree = [2] := rfl
   simp only [Ex.ok, Bool.and_eq_true] at hok
   rw [show (Ex.lt z a d).tree.head = [108, 101, 116] from rfl]; refine Od rfl rfl rfl (Ab ?_)
   first | refine Sf rfl Ad ?_ | refine A0 Ar ?_
   refine Ak (Se rfl (Oa rfl (Ab (Ah (Se rfl ?_))))); refine Az rfl .free rfl ?_; refine Ca rfl (Gr hf.rep _) ?_; rintro _ J0 _ e0 ⟨oq, ck, rfl, hn0, rfl⟩
   have hf := hf.mono e0
   have hk := hk.mono e0
   have ht := ht.mono e0
   have hle := hle.trans e0
   rw [hev] at hn0; rw [hev]; refine On rfl (Om rfl (Ab (Aq ?_))); refine Ee ?_; refine Se rfl (Oc rfl rfl rfl (Ab (Ah ?_))); refine B6 rfl Ay ?_; refine Ak (Ah (Aq (Se rfl ?_)))
   first | refine Bs rfl rfl _ rfl .free rfl ?_ | refine Bt rfl rfl _ rfl .free rfl ?_
   refine Er rfl .free rfl ?_; refine Oa rfl (Ab (Se rfl (Om rfl (Oh rfl ?_)))); refine Bv rfl .free rfl ?_; refine Om rfl ?_
   first | refine Bs rfl rfl _ rfl .free rfl ?_ | refine Bt rfl rfl _ rfl .free rfl ?_
   refine Gv rfl .free rfl ?_; refine Om rfl ?_; refine C4 (fun w h => h.f1) ?_; refine Ca rfl (ihn ht m Aa Aa (hf.as 2 a.tree Aa rfl) hok.1.2 hk hkw (fun y hy => hd y (List.mem_append_left _ hy)) b _) ?_; rintro _ J1 _ e1 ⟨p0, rfl, hp0, rfl⟩
   have hf := hf.mono e1
   have hk := hk.mono e1
   have ht := ht.mono e1
   have hn0 := hn0.mono e1
   have hle := hle.trans e1
   unfold T5
   refine Oa rfl (Ab (Ah (Se rfl (Om rfl ?_)))); refine Hz rfl rfl .free rfl ?_; refine Ab ?_; refine A6 rfl ?_ ?_
   ·intro c5
    try simp only [nb] at c5
    obtain ⟨hv0, rfl⟩ := K7 hp0 c5
    have hRR : eval m a k = R := by
     rw [I4] at hR
     simpa only [hv0] using hR
    refine Se rfl (Oa rfl (Ab (Am (.tmp rfl .nil) ?_))); subst hRR
    exact ⟨_, _, hle, Ms (L' := (b, _) :: L), none, rfl, by rw [hv0]; rfl, rfl⟩
   intro c5
   try simp only [nb] at c5
   obtain ⟨u, pu, hv0, rfl, hau⟩ := K8 hp0 (by simpa using c5); obtain ⟨wu, hst0⟩ := Mc hkw hok.1.2 (fun y hy => hd y (List.mem_append_left _ hy)) hv0; rw [hst0]; refine Ak (Al rfl (Om rfl (Om rfl ?_))); refine Ol rfl rfl ?_; intro b62; refine D1 (B := none) (xs := []) (ys := [.pointer (some pu)]) (m := 0) (c := 0) Av Ac rfl rfl ⟨rfl, rfl, rfl⟩ (fun _ h => h) Ac (fun a ha => by cases ha; exact Bw (.head _) Ac) Ae Ac Ad Ad Aa Ad .free rfl ?_; intro bb sp c2 hB
   simp only [A2, List.cons_append, List.nil_append, Nat.zero_add]
   refine Oa rfl (Ab (Ap (Al rfl ?_))); refine Or rfl rfl rfl ?_; refine Om rfl (Ab ?_); refine Bz ?_; refine Se rfl (Oc rfl rfl rfl (Ab (Ah ?_))); refine De rfl Ay ?_; refine Cc rfl ?_; refine Ah ?_; refine Bu ?_; intro hz
   have hq0 := A9 (I := J1) (b := bb) (xs := [.pointer (some pu)]) (ys := sp) (T := 56) (fr := (0, 0))
   simp only [List.cons_append, List.nil_append] at hq0
   have hf := hf.mono hz
   have hk := hk.mono hz
   have ht := ht.mono hz
   have hle := hle.trans hz
   have hau := hau.mono hz
   have q0 : Still _ ((⟨bb, 0, none⟩ : Addr).add (0 * 1)) [.pointer (some pu)] := hq0.cellAt 0 rfl
   have hl1 := Co m a k
   skip
   rw [I4] at hR
   simp only [hv0] at hR
   refine Cu (fun w h => Mem.sub (L' := (b, _) :: (b4, _) :: L) A7 h) ?_; refine Al rfl ?_; refine Az rfl .free rfl ?_; refine Ca rfl (Bl hf.rep _) ?_; rintro _ _ _ _ ⟨rfl, rfl, rfl⟩; rw [show (Ex.lt z a d).tree.head = [108, 101, 116] from rfl]; refine Ab (Aq (Se rfl (Od rfl rfl rfl (Oa rfl (Ab ?_)))))
   first | refine Sf rfl Ad ?_ | refine A0 Ar ?_
   refine Se rfl (Od rfl rfl rfl (Oa rfl (Ab ?_)))
   first | refine St rfl (rfl) ?_ | refine B9 Ar ?_
   refine Fh 16 rfl rfl ?_; refine Da 0 rfl (Aj rfl) ?_; refine Dt 1 [14] rfl (Bo rfl) ?_
   first | refine Da 2 rfl (Bc rfl rfl 3 rfl) ?_ | refine Da 2 rfl (Bd rfl rfl 3 rfl) ?_
   refine Dt 3 [14] rfl (C5 rfl) ?_; refine Da 4 rfl (Ai rfl) ?_; refine Da 5 rfl (Aj rfl) ?_; refine Dt 6 [14] rfl (Bo rfl) ?_
   first | refine Da 7 rfl (Bc rfl rfl 1 rfl) ?_ | refine Da 7 rfl (Bd rfl rfl 1 rfl) ?_
   refine Da 8 rfl (A4 rfl) ?_; refine Dt 9 [14] rfl (Kb rfl) ?_; refine Da 10 rfl (Ai rfl) ?_
   first | refine Da 11 rfl (Bc rfl rfl 0 rfl) ?_ | refine Da 11 rfl (Bd rfl rfl 0 rfl) ?_
   refine Dt 12 [14] rfl (Fs rfl (Be q0 rfl)) ?_; refine Dc 13 rfl rfl (M9 hk z hau _) ?_; rintro _ J2 _ e2 ⟨y2, rfl, hk2, rfl⟩
   have hf := hf.mono e2
   have hle := hle.trans e2
   refine Hx ?_; refine Dx 14 rfl rfl rfl rfl ?_; refine Db 15 rfl (Bk rfl) ?_; refine A5 Af ?_; refine Ap (Ap ?_); refine Cu (fun w h => h.f1) (Ed (E' := [(0, .pointer (some ⟨b, 0, none⟩)), (2, .pointer (some y2)), (4, .pointer (some ⟨b4, 0, none⟩))]) ⟨rfl, rfl, rfl, trivial⟩ (ih ⟨d, .cons z u k, some y2, (eval m a k).left, _, oaf 3, cf 3⟩ ⟨hle, hf.as 3 d.tree Aa rfl, hok.2, hk2, ⟨hok.1.1, wu, hkw⟩, fun y hy => ?_, by show (eval m a k).left < N + 1; omega, by show (eval m a k).left ≤ 1000000; omega, hR⟩ Dq))
   simp only [KE.dom, List.mem_cons]
   by_cases hyx : y = z
   ·exact .inl hyx
   ·exact .inr (hd y (List.mem_append_right _ (show y ∈ d.occ ([] ++ [z]) from Ex.occ_mem.2 ⟨hy, by simpa using hyx⟩)))
  ·skip
   refine Al rfl ?_; refine Az rfl .free rfl ?_; refine Ca rfl (B8 hr _) ?_; rintro _ _ _ _ ⟨rfl, rfl, rfl⟩; rw [show (Ex.un o a).tree.parts.isEmpty = false from rfl]; refine Ab ?_
   first | refine Sf rfl Ae ?_ | refine A0 Ar ?_
   refine Ak (Ah (Se rfl ?_)); refine Az rfl .free rfl ?_; refine Ca rfl (Bl hr _) ?_; rintro _ _ _ _ ⟨rfl, rfl, rfl⟩; obtain ⟨oa2, c2, oaf, cf, he2, hf⟩ := hr.at'
   simp only [List.cons.injEq, Value.slice.injEq, and_true, true_and] at he2
   obtain ⟨rfl, rfl⟩ := he2; obtain ⟨xa, rfl⟩ : ∃ x, oc = some x := ⟨_, En hf.nil (show 0 < 2 by decide)⟩
   have hlen : (Ex.un o a).tree.parts.length = 2 := rfl
   have hev : evT (Ex.un o a).tree = [1] := by cases o <;> rfl
   simp only [Ex.ok, Bool.and_eq_true] at hok
   rw [show (Ex.un o a).tree.head = o.txt from rfl]; refine Od rfl rfl rfl (Ab ?_)
   first | refine Ez rfl (o.txt_ne.2.2.1) ?_ | refine Ey rfl (o.txt_ne.2.2.1) ?_ | refine A0 Ar ?_
   refine Ak (Se rfl (Oa rfl (Ab (Ah (Se rfl ?_))))); refine Az rfl .free rfl ?_; refine Ca rfl (Gr hf.rep _) ?_; rintro _ J0 _ e0 ⟨oq, ck, rfl, hn0, rfl⟩
   have hf := hf.mono e0
   have hk := hk.mono e0
   have ht := ht.mono e0
   have hle := hle.trans e0
   rw [hev] at hn0; rw [hev]; refine On rfl (Om rfl (Ab (Aq ?_))); refine Ee ?_; refine Se rfl (Oc rfl rfl rfl (Ab (Ah ?_))); refine B6 rfl Ay ?_; refine Ak (Ah (Aq (Se rfl ?_)))
   first | refine Bs rfl rfl _ rfl .free rfl ?_ | refine Bt rfl rfl _ rfl .free rfl ?_
   refine Er rfl .free rfl ?_; refine Oa rfl (Ab (Se rfl (Om rfl (Oh rfl ?_)))); refine Bv rfl .free rfl ?_; refine Om rfl ?_
   first | refine Bs rfl rfl _ rfl .free rfl ?_ | refine Bt rfl rfl _ rfl .free rfl ?_
   refine Gv rfl .free rfl ?_; refine Om rfl ?_; refine C4 (fun w h => h.f1) ?_; refine Ca rfl (ihn ht m Aa Aa (hf.as 1 a.tree Aa rfl) hok hk hkw (fun y hy => hd y hy) b _) ?_; rintro _ J1 _ e1 ⟨p0, rfl, hp0, rfl⟩
   have hf := hf.mono e1
   have hk := hk.mono e1
   have ht := ht.mono e1
   have hn0 := hn0.mono e1
   have hle := hle.trans e1
   unfold T5
   refine Oa rfl (Ab (Ah (Se rfl (Om rfl ?_)))); refine Hz rfl rfl .free rfl ?_; refine Ab ?_; refine A6 rfl ?_ ?_
   ·intro c5
    try simp only [nb] at c5
    obtain ⟨hv0, rfl⟩ := K7 hp0 c5
    have hRR : eval m a k = R := by
     rw [I5] at hR
     simpa only [hv0] using hR
    refine Se rfl (Oa rfl (Ab (Am (.tmp rfl .nil) ?_))); subst hRR
    exact ⟨_, _, hle, Ms (L' := (b, _) :: L), none, rfl, by rw [hv0]; rfl, rfl⟩
   intro c5
   try simp only [nb] at c5
   obtain ⟨u, pu, hv0, rfl, hau⟩ := K8 hp0 (by simpa using c5); obtain ⟨wu, hst0⟩ := Mc hkw hok (fun y hy => hd y hy) hv0; rw [hst0]; refine Ak (Al rfl (Om rfl (Om rfl ?_))); refine Ol rfl rfl ?_; intro b62; refine D1 (B := none) (xs := []) (ys := [.pointer (some pu)]) (m := 0) (c := 0) Av Ac rfl rfl ⟨rfl, rfl, rfl⟩ (fun _ h => h) Ac (fun a ha => by cases ha; exact Bw (.head _) Ac) Ae Ac Ad Ad Aa Ad .free rfl ?_; intro bb sp c2 hB
   simp only [A2, List.cons_append, List.nil_append, Nat.zero_add]
   refine Oa rfl (Ab (Ap (Al rfl ?_))); refine Or rfl rfl rfl ?_; refine Om rfl (Ab ?_); refine Bz ?_; refine Se rfl (Oc rfl rfl rfl (Ab (Ah ?_))); refine De rfl Ay ?_; refine Cc rfl ?_; refine Ah ?_; refine Bu ?_; intro hz
   have hq0 := A9 (I := J1) (b := bb) (xs := [.pointer (some pu)]) (ys := sp) (T := 56) (fr := (0, 0))
   simp only [List.cons_append, List.nil_append] at hq0
   have hf := hf.mono hz
   have hk := hk.mono hz
   have ht := ht.mono hz
   have hle := hle.trans hz
   have hau := hau.mono hz
   have q0 : Still _ ((⟨bb, 0, none⟩ : Addr).add (0 * 1)) [.pointer (some pu)] := hq0.cellAt 0 rfl
   have hl1 := Co m a k
   skip
   rw [I5] at hR
   simp only [hv0] at hR
   refine Cu (fun w h => Mem.sub (L' := (b, _) :: (b4, _) :: L) A7 h) ?_; refine Al rfl ?_; refine Az rfl .free rfl ?_; refine Ca rfl (Bl hf.rep _) ?_; rintro _ _ _ _ ⟨rfl, rfl, rfl⟩; rw [show (Ex.un o a).tree.head = o.txt from rfl]; refine Ab (Aq (Se rfl (Od rfl rfl rfl (Oa rfl (Ab ?_)))))
   first | refine Ez rfl (o.txt_ne.1) ?_ | refine Ey rfl (o.txt_ne.1) ?_ | refine A0 Ar ?_
   refine Se rfl (Od rfl rfl rfl (Oa rfl (Ab ?_)))
   first | refine Ez rfl (o.txt_ne.2.1) ?_ | refine Ey rfl (o.txt_ne.2.1) ?_ | refine A0 Ar ?_
   refine Se rfl (Od rfl rfl rfl (Oa rfl (Ab ?_)))
   first | refine Ez rfl (fun h => W7 .call o h.symm) ?_ | refine Ey rfl (fun h => W7 .call o h.symm) ?_ | refine A0 Ar ?_
   refine Se rfl (Om rfl ?_); refine Az rfl .free rfl ?_; refine Ca rfl (Bl hf.rep _) ?_; rintro _ _ _ _ ⟨rfl, rfl, rfl⟩; rw [show (Ex.un o a).tree.head = o.txt from rfl]; refine Om rfl ?_; refine Ca rfl (Xw hq0 hau b (eval m a k).left _) ?_; rintro _ J3 _ e3 ⟨p3, rfl, hp3, rfl⟩; refine Oa rfl (Ab (Am (.tmp rfl .nil) ?_))
   have hRR : Res.of (o.act u) (eval m a k).left = R := hR
   subst hRR
   exact ⟨J3, _, hle.trans e3, fun w h => Mem.sub (L' := T5 b _ _ :: L) A7 h, p3, rfl, hp3, rfl⟩
theorem K5 {I : Heap} (ht : Tab I) {e : Ex} {cs : List Value} {k : KE} {pk : Option Addr} (n : Nat) (hm : n ≤ 1000000) (h : Rep I e.tree cs) (hok : e.ok = true) (hk : KEat I k pk) (hkw : k.wf) (hd : ∀ y ∈ e.occ [], y ∈ k.dom) (b : Nat) (L : Bj) :
  Fun Tryz.prog 43 [.pointer (some ⟨b, 0, none⟩), .agg cs.toArray, .pointer pk] I (T5 b n false :: L) (EVP b (eval n e k) L) := Abe _ ht n (Nat.lt_succ_self _) hm h hok hk hkw hd b L
def SP (o : Option Ex) (L : Bj) : Cv := fun v I' L' => ∃ (t : Tree) (ds : List Value), v = .tuple #[.agg (List.toArray ds), .bool o.isSome] ∧ Rep I' t ds ∧ (∀ e', o = some e' → t = e'.tree) ∧ L = L'
def Aij (N : Nat) : Prop := ∀ {I : Heap} (_ : Tab I) {e : Ex} {cs : List Value} (_ : SizeOf.sizeOf e < N) (_ : Rep I e.tree cs) (_ : e.ok = true) (L : Bj), Fun Tryz.prog 66 [.agg cs.toArray] I L (SP e.step L)
theorem SP.none' {I : Heap} {o : Option Ex} {L : Bj} (ho : o = none) : SP o L (.tuple #[.agg (List.toArray [.string (str []), .slice none 0 0]), .bool false]) I L :=
 ⟨.node [] [], _, by rw [ho]; rfl, .ofAtom Ad, fun e' h => (by rw [ho] at h; cases h), rfl⟩
def Aii (N : Nat) : Prop := ∀ {I : Heap} {e : Ex} {cs : List Value} (_ : SizeOf.sizeOf e < N) (_ : Rep I e.tree cs) (_ : e.ok = true) (L : Bj), Fun Tryz.prog 68 [.agg cs.toArray] I L (SP e.step L)
def nvT (s : As) : Int := bif Ci s then Fq s else 0
theorem SP.same {I : Heap} {o : Option Ex} {t : Tree} {ds : List Value} {L : Bj} (h : Rep I t ds) (ho : o = none) : SP o L (.tuple #[.agg (List.toArray ds), .bool false]) I L :=
 ⟨t, ds, by rw [ho]; rfl, h, fun e' h => (by rw [ho] at h; cases h), rfl⟩
theorem Ahd {e e' : Ex} (h : e.step = some e') : e.go = if e'.fine = true then some e' else none := by
 unfold Ex.go
 rw [if_neg (by rw [Pb h]; simp), h]; rfl
theorem SP.go {I : Heap} {e e' : Ex} {ds : List Value} {L : Bj} (hs : e.step = some e') (h : Rep I e'.tree ds) : SP e.go L (.tuple #[.agg (List.toArray ds), .bool e'.fine]) I L := by
 rw [Ahd hs]
 cases hf : e'.fine with
 | true => exact ⟨_, ds, rfl, h, fun e2 h2 => by obtain rfl := Option.some.inj h2; rfl, rfl⟩
 | false => exact SP.same h rfl
structure SM where
 e : Ex
 i : Nat
 J : Heap
 o : Option Addr
 k : Nat
def SMr (r : Ex × Nat) (L : Bj) : Cv := fun v I' L' => v = .tuple #[.string (str r.1.tree.text), .int .i64 (r.2 : Nat), .bool true] ∧ L = L'
def MN (o : Option (As × Nat)) (L : Bj) : Cv := fun v I' L' => v = .tuple #[.string (str ((o.map (·.1)).getD [])), .int .i64 (((o.map (·.2)).getD 0 : Nat)), .bool o.isSome] ∧ L = L'
structure SN where
 e : Ex
 i : Nat
 J : Heap
def Res.fin (r : Res) : Prop := r.v ≠ none ∨ r.stuck = true
theorem K6 {r : Res} {w : KV} (h : r.v = some w) : r.fin := .inl (by rw [h]; simp)
theorem Zg (n : Nat) (e : Ex) (k : KE) : (eval (n + 1) e k).left ≤ n := by
 have h1 := fun a => Co n a k
 cases e with
 | num s => exact Nat.le_refl _
 | name s => exact Nat.le_refl _
 | fn f x s t b => exact Nat.le_refl _
 | bin o a b =>
  rw [I3]
  have h2 := Co (eval n a k).left b k
  have h1 := h1 a
  split
  ·exact h1
  ·split
   ·omega
   ·split
    ·exact Nat.le_trans (Co _ _ _) Aa
    ·simp only [Res.of]; omega
 | ite a b c =>
  rw [Hm]
  have h1 := h1 a
  split
  ·exact h1
  ·exact Nat.le_trans (Co _ _ _) h1
  ·exact h1
 | lt x a b =>
  rw [I4]
  have h1 := h1 a
  split
  ·exact h1
  ·exact Nat.le_trans (Co _ _ _) h1
 | un o a =>
  rw [I5]
  have h1 := h1 a
  split
  ·exact h1
  ·exact h1
def Vq (o : B5) (u w : KV) (q : Nat) : Res := match o, u with
 | .call, .clo f x s t c r => eval q c (.cons x w (.cons f (.clo f x s t c r) r))
 | o, u => .of (o.act u w) q
theorem Ir (n : Nat) (o : B5) (a b : Ex) (k : KE) : eval (n + 1) (.bin o a b) k =
  match (eval n a k).v with
  | none => eval n a k
  | some u => match (eval (eval n a k).left b k).v with
   | none => eval (eval n a k).left b k
   | some w => Vq o u w (eval (eval n a k).left b k).left := by
 rw [I3]
 cases (eval n a k).v with
 | none => rfl
 | some u =>
  simp only
  cases (eval (eval n a k).left b k).v with
  | none => rfl
  | some w => cases o <;> cases u <;> rfl
theorem Gi {o : B5} {u w : KV} {q : Nat} (h : ¬ ∃ f x s t c r, o = .call ∧ u = .clo f x s t c r) : Vq o u w q = .of (o.act u w) q := by
 cases o <;> first | rfl | (cases u <;> first | rfl | exact absurd ⟨_, _, _, _, _, _, rfl, rfl⟩ h)
theorem M4 (o : B5) (u w : KV) (q : Nat) : (Vq o u w q).left ≤ q := by
 by_cases hc : ∃ f x s t c r, o = .call ∧ u = .clo f x s t c r
 ·obtain ⟨f, x, s, t, c, r, rfl, rfl⟩ := hc
  exact Co _ _ _
 ·rw [Gi hc]; exact Nat.le_refl _
theorem Hi {f x : As} {s t : Ty} {c : Ex} {r : KE} {w : KV} {q : Nat} : Vq .call (.clo f x s t c r) w q = eval q c (.cons x w (.cons f (.clo f x s t c r) r)) := rfl
def Res.at (r : Res) (n m : Nat) : Res := ⟨r.v, m + r.left - n, r.stuck⟩
theorem Aa7 : ∀ (n : Nat) (e : Ex) (k : KE) (m : Nat), (eval n e k).fin → n ≤ m + (eval n e k).left → eval m e k = (eval n e k).at n m := by
 intro n
 induction n using Nat.strongRecOn with
 | _ n ih =>
  intro e k m h hm
  cases n with
  | zero => rw [Lw] at h; rcases h with h | h; exact absurd rfl h; cases h
  | succ n =>
   have hl1 := Zg n e k
   obtain ⟨m, rfl⟩ : ∃ q, m = q + 1 := ⟨m - 1, by omega⟩
   have hl := fun e k => Co n e k
   cases e with
   | num s => rw [Kn, Kn]; simp only [Res.at, Res.mk.injEq, and_true, true_and]; omega
   | name s => rw [Hv, Hv]; simp only [Res.at, Res.mk.injEq, and_true, true_and]; omega
   | fn f x s t b => rw [Kc, Kc]; simp only [Res.at, Res.mk.injEq, and_true, true_and]; omega
   | bin o a b =>
    have hla := hl a k
    rw [Ir n] at h hm ⊢; rw [Ir m]
    cases hp : (eval n a k).v with
    | none =>
     rw [hp] at h hm
     simp only at h hm ⊢
     rw [ih n Aa a k m h Aa]
     simp only [Res.at, hp, Res.mk.injEq, and_true, true_and]; omega
    | some u =>
     rw [hp] at h hm
     simp only at h hm ⊢
     have hlb := Co (eval n a k).left b k
     cases hq : (eval (eval n a k).left b k).v with
     | none =>
      rw [hq] at h hm
      simp only at h hm ⊢
      rw [ih n Aa a k m (K6 hp) Aa]
      simp only [Res.at, hp]
      rw [ih _ Aa b k (m + (eval n a k).left - n) h Aa]
      simp only [Res.at, hq, Res.mk.injEq, and_true, true_and]; omega
     | some w =>
      rw [hq] at h hm
      simp only at h hm ⊢
      rw [ih n Aa a k m (K6 hp) (by have := M4 o u w (eval (eval n a k).left b k).left; omega)]
      simp only [Res.at, hp]
      rw [ih _ Aa b k (m + (eval n a k).left - n) (K6 hq) (by have := M4 o u w (eval (eval n a k).left b k).left; omega)]
      simp only [Res.at, hq]
      have hq2 := M4 o u w (eval (eval n a k).left b k).left
      rw [show m + (eval n a k).left - n + (eval (eval n a k).left b k).left - (eval n a k).left = m + (eval (eval n a k).left b k).left - n by omega]
      by_cases hc : ∃ f x s t c r, o = .call ∧ u = .clo f x s t c r
      ·obtain ⟨f, x, s, t, c, r, rfl, rfl⟩ := hc; rw [Hi] at h hm hq2 ⊢; rw [Hi]; rw [ih _ Aa c _ (m + (eval (eval n a k).left b k).left - n) h Aa]
       simp only [Res.at, Res.mk.injEq, and_true, true_and]; omega
      ·rw [Gi hc] at h hm hq2 ⊢; rw [Gi hc]
       simp only [Res.of] at h hm hq2 ⊢
       simp only [Res.mk.injEq, and_true, true_and]; omega
   | ite a b c =>
    have hla := hl a k
    rw [Hm n] at h hm ⊢; rw [Hm m]
    cases hp : (eval n a k).v with
    | none =>
     rw [hp] at h hm
     simp only at h hm ⊢
     rw [ih n Aa a k m h Aa]
     simp only [Res.at, hp, Res.mk.injEq, and_true, true_and]; omega
    | some u =>
     rw [hp] at h hm
     cases u with
     | num s =>
      simp only at h hm ⊢
      have hlb := Co (eval n a k).left (if s = [48] then b else c) k
      rw [ih n Aa a k m (K6 hp) Aa]
      simp only [Res.at, hp]
      rw [ih _ Aa _ k (m + (eval n a k).left - n) h Aa]
      simp only [Res.at, Res.mk.injEq, and_true, true_and]; omega
     | _ =>
      simp only at h hm ⊢
      rw [ih n Aa a k m (K6 hp) Aa]
      simp only [Res.at, hp, Res.mk.injEq, and_true, true_and]; omega
   | lt x a b =>
    have hla := hl a k
    rw [I4 n] at h hm ⊢; rw [I4 m]
    cases hp : (eval n a k).v with
    | none =>
     rw [hp] at h hm
     simp only at h hm ⊢
     rw [ih n Aa a k m h Aa]
     simp only [Res.at, hp, Res.mk.injEq, and_true, true_and]; omega
    | some u =>
     rw [hp] at h hm
     simp only at h hm ⊢
     have hlb := Co (eval n a k).left b (.cons x u k)
     rw [ih n Aa a k m (K6 hp) Aa]
     simp only [Res.at, hp]
     rw [ih _ Aa b _ (m + (eval n a k).left - n) h Aa]
     simp only [Res.at, Res.mk.injEq, and_true, true_and]; omega
   | un o a =>
    have hla := hl a k
    rw [I5 n] at h hm ⊢; rw [I5 m]
    cases hp : (eval n a k).v with
    | none =>
     rw [hp] at h hm
     simp only at h hm ⊢
     rw [ih n Aa a k m h Aa]
     simp only [Res.at, hp, Res.mk.injEq, and_true, true_and]; omega
    | some u =>
     rw [hp] at h hm
     simp only [Res.of] at h hm ⊢
     rw [ih n Aa a k m (K6 hp) Aa]
     simp only [Res.at, hp, Res.mk.injEq, and_true, true_and]; omega
theorem Ur {n m : Nat} {e : Ex} {k : KE} (h : (eval n e k).fin) (hm : n ≤ m) : eval m e k = (eval n e k).at n m := Aa7 n e k m h (by omega)
def Ex.kv (k : KE) : Ex → KV
 | .num s => .num s
 | .bin _ a b => .pair (a.kv k) (b.kv k)
 | .fn f x s t b => .clo f x s t b k
 | _ => .num []
def Ex.cost : Ex → Nat
 | .bin _ a b => 1 + a.cost + b.cost
 | _ => 1
def KV.show : KV → As
 | .num s => s
 | .pair a b => [40, 112, 97, 105, 114, 32] ++ a.show ++ [32] ++ b.show ++ [41]
 | .clo _ _ _ _ _ _ => [102, 117, 110]
def KV.wr (m : Nat) : KV → As → As
 | .num s, o => if m < o.length then o else o ++ s
 | .pair a b, o => if m < o.length then o else b.wr m (a.wr m (o ++ [40, 112, 97, 105, 114, 32]) ++ [32]) ++ [41]
 | .clo _ _ _ _ _ _, o => if m < o.length then o else o ++ [102, 117, 110]
theorem J8 (m : Nat) (w : KV) (o : As) (h : m < o.length) : w.wr m o = o := by cases w <;> simp only [KV.wr, if_pos h]
theorem Q8 : ∀ (m : Nat) (w : KV) (o : As), o.length + w.show.length ≤ m → w.wr m o = o ++ w.show
 | m, .num s, o, h => by simp only [KV.show] at h; simp only [KV.wr, KV.show]; rw [if_neg (by omega)]
 | m, .clo _ _ _ _ _ _, o, h => by simp only [KV.show] at h; simp only [KV.wr, KV.show]; rw [if_neg (by omega)]
 | m, .pair a b, o, h => by
  simp only [KV.show, List.length_append, List.length_cons, List.length_nil] at h
  simp only [KV.wr, KV.show]
  rw [if_neg (by omega)]; rw [Q8 m a _ (by simp only [List.length_append, List.length_cons, List.length_nil]; omega)]; rw [Q8 m b _ (by simp only [List.length_append, List.length_cons, List.length_nil]; omega)]
  simp only [List.append_assoc]
theorem Wz : ∀ (m : Nat) (w : KV) (o : As), o.length ≤ (w.wr m o).length
 | m, .num s, o => by simp only [KV.wr]; split <;> simp
 | m, .clo _ _ _ _ _ _, o => by simp only [KV.wr]; split <;> simp
 | m, .pair a b, o => by
  simp only [KV.wr]
  split
  ·exact Nat.le_refl _
  ·have h1 := Wz m a (o ++ [40, 112, 97, 105, 114, 32])
   have h2 := Wz m b (a.wr m (o ++ [40, 112, 97, 105, 114, 32]) ++ [32])
   simp only [List.length_append, List.length_cons, List.length_nil] at h1 h2 ⊢
   omega
theorem W0 : ∀ (m : Nat) (w : KV) (o : As), m < o.length + w.show.length → m < (w.wr m o).length
 | m, .num s, o, h => by
  simp only [KV.show] at h
  simp only [KV.wr]
  split
  ·assumption
  ·simpa using h
 | m, .clo _ _ _ _ _ _, o, h => by
  simp only [KV.show] at h
  simp only [KV.wr]
  split
  ·assumption
  ·simpa using h
 | m, .pair a b, o, h => by
  simp only [KV.show, List.length_append, List.length_cons, List.length_nil] at h
  simp only [KV.wr]
  split
  ·assumption
  ·have h1 := Wz m a (o ++ [40, 112, 97, 105, 114, 32])
   have h2 := Wz m b (a.wr m (o ++ [40, 112, 97, 105, 114, 32]) ++ [32])
   simp only [List.length_append, List.length_cons, List.length_nil] at h1 h2 ⊢
   by_cases ha : m < o.length + 6 + a.show.length
   ·have := W0 m a (o ++ [40, 112, 97, 105, 114, 32]) (by simpa using ha)
    omega
   ·rw [Q8 m a _ (by simp only [List.length_append, List.length_cons, List.length_nil]; omega)] at h2 ⊢
    simp only [List.length_append, List.length_cons, List.length_nil] at h2
    by_cases hb : m < o.length + 6 + a.show.length + 1 + b.show.length
    ·have := W0 m b (o ++ [40, 112, 97, 105, 114, 32] ++ a.show ++ [32]) (by simp only [List.length_append, List.length_cons, List.length_nil]; omega)
     omega
    ·rw [Q8 m b _ (by simp only [List.length_append, List.length_cons, List.length_nil]; omega)]
     simp only [List.length_append, List.length_cons, List.length_nil]
     omega
mutual
def KV.high : KV → Nat
 | .num _ => 0
 | .pair a b => 1 + max a.high b.high
 | .clo _ _ _ _ _ r => r.high
def KE.high : KE → Nat
 | .nil => 0
 | .cons _ v up => max v.high up.high
end
theorem W1 : ∀ (m : Nat) (w : KV) (o : As), w.wf → o.length ≤ m → (w.wr m o).length ≤ m + 6 + 2 * w.high
 | m, .num s, o, hw, h => by
  have := Ny (show Ci s = true from hw)
  simp only [KV.wr]
  rw [if_neg (by omega)]
  simp only [List.length_append]; omega
 | m, .clo _ _ _ _ _ _, o, hw, h => by
  simp only [KV.wr]
  rw [if_neg (by omega)]
  simp only [List.length_append, List.length_cons, List.length_nil]; omega
 | m, .pair a b, o, hw, h => by
  simp only [KV.wr, KV.high]
  rw [if_neg (by omega)]
  have ha : (a.wr m (o ++ [40, 112, 97, 105, 114, 32])).length ≤ m + 6 + 2 * a.high := by
   by_cases h6 : m < o.length + 6
   ·rw [J8 m a _ (by simpa using h6)]
    simp only [List.length_append, List.length_cons, List.length_nil]; omega
   ·exact W1 m a _ hw.1 Ht
  have hb : (b.wr m (a.wr m (o ++ [40, 112, 97, 105, 114, 32]) ++ [32])).length ≤ m + 7 + 2 * max a.high b.high := by
   by_cases h6 : m < (a.wr m (o ++ [40, 112, 97, 105, 114, 32])).length + 1
   ·rw [J8 m b _ (by simpa using h6)]
    simp only [List.length_append, List.length_cons, List.length_nil]; omega
   ·have := W1 m b (a.wr m (o ++ [40, 112, 97, 105, 114, 32]) ++ [32]) hw.2 Ht
    omega
  simp only [List.length_append, List.length_cons, List.length_nil]; omega
theorem U5 : ∀ {k : KE} {n : As} {v : KV}, k.look n = some v → v.high ≤ k.high
 | .nil, n, v, h => by cases h
 | .cons m u up, n, v, h => by
  simp only [KE.look] at h
  simp only [KE.high]
  split at h
  ·obtain rfl := Option.some.inj h; omega
  ·have := U5 h; omega
theorem Acl {o : B5} {u w v : KV} (h : o.act u w = some v) : v.high ≤ 1 + max u.high w.high := by
 cases o with
 | pair => obtain rfl := Option.some.inj h; exact Nat.le_refl _
 | call => cases h
 | _ =>
  cases u with
  | num s =>
   cases w with
   | num q => obtain rfl := Option.some.inj h; exact Nat.zero_le _
   | _ => cases h
  | _ => cases w <;> cases h
theorem Aaz {o : U2} {u v : KV} (h : o.act u = some v) : v.high ≤ u.high := by
 cases u with
 | pair a b => cases o <;> (obtain rfl := Option.some.inj h; simp only [KV.high]; omega)
 | _ => cases o <;> cases h
theorem Aa8 : ∀ (n : Nat) (e : Ex) (k : KE) {w : KV}, (eval n e k).v = some w → w.high + (eval n e k).left ≤ k.high + n := by
 intro n
 induction n using Nat.strongRecOn with
 | _ n ih =>
  intro e k w h
  cases n with
  | zero => rw [Lw] at h; cases h
  | succ n =>
   have hl := fun e k => Co n e k
   cases e with
   | num s => rw [Kn] at h ⊢; obtain rfl := Option.some.inj h; simp only [KV.high]; omega
   | name s => rw [Hv] at h ⊢; have := U5 h; simp only; omega
   | fn f x s t b => rw [Kc] at h ⊢; obtain rfl := Option.some.inj h; simp only [KV.high]; omega
   | bin o a b =>
    have hla := hl a k
    have hlb := Co (eval n a k).left b k
    rw [Ir n] at h ⊢
    cases hp : (eval n a k).v with
    | none => rw [hp] at h; simp only at h; rw [hp] at h; cases h
    | some u =>
     rw [hp] at h
     simp only at h ⊢
     have h1 := ih n Aa a k hp
     cases hq : (eval (eval n a k).left b k).v with
     | none => rw [hq] at h; simp only at h; rw [hq] at h; cases h
     | some v =>
      rw [hq] at h
      simp only at h ⊢
      have h2 := ih _ Aa b k hq
      by_cases hc : ∃ f x s t c r, o = .call ∧ u = .clo f x s t c r
      ·obtain ⟨f, x, s, t, c, r, rfl, rfl⟩ := hc; rw [Hi] at h ⊢
       have h3 := ih _ Aa c _ h
       simp only [KE.high, KV.high] at h3 h1
       omega
      ·rw [Gi hc] at h ⊢
       have := Acl (show o.act u v = some w from h)
       simp only [Res.of]; omega
   | ite a b c =>
    have hla := hl a k
    rw [Hm n] at h ⊢
    cases hp : (eval n a k).v with
    | none => rw [hp] at h; simp only at h; rw [hp] at h; cases h
    | some u =>
     rw [hp] at h
     cases u with
     | num s =>
      simp only at h ⊢
      have := ih _ Aa _ k h
      omega
     | _ => cases h
   | lt x a b =>
    have hla := hl a k
    rw [I4 n] at h ⊢
    cases hp : (eval n a k).v with
    | none => rw [hp] at h; simp only at h; rw [hp] at h; cases h
    | some u =>
     rw [hp] at h
     simp only at h ⊢
     have h1 := ih n Aa a k hp
     have := ih _ Aa b _ h
     simp only [KE.high] at this
     omega
   | un o a =>
    have hla := hl a k
    rw [I5 n] at h ⊢
    cases hp : (eval n a k).v with
    | none => rw [hp] at h; simp only at h; rw [hp] at h; cases h
    | some u =>
     rw [hp] at h
     simp only at h ⊢
     have h1 := ih n Aa a k hp
     have := Aaz (show o.act u = some w from h)
     simp only [Res.of]; omega
mutual
def KV.tall : KV → Nat
 | .num _ => 0
 | .pair a b => max a.tall b.tall
 | .clo _ _ _ _ _ r => r.tall
def KE.tall : KE → Nat
 | .nil => 0
 | .cons _ v up => 1 + max v.tall up.tall
end
def KE.names : KE → List As
 | .nil => []
 | .cons n _ up => up.names ++ [n]
def Pl (e : Ex) (n : Nat) : Option (As × Nat) := match (eval n e .nil).v with
 | some w => if w.show.length ≤ 12000 then some (w.show, n - (eval n e .nil).left) else none
 | none => none
def I1 (s : As) (n : Int) : Option (As × Nat) := if 0 ≤ n ∧ n ≤ 2000 then (Cr s).bind fun e => Pl e n.toNat else none
def Nv (s : As) (n : Int) : Bool := if 0 ≤ n ∧ n ≤ 2000 then (match Cr s with | some e => (eval n.toNat e .nil).stuck | none => false) else false
def Ain (s : As) : Int := match I1 s 2000 with
 | some r => (r.2 : Nat)
 | none => -1
theorem Sp {s : As} {e : Ex} {n : Nat} (h : Cr s = some e) (hn : n ≤ 2000) : I1 s (n : Nat) = Pl e n := by
 unfold I1; rw [if_pos Aa, h]; rfl
theorem Md {s : As} {n : Int} (h : Cr s = none ∨ ¬ (0 ≤ n ∧ n ≤ 2000)) : I1 s n = none := by
 unfold I1
 rcases h with h | h
 ·rw [h]; split <;> rfl
 ·rw [if_neg h]
theorem Pk {s : As} {e : Ex} {n : Nat} (h : Cr s = some e) (hn : n ≤ 2000) : Nv s (n : Nat) = (eval n e .nil).stuck := by
 unfold Nv; rw [if_pos Aa, h]; rfl
theorem Pj {s : As} {n : Int} (h : Cr s = none ∨ ¬ (0 ≤ n ∧ n ≤ 2000)) : Nv s n = false := by
 unfold Nv
 rcases h with h | h
 ·rw [h]; split <;> rfl
 ·rw [if_neg h]
theorem Og {s : As} {e : Ex} (h : Cr s = some e) (n : Nat) : (eval n e .nil).says e := by
 obtain ⟨hx, hok, hz, hl, hcl⟩ := Iz h
 have hc : e.occ [] = [] := by simpa [Ex.closed] using hcl
 have := Is n e .nil trivial hok (fun y hy => by rw [hc] at hy; cases hy)
 exact this
theorem Ac3 {e : Ex} {n : Nat} {r : As × Nat} (h : Pl e n = some r) : ∃ w, (eval n e .nil).v = some w ∧ r = (w.show, n - (eval n e .nil).left) ∧ w.show.length ≤ 12000 := by
 unfold Pl at h
 cases hv : (eval n e .nil).v with
 | none => rw [hv] at h; cases h
 | some w =>
  rw [hv] at h
  simp only at h
  split at h
  ·exact ⟨w, rfl, (Option.some.inj h).symm, by assumption⟩
  ·cases h
theorem Xk {e : Ex} {n : Nat} {w : KV} (h : (eval n e .nil).v = some w) (hl : w.show.length ≤ 12000) : Pl e n = some (w.show, n - (eval n e .nil).left) := by
 unfold Pl; rw [h]; simp only; rw [if_pos hl]
theorem Ae8 {e : Ex} {n : Nat} (h : (eval n e .nil).v = none) : Pl e n = none := by unfold Pl; rw [h]
theorem Xl {s : As} {n : Int} {r : As × Nat} (h : I1 s n = some r) : ∃ (e : Ex) (N : Nat) (w : KV), Cr s = some e ∧ n = (N : Nat) ∧ N ≤ 2000 ∧ (eval N e .nil).v = some w ∧ r = (w.show, N - (eval N e .nil).left) ∧ w.show.length ≤ 12000 ∧ w.wf ∧ Goes e w.ex := by
 unfold I1 at h
 split at h
 ·rename_i hn
  obtain ⟨e, he, hr⟩ := Option.bind_eq_some_iff.1 h; obtain ⟨w, hw, hr2, hl⟩ := Ac3 hr; obtain ⟨h1, h2⟩ := Res.says.some hw (Og he n.toNat)
  exact ⟨e, n.toNat, w, he, by omega, by omega, hw, hr2, hl, h1, h2⟩
 ·cases h
theorem Goes.ty {e d : Ex} (h : Goes e d) {t : Ty} (hok : e.ok = true) (hc : e.occ [] = []) (ht : e.ty [] [] = some t) : d.ty [] [] = some t ∧ d.ok = true ∧ d.occ [] = [] := by
 induction h with
 | refl => exact ⟨ht, hok, hc⟩
 | next hs _ ih => exact ih (Ex.step_ok hok hs) (Ex.step_closed hc hs) (Jk hok hc hs ht)
theorem Ja (b : Nat) (pre : Bool) (xs : As) (B : Kg) (c : Nat) (hB : BOk xs B c) (I : Heap) (L : Bj) :
  Fun Tryz.prog 45 [.pointer (some ⟨b, 0, none⟩)] I (Vr b pre xs B c L) (fun v I' L' => v = .int .i64 (xs.length : Nat) ∧ I = I' ∧ L' = Vr b pre xs B c L) := by
 cases B with
 | none =>
  obtain ⟨⟨h1, h2, h3⟩, _⟩ := hB; obtain rfl : xs = [] := by simpa using h1
  refine Ao Ae ?_; refine Se rfl (Oa rfl (Ab (Ah ?_)))
  simp only [Vr, A2, List.nil_append, Bm]
  refine Al rfl (Om rfl ?_); refine Aw rfl .free rfl ?_
  first | refine Oh rfl ?_ | refine Oj rfl ?_
  refine C1 rfl .free rfl ?_; refine On rfl (Oa rfl (Ab (Am (.tmp rfl .nil) ?_)))
  exact ⟨I, _, .refl _, fun _ h => h, rfl, rfl, rfl⟩
 | some p =>
  obtain ⟨bb, sp⟩ := p; refine Ao Ae ?_; refine Se rfl (Oa rfl (Ab (Ah ?_)))
  simp only [Vr, A2, List.cons_append, List.nil_append, Bm]
  refine Al rfl (Om rfl ?_); refine Aw rfl .free rfl ?_
  first | refine Oh rfl ?_ | refine Oj rfl ?_
  refine C1 rfl .free rfl ?_; refine On rfl (Oa rfl (Ab (Am (.tmp rfl .nil) ?_)))
  exact ⟨I, _, .refl _, fun _ h => h, rfl, rfl, rfl⟩
theorem Aev (w : KV) (o : As) (hw : w.wf) (hh : w.high ≤ 4000) (ho : o.length ≤ 12010) : (w.wr 12000 o).length ≤ 20010 := by
 by_cases h : 12000 < o.length
 ·rw [J8 _ _ _ h]; omega
 ·have := W1 12000 w o hw Aa
  omega
theorem Ld {a b : KV} {o : As} (h : ¬ 12000 < o.length) : (KV.pair a b).wr 12000 o = b.wr 12000 (a.wr 12000 (o ++ [40, 112, 97, 105, 114, 32]) ++ [32]) ++ [41] := by simp only [KV.wr, if_neg h]
theorem Ss : ∀ (N : Nat) {I : Heap} {w : KV} {a : Addr} (_ : SizeOf.sizeOf w < N) (_ : KVat I w a) (_ : w.wf) (_ : w.high ≤ 4000) (b : Nat) (pre : Bool) (xs : As) (B : Kg) (c : Nat) (_ : BOk xs B c) (_ : xs.length ≤ 100000) (L : Bj),
  Fun Tryz.prog 44 [.pointer (some a), .pointer (some ⟨b, 0, none⟩)] I (Vr b pre xs B c L)
  (fun v I' L' => v = .tuple #[] ∧ I = I' ∧ ∃ pre' B' c', BOk (w.wr 12000 xs) B' c' ∧ L' = Vr b pre' (w.wr 12000 xs) B' c' L) := by
 intro N
 induction N with
 | zero => intro I w a h; omega
 | succ N ihn =>
  intro I w a hlt h hwf hhi b pre xs B c hB hx L; refine Ao Ae ?_; refine Aq (Se rfl (Om rfl ?_)); refine Ca rfl (Ja b pre xs B c hB _ _) ?_; rintro _ _ _ _ ⟨rfl, rfl, rfl⟩; refine Oc rfl rfl rfl (Oa rfl (Ab ?_)); refine Si rfl ?_ ?_
  ·intro c0; refine Ak (Ap ?_); refine Ju .nil ?_
   first
   | exact ⟨I, _, .refl _, fun _ h => h, rfl, rfl, pre, B, c, by rw [J8 _ _ _ Aa]; exact hB, by rw [J8 _ _ _ Aa]⟩
   | exact ⟨I, _, .refl _, fun _ h => h, rfl, rfl, true, B1, c1, by simp only [KV.wr, if_neg hxs]; exact hB1, by simp only [KV.wr, if_neg hxs]⟩
   | exact ⟨I, _, .refl _, fun _ h => h, rfl, rfl, true, B5, c6, by rw [Ld hxs]; exact hB5, by rw [Ld hxs]⟩
  intro c0
  have hxs : ¬ 12000 < xs.length := by omega
  refine Ah ?_
  rcases h with @⟨s, a, hs⟩ | @⟨u1, u2, a, q2, p1, p2, c2, hs, hq2, hc2, h1, h2⟩ | @⟨f, x, s, t, bd, r, a, fa, oo, c2, pr, hs, hf, hrp, he⟩
  ·skip
   have hsl := Ny (show Ci s = true from hwf)
   refine Al rfl (Om rfl ?_); refine Aw rfl .free rfl ?_
   first | refine Oh rfl ?_ | refine Oj rfl ?_
   refine Cp rfl (Bi hs Ac rfl) .free rfl ?_; refine Qw rfl rfl .free rfl ?_; refine Oa rfl (Ab ?_)
   first | refine Sf rfl Ae ?_ | refine A0 Ar ?_
   refine Se rfl (Om rfl ?_); refine Aw rfl .free rfl ?_
   first | refine Oh rfl ?_ | refine Oj rfl ?_
   refine Cp rfl (Bi hs Ac rfl) .free rfl ?_; refine N4 rfl rfl .free rfl ?_; refine Oa rfl (Ab ?_)
   first | refine Sf rfl Ae ?_ | refine A0 Ar ?_
   refine Al rfl (Om rfl (Om rfl ?_)); refine Aw rfl .free rfl ?_
   first | refine Oh rfl ?_ | refine Oj rfl ?_
   refine Cp rfl (Bi hs Ac rfl) .free rfl ?_; refine Ca rfl (Dg b pre xs B c s hB C3 _ _) ?_; rintro _ _ _ _ ⟨rfl, rfl, B1, c1, hB1, rfl⟩; refine Ab (Ap ?_); refine Ju .nil ?_
   first
   | exact ⟨I, _, .refl _, fun _ h => h, rfl, rfl, pre, B, c, by rw [J8 _ _ _ Aa]; exact hB, by rw [J8 _ _ _ Aa]⟩
   | exact ⟨I, _, .refl _, fun _ h => h, rfl, rfl, true, B1, c1, by simp only [KV.wr, if_neg hxs]; exact hB1, by simp only [KV.wr, if_neg hxs]⟩
   | exact ⟨I, _, .refl _, fun _ h => h, rfl, rfl, true, B5, c6, by rw [Ld hxs]; exact hB5, by rw [Ld hxs]⟩
  ·skip
   have r0 : Still I (q2.add (0 * 1)) [.pointer (some p1)] := hq2.cellAt 0 rfl
   have r1 : Still I (q2.add (1 * 1)) [.pointer (some p2)] := hq2.cellAt 1 rfl
   simp only [KV.high] at hhi
   simp only [KV.pair.sizeOf_spec] at hlt
   refine Al rfl (Om rfl ?_); refine Aw rfl .free rfl ?_
   first | refine Oh rfl ?_ | refine Oj rfl ?_
   refine Cp rfl (Bi hs Ac rfl) .free rfl ?_; refine Qw rfl rfl .free rfl ?_; refine Oa rfl (Ab ?_)
   first | refine St rfl Ae ?_ | refine B9 Ar ?_
   refine Se rfl (Om rfl ?_); refine Ca rfl (Dg b pre xs B c [40, 112, 97, 105, 114, 32] hB Ns _ _) ?_; rintro _ _ _ _ ⟨rfl, rfl, B1, c1, hB1, rfl⟩; refine Ab (Se rfl (Om rfl ?_)); refine Aw rfl .free rfl ?_
   first | refine Oh rfl ?_ | refine Oj rfl ?_
   refine Cp rfl (Bi hs Ac rfl) .free rfl ?_; refine Ck rfl rfl 0 rfl Bx Dp .free rfl ?_; refine Cp rfl (Be r0 rfl) .free rfl ?_; refine Om rfl ?_; refine Ca rfl (ihn Aa h1 hwf.1 Aa b true _ B1 c1 hB1 Ht _) ?_; rintro _ _ _ _ ⟨rfl, rfl, pr2, B2, c3, hB2, rfl⟩
   have hw1 := Aev u1 (xs ++ [40, 112, 97, 105, 114, 32]) hwf.1 Aa Ht
   refine Ab (Se rfl (Om rfl ?_)); refine Ca rfl (Dg b pr2 _ B2 c3 [32] hB2 Ns _ _) ?_; rintro _ _ _ _ ⟨rfl, rfl, B3, c4, hB3, rfl⟩; refine Ab (Se rfl (Om rfl ?_)); refine Aw rfl .free rfl ?_
   first | refine Oh rfl ?_ | refine Oj rfl ?_
   refine Cp rfl (Bi hs Ac rfl) .free rfl ?_; refine Ck rfl rfl 1 rfl Bx Dp .free rfl ?_; refine Cp rfl (Be r1 rfl) .free rfl ?_; refine Om rfl ?_; refine Ca rfl (ihn Aa h2 hwf.2 Aa b true _ B3 c4 hB3 (by simp only [List.length_append, List.length_cons, List.length_nil] at hw1 ⊢; omega) _) ?_; rintro _ _ _ _ ⟨rfl, rfl, pr4, B4, c5, hB4, rfl⟩
   have hw2 : (u2.wr 12000 (u1.wr 12000 (xs ++ [40, 112, 97, 105, 114, 32]) ++ [32])).length ≤ 30010 := by
    by_cases hq : 12000 < (u1.wr 12000 (xs ++ [40, 112, 97, 105, 114, 32]) ++ [32]).length
    ·rw [J8 _ _ _ hq]; simp only [List.length_append, List.length_cons, List.length_nil] at hw1 ⊢; omega
    ·have := Aev u2 _ hwf.2 Aa (show (u1.wr 12000 (xs ++ [40, 112, 97, 105, 114, 32]) ++ [32]).length ≤ 12010 by omega)
     omega
   refine Ab (Al rfl (Om rfl ?_)); refine Ca rfl (Dg b pr4 _ B4 c5 [41] hB4 Ns _ _) ?_; rintro _ _ _ _ ⟨rfl, rfl, B5, c6, hB5, rfl⟩; refine Ab (Ap ?_); refine Ju .nil ?_
   first
   | exact ⟨I, _, .refl _, fun _ h => h, rfl, rfl, pre, B, c, by rw [J8 _ _ _ Aa]; exact hB, by rw [J8 _ _ _ Aa]⟩
   | exact ⟨I, _, .refl _, fun _ h => h, rfl, rfl, true, B1, c1, by simp only [KV.wr, if_neg hxs]; exact hB1, by simp only [KV.wr, if_neg hxs]⟩
   | exact ⟨I, _, .refl _, fun _ h => h, rfl, rfl, true, B5, c6, by rw [Ld hxs]; exact hB5, by rw [Ld hxs]⟩
  ·skip
   refine Al rfl (Om rfl ?_); refine Aw rfl .free rfl ?_
   first | refine Oh rfl ?_ | refine Oj rfl ?_
   refine Cp rfl (Bi hs Ac rfl) .free rfl ?_; refine Qw rfl rfl .free rfl ?_; refine Oa rfl (Ab ?_)
   first | refine Sf rfl Ae ?_ | refine A0 Ar ?_
   refine Se rfl (Om rfl ?_); refine Aw rfl .free rfl ?_
   first | refine Oh rfl ?_ | refine Oj rfl ?_
   refine Cp rfl (Bi hs Ac rfl) .free rfl ?_; refine N4 rfl rfl .free rfl ?_; refine Oa rfl (Ab ?_)
   first | refine St rfl Ae ?_ | refine B9 Ar ?_
   refine Al rfl (Om rfl ?_); refine Ca rfl (Dg b pre xs B c [102, 117, 110] hB Ns _ _) ?_; rintro _ _ _ _ ⟨rfl, rfl, B1, c1, hB1, rfl⟩; refine Ab (Ap ?_); refine Ju .nil ?_
   first
   | exact ⟨I, _, .refl _, fun _ h => h, rfl, rfl, pre, B, c, by rw [J8 _ _ _ Aa]; exact hB, by rw [J8 _ _ _ Aa]⟩
   | exact ⟨I, _, .refl _, fun _ h => h, rfl, rfl, true, B1, c1, by simp only [KV.wr, if_neg hxs]; exact hB1, by simp only [KV.wr, if_neg hxs]⟩
   | exact ⟨I, _, .refl _, fun _ h => h, rfl, rfl, true, B5, c6, by rw [Ld hxs]; exact hB5, by rw [Ld hxs]⟩
theorem Ac4 (s : As) (hs : s.length ≤ Bg) (n : Int) {I : Heap} (ht : Tab I) (L : Bj) : Fun Tryz.prog 13 [.string (str s), .int .i64 n] I L (MN (I1 s n) L) := by
 refine Ao Ae ?_; refine Se rfl ?_
 iterate 3 refine Oa rfl ?_
 refine Ab (Se rfl (Om rfl ?_)); refine Ca rfl (Mf s hs _ _) ?_; rintro _ J _ hleJ ⟨t, cs, ok, rfl, hrep, rfl, hpf⟩; obtain ⟨oc, cc, _, rfl, -⟩ := hrep.open; refine Om rfl (Oe rfl rfl (Oe rfl rfl ?_)); refine A1 .free rfl ?_; intro b7; refine By rfl rfl rfl rfl .free ?_; refine Oa rfl (Ab (Ah (Ah ?_)))
 rcases hc : Cr s with _ | e
 ·skip
  rw [hc] at hpf; obtain rfl := hpf; refine Al rfl (Om rfl ?_); refine Ei rfl .free rfl ?_; refine Om rfl ?_; refine Gl (t := 19) rfl (v' := .bool true) (by first | rfl | simp [*]) ?_
  iterate 3 refine Cy rfl rfl rfl ?_
  refine Ot rfl rfl (Ab ?_); refine B9 rfl ?_; refine Se rfl ?_
  iterate 3 refine Oa rfl ?_
  refine Ab ?_; refine Am (.tmp rfl (.tmp rfl (.tmp rfl .nil))) ?_
  exact ⟨J, L, hleJ, Cl, by rw [Md (.inl hc)]; rfl, rfl⟩
 ·skip
  rw [hc] at hpf; obtain ⟨rfl, rfl⟩ := hpf; obtain ⟨hx, hok, hz, hl, hcl⟩ := Iz hc
  have hoe : e.occ [] = [] := by simpa [Ex.closed] using hcl
  refine Al rfl (Om rfl ?_); refine Ei rfl .free rfl ?_; refine Om rfl ?_; refine Gl (t := 19) rfl (v' := .bool false) (by first | rfl | simp [*]) ?_; refine Ow rfl ?_; refine Cx rfl (.met rfl rfl) rfl (Po 0 n 2000 _ _) ?_; rintro _ _ _ _ ⟨rfl, rfl, rfl⟩; refine Ei rfl (.met rfl rfl) rfl ?_; refine Of rfl rfl (Ab ?_); refine A6 rfl ?_ ?_
  ·intro c0
   try simp only [nb] at c0
   refine Se rfl ?_
   iterate 3 refine Oa rfl ?_
   refine Ab ?_; refine Am (.tmp rfl (.tmp rfl (.tmp rfl .nil))) ?_
   exact ⟨J, L, hleJ, Cl, by rw [Md (.inr Fv)]; rfl, rfl⟩
  intro c0
  try simp only [nb] at c0
  obtain ⟨N, rfl⟩ : ∃ N : Nat, n = (N : Nat) := ⟨n.toNat, by omega⟩
  have hN : N ≤ 2000 := by omega
  have hme := Sp hc hN
  have hhi := fun w (h : (eval N e .nil).v = some w) => Aa8 N e .nil h
  have hle := Co N e .nil
  refine Ak (Se rfl (Om rfl ?_)); refine Cd rfl rfl rfl .free rfl ?_; refine Cm rfl rfl .free rfl ?_; intro b26; refine Oa rfl (Ab (Se rfl (Om rfl ?_))); refine Az rfl .free rfl ?_; refine Ca rfl (K5 (ht.mono hleJ) N Aa hrep hok .nil trivial (fun y hy => by rw [hoe] at hy; cases hy) b26 _) ?_; rintro _ J2 _ e2 ⟨p, rfl, hp, rfl⟩
  unfold T5
  have hle2 := hleJ.trans e2
  refine Oa rfl (Ab (Ah (Se rfl (Om rfl ?_)))); refine Hz rfl rfl .free rfl ?_; refine Ab ?_; refine A6 rfl ?_ ?_
  ·intro c1
   try simp only [nb] at c1
   obtain ⟨hv, rfl⟩ := K7 hp c1; refine Se rfl ?_
   iterate 3 refine Oa rfl ?_
   refine Ab ?_; refine Am (.tmp rfl (.tmp rfl (.tmp rfl .nil))) ?_
   exact ⟨J2, L, hle2, Cl, by rw [hme, Ae8 hv]; rfl, rfl⟩
  intro c1
  try simp only [nb] at c1
  obtain ⟨w, x, hv, rfl, hw⟩ := K8 hp (by simpa using c1); obtain ⟨hwf, -⟩ := Res.says.some hv (Og hc N)
  have hhi := hhi w hv
  simp only [KE.high] at hhi
  refine Ak (Se rfl ?_); refine A1 .free rfl ?_; intro b11; refine Ab (Se rfl (Om rfl ?_)); refine Ca rfl (Ss _ (Nat.lt_succ_self _) hw hwf Aa b11 false [] none 0 ⟨⟨rfl, rfl, rfl⟩, .inl rfl⟩ Ae _) ?_; rintro _ _ _ _ ⟨rfl, rfl, pre1, B1, k1, hB1, rfl⟩; refine Ab (Ah (Se rfl ?_)); refine Ca rfl (Ja b11 pre1 _ B1 k1 hB1 _ _) ?_; rintro _ _ _ _ ⟨rfl, rfl, rfl⟩; refine Oc rfl rfl rfl (Ab ?_); refine A6 rfl ?_ ?_
  ·intro c2
   try simp only [nb] at c2
   refine Se rfl ?_
   iterate 3 refine Oa rfl ?_
   refine Ab ?_; refine Am (.tmp rfl (.tmp rfl (.tmp rfl .nil))) ?_
   exact ⟨J2, L, hle2, (fun w h => (Mem.sub (List.sublist_append_right _ _) h.drop).drop.drop), by
    have hno : ¬ w.show.length ≤ 12000 := fun h => by
     rw [Q8 12000 w [] (by simpa using h)] at c2
     simp at c2; omega
    rw [hme]; unfold Pl; rw [hv]; simp only; rw [if_neg hno]; rfl, rfl⟩
  intro c2
  try simp only [nb] at c2
  have hsl : w.show.length ≤ 12000 := by
   rcases Nat.lt_or_ge 12000 w.show.length with h | h
   ·have := W0 12000 w [] (by simpa using h)
    omega
   ·exact h
  have hwr : w.wr 12000 [] = w.show := by rw [Q8 12000 w [] (by simpa using hsl)]; rfl
  rw [hwr] at hB1 ⊢; refine Ak (Ah ?_)
  unfold Vr
  refine Kk J2 ((b26, .cells [.int .i64 ((eval N e .nil).left : Nat), .bool (eval N e .nil).stuck].toArray 55 (0, 0)) :: (b7, .cells [.string (str e.tree.atom), .slice oc e.tree.parts.length cc].toArray 49 (0, 0)) :: L) 10 rfl rfl ?_; refine Da 1 rfl (Ai rfl) ?_; refine Da 2 rfl (Ai rfl) ?_; refine Da 3 rfl (Cb rfl) ?_
  first | refine Da 4 rfl (Aj rfl) ?_ | refine Da 4 rfl (A4 rfl) ?_
  refine Dt 5 [10] rfl (P8 rfl) ?_; refine Da 6 rfl (H2 rfl rfl rfl Aa) ?_; refine Dc 0 rfl rfl (H5 b11 pre1 _ B1 k1 hB1 C3 _ _) ?_; rintro _ _ _ _ ⟨rfl, rfl, rfl⟩; refine Hx ?_; refine Da 7 rfl (Bk rfl) ?_; refine Da 8 rfl (Bk rfl) ?_; refine Da 9 rfl (Bk rfl) ?_; refine A5 Af ?_; refine Am (.tmp rfl (.tmp rfl (.tmp rfl .nil))) ?_
  exact ⟨J2, L, hle2, Cl, by rw [hme, Xk hv hsl]; simp only [Option.map_some, Option.getD_some, Option.isSome_some]; rw [show ((N - (eval N e .nil).left : Nat) : Int) = (N : Int) - ((eval N e .nil).left : Nat) by omega]; rfl, rfl⟩
theorem Xo (s : As) (hs : s.length ≤ Bg) (n : Int) {I : Heap} (ht : Tab I) (L : Bj) : Fun Tryz.prog 28 [.string (str s), .int .i64 n] I L (fun v I' L' => v = .bool (Nv s n) ∧ L = L') := by
 refine Ao Ae ?_; refine Se rfl (Oa rfl (Ab (Se rfl (Om rfl ?_)))); refine Ca rfl (Mf s hs _ _) ?_; rintro _ J _ hleJ ⟨t, cs, ok, rfl, hrep, rfl, hpf⟩; obtain ⟨oc, cc, _, rfl, -⟩ := hrep.open; refine Om rfl (Oe rfl rfl (Oe rfl rfl ?_)); refine A1 .free rfl ?_; intro b5; refine By rfl rfl rfl rfl .free ?_; refine Oa rfl (Ab (Ah (Ah ?_)))
 rcases hc : Cr s with _ | e
 ·skip
  rw [hc] at hpf; obtain rfl := hpf; refine Al rfl (Om rfl ?_); refine Ei rfl .free rfl ?_; refine Om rfl ?_; refine Gl (t := 15) rfl (v' := .bool true) (by first | rfl | simp [*]) ?_
  iterate 3 refine Cy rfl rfl rfl ?_
  refine Ot rfl rfl (Ab ?_); refine B9 rfl ?_; refine Se rfl (Oa rfl (Ab (Am (.tmp rfl .nil) ?_)))
  exact ⟨J, L, hleJ, Cl, by rw [Pj (.inl hc)]; rfl, rfl⟩
 ·skip
  rw [hc] at hpf; obtain ⟨rfl, rfl⟩ := hpf; obtain ⟨hx, hok, hz, hl, hcl⟩ := Iz hc
  have hoe : e.occ [] = [] := by simpa [Ex.closed] using hcl
  refine Al rfl (Om rfl ?_); refine Ei rfl .free rfl ?_; refine Om rfl ?_; refine Gl (t := 15) rfl (v' := .bool false) (by first | rfl | simp [*]) ?_; refine Ow rfl ?_; refine Cx rfl (.met rfl rfl) rfl (Po 0 n 2000 _ _) ?_; rintro _ _ _ _ ⟨rfl, rfl, rfl⟩; refine Ei rfl (.met rfl rfl) rfl ?_; refine Of rfl rfl (Ab ?_); refine A6 rfl ?_ ?_
  ·intro c0
   try simp only [nb] at c0
   refine Se rfl (Oa rfl (Ab (Am (.tmp rfl .nil) ?_)))
   exact ⟨J, L, hleJ, Cl, by rw [Pj (.inr Fv)]; rfl, rfl⟩
  intro c0
  try simp only [nb] at c0
  obtain ⟨N, rfl⟩ : ∃ N : Nat, n = (N : Nat) := ⟨n.toNat, by omega⟩
  have hN : N ≤ 2000 := by omega
  have hme := Pk hc hN
  refine Ak (Se rfl (Om rfl ?_)); refine Cd rfl rfl rfl .free rfl ?_; refine Cm rfl rfl .free rfl ?_; intro b22; refine Oa rfl (Ab (Se rfl (Om rfl ?_))); refine Az rfl .free rfl ?_; refine Ca rfl (K5 (ht.mono hleJ) N Aa hrep hok .nil trivial (fun y hy => by rw [hoe] at hy; cases hy) b22 _) ?_; rintro _ J2 _ e2 ⟨p, rfl, hp, rfl⟩
  unfold T5
  have hle2 := hleJ.trans e2
  refine Ab (Se rfl (Om rfl ?_)); refine Aw rfl .free rfl ?_
  first | refine Oh rfl ?_ | refine Oj rfl ?_
  refine L8 rfl .free rfl ?_; refine Oa rfl (Ab (Am (.tmp rfl .nil) ?_))
  exact ⟨J2, L, hle2, Cl, by rw [hme]; rfl, rfl⟩
def Ex.one : Ex → Nat
 | .lt _ _ _ => 1
 | _ => 0
def Ex.nl : Ex → Nat
 | .num _ => 0
 | .name _ => 0
 | .bin _ a b => a.nl + b.nl
 | .ite a b c => a.nl + b.nl + c.nl
 | .lt _ a b => 1 + a.nl + b.nl
 | .fn _ _ _ _ b => b.nl
 | .un _ a => a.nl
mutual
def Tree.nl : Tree → Nat
 | .node _ ps => (if (match ps with | [] => [] | p :: _ => p.atom) = Dz then 1 else 0) + nlL ps
def nlL : List Tree → Nat
 | [] => 0
 | t :: ts => t.nl + nlL ts
end
mutual
theorem Tree.nl_len : ∀ t : Tree, t.nl ≤ t.len
 | .node a [] => by simp [Tree.nl, nlL, Dz]
 | .node a (p :: ps) => by
  have h1 := Aap (p :: ps)
  simp only [Tree.nl, Tree.len, List.isEmpty_cons, cond_false]
  split <;> omega
theorem Aap : ∀ ts : List Tree, nlL ts ≤ Gs ts
 | [] => Nat.le_refl _
 | t :: ts => by have h1 := t.nl_len; have h2 := Aap ts; simp only [nlL, Gs]; omega
end
def Ex.path : Ex → List As
 | .lt x _ b => x :: b.path
 | _ => []
def Ex.last : Ex → Ex
 | .lt _ _ b => b.last
 | e => e
def Ah9 (s : As) : Int := match Td true s with
 | some e => (e.nl : Nat)
 | none => -1
def Aib (s : As) : Option (List As × As) := (Td true s).map fun e => (e.path, e.last.tree.text)
def Aim (s : As) : Bool := Ci s || B0 s
def z9 : As := [122, 57]
def pii : As := [40, 42, 32, 105, 32, 105, 41]
inductive Eqv : Ex → Ex → Prop
 | refl (e : Ex) : Eqv e e
 | trans {a b c : Ex} (h : Eqv a b) (h' : Eqv b c) : Eqv a c
 | bin1 {o : B5} {a a' b : Ex} (h : Eqv a a') : Eqv (.bin o a b) (.bin o a' b)
 | bin2 {o : B5} {a b b' : Ex} (h : Eqv b b') : Eqv (.bin o a b) (.bin o a b')
 | ite1 {a a' b c : Ex} (h : Eqv a a') : Eqv (.ite a b c) (.ite a' b c)
 | ite2 {a b b' c : Ex} (h : Eqv b b') : Eqv (.ite a b c) (.ite a b' c)
 | ite3 {a b c c' : Ex} (h : Eqv c c') : Eqv (.ite a b c) (.ite a b c')
 | lt1 {x : As} {a a' b : Ex} (h : Eqv a a') : Eqv (.lt x a b) (.lt x a' b)
 | lt2 {x : As} {a b b' : Ex} (h : Eqv b b') : Eqv (.lt x a b) (.lt x a b')
 | fn1 {f x : As} {s t : Ty} {b b' : Ex} (h : Eqv b b') : Eqv (.fn f x s t b) (.fn f x s t b')
 | un1 {o : U2} {a a' : Ex} (h : Eqv a a') : Eqv (.un o a) (.un o a')
 | nm1 {o : B5} {a b : Ex} {y : As} (h : y ∉ b.occ []) : Eqv (.bin o a b) (.lt y a (.bin o (.name y) b))
 | nm2 {o : B5} {a b : Ex} {y : As} (hb : a.bare = true) (h : y ∉ a.occ []) : Eqv (.bin o a b) (.lt y b (.bin o a (.name y)))
 | nmi {a b c : Ex} {y : As} (h : y ∉ b.occ []) (h' : y ∉ c.occ []) : Eqv (.ite a b c) (.lt y a (.ite (.name y) b c))
 | nmu {o : U2} {a : Ex} {y : As} : Eqv (.un o a) (.lt y a (.un o (.name y)))
 | fl1 {o : B5} {x : As} {a b c : Ex} (h : x ∉ c.occ []) : Eqv (.bin o (.lt x a b) c) (.lt x a (.bin o b c))
 | fl2 {o : B5} {x : As} {a b c : Ex} (hb : a.bare = true) (h : x ∉ a.occ []) : Eqv (.bin o a (.lt x b c)) (.lt x b (.bin o a c))
 | fli {x : As} {a b c d : Ex} (h : x ∉ c.occ []) (h' : x ∉ d.occ []) : Eqv (.ite (.lt x a b) c d) (.lt x a (.ite b c d))
 | flu {o : U2} {x : As} {a b : Ex} : Eqv (.un o (.lt x a b)) (.lt x a (.un o b))
 | fll {x y : As} {a b c : Ex} (h : x ∉ c.occ []) : Eqv (.lt y (.lt x a b) c) (.lt x a (.lt y b c))
theorem Aed {e : Ex} {bd : List As} {x : As} : x ∈ e.occ bd ↔ x ∈ e.occ [] ∧ x ∉ bd := Ex.occ_mem
theorem Dw {o : B5} {a b : Ex} {x : As} : x ∈ (Ex.bin o a b).occ [] ↔ x ∈ a.occ [] ∨ x ∈ b.occ [] := List.mem_append
theorem Dy {a b c : Ex} {x : As} : x ∈ (Ex.ite a b c).occ [] ↔ x ∈ a.occ [] ∨ x ∈ b.occ [] ∨ x ∈ c.occ [] := by
 simp only [Ex.occ, List.mem_append, or_assoc]
theorem Dj {y : As} {a b : Ex} {x : As} : x ∈ (Ex.lt y a b).occ [] ↔ x ∈ a.occ [] ∨ (x ∈ b.occ [] ∧ x ≠ y) := by
 show x ∈ a.occ [] ++ b.occ ([] ++ [y]) ↔ _
 rw [List.mem_append, Aed (e := b)]; simp
theorem Qx {f y : As} {s t : Ty} {b : Ex} {x : As} : x ∈ (Ex.fn f y s t b).occ [] ↔ x ∈ b.occ [] ∧ x ≠ f ∧ x ≠ y := by
 show x ∈ b.occ ([] ++ [f, y]) ↔ _
 rw [Aed]; simp
theorem Qy {o : U2} {a : Ex} {x : As} : x ∈ (Ex.un o a).occ [] ↔ x ∈ a.occ [] := Iff.rfl
theorem occ_name {s x : As} : x ∈ (Ex.name s).occ [] ↔ x = s := by simp [Ex.occ]
theorem Eqv.occ {e e' : Ex} (h : Eqv e e') : ∀ x, x ∈ e.occ [] ↔ x ∈ e'.occ [] := by
 induction h with
 | refl e => exact fun x => Iff.rfl
 | trans _ _ h1 h2 => exact fun x => (h1 x).trans (h2 x)
 | bin1 _ ih => intro x; rw [Dw, Dw, ih x]
 | bin2 _ ih => intro x; rw [Dw, Dw, ih x]
 | ite1 _ ih => intro x; rw [Dy, Dy, ih x]
 | ite2 _ ih => intro x; rw [Dy, Dy, ih x]
 | ite3 _ ih => intro x; rw [Dy, Dy, ih x]
 | lt1 _ ih => intro x; rw [Dj, Dj, ih x]
 | lt2 _ ih => intro x; rw [Dj, Dj, ih x]
 | fn1 _ ih => intro x; rw [Qx, Qx, ih x]
 | un1 _ ih => intro x; rw [Qy, Qy, ih x]
 | @nm1 o a b y h =>
  intro x; rw [Dw, Dj, Dw, occ_name]
  constructor
  ·rintro (h1 | h1)
   ·exact .inl h1
   ·exact .inr ⟨.inr h1, fun e => h (e ▸ h1)⟩
  ·rintro (h1 | ⟨h1 | h1, h2⟩)
   ·exact .inl h1
   ·exact absurd h1 h2
   ·exact .inr h1
 | @nm2 o a b y hb h =>
  intro x; rw [Dw, Dj, Dw, occ_name]
  constructor
  ·rintro (h1 | h1)
   ·exact .inr ⟨.inl h1, fun e => h (e ▸ h1)⟩
   ·exact .inl h1
  ·rintro (h1 | ⟨h1 | h1, h2⟩)
   ·exact .inr h1
   ·exact .inl h1
   ·exact absurd h1 h2
 | @nmi a b c y h h' =>
  intro x; rw [Dy, Dj, Dy, occ_name]
  constructor
  ·rintro (h1 | h1 | h1)
   ·exact .inl h1
   ·exact .inr ⟨.inr (.inl h1), fun e => h (e ▸ h1)⟩
   ·exact .inr ⟨.inr (.inr h1), fun e => h' (e ▸ h1)⟩
  ·rintro (h1 | ⟨h1 | h1 | h1, h2⟩)
   ·exact .inl h1
   ·exact absurd h1 h2
   ·exact .inr (.inl h1)
   ·exact .inr (.inr h1)
 | @nmu o a y =>
  intro x; rw [Qy, Dj, Qy, occ_name]
  constructor
  ·exact .inl
  ·rintro (h1 | ⟨h1, h2⟩)
   ·exact h1
   ·exact absurd h1 h2
 | @fl1 o y a b c h =>
  intro x; rw [Dw, Dj, Dj, Dw]
  constructor
  ·rintro ((h1 | h1) | h1)
   ·exact .inl h1
   ·exact .inr ⟨.inl h1.1, h1.2⟩
   ·exact .inr ⟨.inr h1, fun e => h (e ▸ h1)⟩
  ·rintro (h1 | ⟨h1 | h1, h2⟩)
   ·exact .inl (.inl h1)
   ·exact .inl (.inr ⟨h1, h2⟩)
   ·exact .inr h1
 | @fl2 o y a b c hb h =>
  intro x; rw [Dw, Dj, Dj, Dw]
  constructor
  ·rintro (h1 | h1 | h1)
   ·exact .inr ⟨.inl h1, fun e => h (e ▸ h1)⟩
   ·exact .inl h1
   ·exact .inr ⟨.inr h1.1, h1.2⟩
  ·rintro (h1 | ⟨h1 | h1, h2⟩)
   ·exact .inr (.inl h1)
   ·exact .inl h1
   ·exact .inr (.inr ⟨h1, h2⟩)
 | @fli y a b c d h h' =>
  intro x; rw [Dy, Dj, Dj, Dy]
  constructor
  ·rintro ((h1 | h1) | h1 | h1)
   ·exact .inl h1
   ·exact .inr ⟨.inl h1.1, h1.2⟩
   ·exact .inr ⟨.inr (.inl h1), fun e => h (e ▸ h1)⟩
   ·exact .inr ⟨.inr (.inr h1), fun e => h' (e ▸ h1)⟩
  ·rintro (h1 | ⟨h1 | h1 | h1, h2⟩)
   ·exact .inl (.inl h1)
   ·exact .inl (.inr ⟨h1, h2⟩)
   ·exact .inr (.inl h1)
   ·exact .inr (.inr h1)
 | @flu o y a b =>
  intro x; rw [Qy, Dj, Dj, Qy]
 | @fll x' y a b c h =>
  intro x; rw [Dj, Dj, Dj, Dj]
  constructor
  ·rintro ((h1 | h1) | h1)
   ·exact .inl h1
   ·exact .inr ⟨.inl h1.1, h1.2⟩
   ·exact .inr ⟨.inr h1, fun e => h (e ▸ h1.1)⟩
  ·rintro (h1 | ⟨h1 | h1, h2⟩)
   ·exact .inl (.inl h1)
   ·exact .inl (.inr ⟨h1, h2⟩)
   ·exact .inr h1
theorem Aav {e : Ex} {l l' : List As} {m m' : List Ty} (h1 : l.length = m.length) (h2 : l'.length = m'.length) (h : ∀ x ∈ e.occ [], Ge l m x = Ge l' m' x) : e.ty l m = e.ty l' m' := by
 unfold Ex.ty; rw [Ex.chk_congr h1 h2 h]
theorem Lc {e : Ex} {l : List As} {m : List Ty} (hl : l.length = m.length) {y : As} (h : y ∉ e.occ []) (s : Ty) : e.ty (l ++ [y]) (m ++ [s]) = e.ty l m :=
 Aav (by simp [hl]) hl fun x hx => by rw [Gb hl, if_neg (fun e : y = x => h (e ▸ hx))]
theorem Wx {l : List As} {m : List Ty} (hl : l.length = m.length) (y : As) (s : Ty) : (Ex.name y).ty (l ++ [y]) (m ++ [s]) = some s := by
 rw [ty_name, Gb hl, if_pos rfl]
theorem Aa2 {α β γ : Type} (a : Option α) (b : Option β) (f : α → β → Option γ) : (a.bind fun x => b.bind fun y => f x y) = b.bind fun y => a.bind fun x => f x y := by
 cases a <;> cases b <;> rfl
theorem F8 {α β : Type} {a : Option α} {f g : α → Option β} (h : ∀ x, f x = g x) : a.bind f = a.bind g := by rw [show f = g from funext h]
theorem Eqv.ty {e e' : Ex} (h : Eqv e e') : ∀ {l : List As} {m : List Ty}, l.length = m.length → e.ty l m = e'.ty l m := by
 induction h with
 | refl e => exact fun _ => rfl
 | trans _ _ h1 h2 => exact fun hl => (h1 hl).trans (h2 hl)
 | bin1 _ ih => intro l m hl; rw [ty_bin, ty_bin, ih hl]
 | bin2 _ ih => intro l m hl; rw [ty_bin, ty_bin, ih hl]
 | ite1 _ ih => intro l m hl; rw [ty_ite, ty_ite, ih hl]
 | ite2 _ ih => intro l m hl; rw [ty_ite, ty_ite, ih hl]
 | ite3 _ ih => intro l m hl; rw [ty_ite, ty_ite, ih hl]
 | lt1 _ ih => intro l m hl; rw [ty_lt, ty_lt, ih hl]
 | lt2 _ ih => intro l m hl; rw [ty_lt, ty_lt]; exact F8 fun s => ih (by simp [hl])
 | fn1 _ ih => intro l m hl; rw [ty_fn, ty_fn, ih (by simp [hl])]
 | un1 _ ih => intro l m hl; rw [ty_un, ty_un, ih hl]
 | @nm1 o a b y h =>
  intro l m hl; rw [ty_bin, ty_lt]; refine F8 fun s => ?_
  rw [ty_bin, Wx hl, Lc hl h]; rfl
 | @nm2 o a b y hb h =>
  intro l m hl; rw [ty_bin, ty_lt, Aa2]; refine F8 fun s => ?_
  rw [ty_bin, Wx hl, Lc hl h]; rfl
 | @nmi a b c y h h' =>
  intro l m hl; rw [ty_ite, ty_lt]; refine F8 fun s => ?_
  rw [ty_ite, Wx hl, Lc hl h, Lc hl h']; rfl
 | @nmu o a y =>
  intro l m hl; rw [ty_un, ty_lt]; refine F8 fun s => ?_
  rw [ty_un, Wx hl]; rfl
 | @fl1 o y a b c h =>
  intro l m hl; rw [ty_bin, ty_lt, ty_lt, Option.bind_assoc]; refine F8 fun s => ?_
  rw [ty_bin, Lc hl h]
 | @fl2 o y a b c hb h =>
  intro l m hl; rw [ty_bin, ty_lt, ty_lt]; rw [show ((b.ty l m).bind fun s => (Ex.bin o a c).ty (l ++ [y]) (m ++ [s])) = (b.ty l m).bind fun s => (a.ty l m).bind fun u => (c.ty (l ++ [y]) (m ++ [s])).bind fun v => o.ty u v from F8 fun s => by rw [ty_bin, Lc hl h]]
  cases b.ty l m with
  | none => cases a.ty l m <;> rfl
  | some s => rfl
 | @fli y a b c d h h' =>
  intro l m hl; rw [ty_ite, ty_lt, ty_lt, Option.bind_assoc]; refine F8 fun s => ?_
  rw [ty_ite, Lc hl h, Lc hl h']
 | @flu o y a b =>
  intro l m hl; rw [ty_un, ty_lt, ty_lt, Option.bind_assoc]; refine F8 fun s => ?_
  rw [ty_un]
 | @fll x y a b c h =>
  intro l m hl; rw [ty_lt, ty_lt, ty_lt, Option.bind_assoc]; refine F8 fun s => ?_
  rw [ty_lt]; refine F8 fun u => ?_
  refine Aav (by simp [hl]) (by simp [hl]) fun z hz => ?_
  rw [Gb hl, Gb (by simp [hl]), Gb hl]
  by_cases e : y = z
  ·rw [if_pos e, if_pos e]
  ·rw [if_neg e, if_neg e, if_neg (fun e' : x = z => h (e' ▸ hz))]
end Go.Proofs.YtmfagaajiakgoaaGreatDoor

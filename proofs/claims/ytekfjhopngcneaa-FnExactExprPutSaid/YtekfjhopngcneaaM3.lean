
/- Names, puts and types of expressions. No conditions. -/
import Derived.Test.YtekfjhopngcneaaM2
namespace Go.Proofs.Ytekfjhopngcneaa
set_option maxRecDepth 100000
set_option linter.unusedVariables false
set_option linter.unusedSimpArgs false

/-- The free names of an expression, each place where one stands, in order. -/
def Ex.occ : Ex → List Txt → List Txt
  | .num _, _ => []
  | .name s, bd => if s ∈ bd then [] else [s]
  | .bin _ a b, bd => a.occ bd ++ b.occ bd
  | .ite a b c, bd => a.occ bd ++ b.occ bd ++ c.occ bd
  | .lt x a b, bd => a.occ bd ++ b.occ (bd ++ [x])
  | .fn f x _ _ b, bd => b.occ (bd ++ [f, x])
  | .un _ a, bd => a.occ bd
/-- Texts added to a list, each once. -/
def addOnce (l : List Txt) (s : Txt) : List Txt := if s ∈ l then l else l ++ [s]
def addAll (l m : List Txt) : List Txt := m.foldl addOnce l
def Ex.free (e : Ex) : List Txt := addAll [] (e.occ [])
def Ex.closed (e : Ex) : Bool := (e.occ []).isEmpty
/-- How often a name stands free. -/
def Ex.count (n : Txt) : Ex → Nat
  | .num _ => 0
  | .name s => if s = n then 1 else 0
  | .bin _ a b => a.count n + b.count n
  | .ite a b c => a.count n + b.count n + c.count n
  | .lt x a b => a.count n + (if x = n then 0 else b.count n)
  | .fn f x _ _ b => if f = n ∨ x = n then 0 else b.count n
  | .un _ a => a.count n
/-- An expression put for the free places of a name. -/
def Ex.put : Ex → Txt → Ex → Ex
  | .num s, _, _ => .num s
  | .name s, n, v => if s = n then v else .name s
  | .bin o a b, n, v => .bin o (a.put n v) (b.put n v)
  | .ite a b c, n, v => .ite (a.put n v) (b.put n v) (c.put n v)
  | .lt x a b, n, v => .lt x (a.put n v) (if x = n then b else b.put n v)
  | .fn f x s t b, n, v => .fn f x s t (if f = n ∨ x = n then b else b.put n v)
  | .un o a, n, v => .un o (a.put n v)

theorem addAll_append (l m k : List Txt) : addAll l (m ++ k) = addAll (addAll l m) k := by simp [addAll]
theorem addOnce_mem {l : List Txt} {s x : Txt} : x ∈ addOnce l s ↔ x ∈ l ∨ x = s := by
  unfold addOnce; split
  · constructor
    · exact .inl
    · rintro (h | rfl) <;> assumption
  · simp
theorem addAll_mem {x : Txt} : ∀ {m l : List Txt}, x ∈ addAll l m ↔ x ∈ l ∨ x ∈ m := by
  intro m
  induction m with
  | nil => intro l; simp [addAll]
  | cons s m ih => intro l; rw [show addAll l (s :: m) = addAll (addOnce l s) m from rfl, ih, addOnce_mem]; simp [or_assoc]
theorem addOnce_nodup {l : List Txt} {s : Txt} (h : l.Nodup) : (addOnce l s).Nodup := by
  unfold addOnce; split
  · exact h
  · rw [List.nodup_append]; refine ⟨h, by simp, ?_⟩; intro a ha b hb; simp at hb; subst hb; intro e; subst e; contradiction
theorem addAll_nodup : ∀ {m l : List Txt}, l.Nodup → (addAll l m).Nodup := by
  intro m
  induction m with
  | nil => intro l h; exact h
  | cons s m ih => intro l h; exact ih (addOnce_nodup h)
theorem Ex.free_mem {e : Ex} {x : Txt} : x ∈ e.free ↔ x ∈ e.occ [] := by simp [Ex.free, addAll_mem]
theorem Ex.free_nodup (e : Ex) : e.free.Nodup := addAll_nodup (by simp)
theorem addAll_nil {m : List Txt} : addAll [] m = [] ↔ m = [] := by
  constructor
  · intro h
    cases m with
    | nil => rfl
    | cons s m =>
      have : s ∈ addAll [] (s :: m) := addAll_mem.2 (.inr (.head _))
      rw [h] at this; cases this
  · rintro rfl; rfl
theorem Ex.closed_free (e : Ex) : e.closed = decide (e.free = []) := by
  rw [Bool.eq_iff_iff]; simp [Ex.closed, Ex.free, addAll_nil]
/-- What is bound around does not stand free. -/
theorem Ex.occ_filter : ∀ (e : Ex) (bd : List Txt), e.occ bd = (e.occ []).filter (fun s => decide (s ∉ bd))
  | .num _, bd => rfl
  | .name s, bd => by by_cases h : s ∈ bd <;> simp [Ex.occ, List.filter_cons, h]
  | .bin _ a b, bd => by simp [Ex.occ, a.occ_filter bd, b.occ_filter bd]
  | .ite a b c, bd => by simp [Ex.occ, a.occ_filter bd, b.occ_filter bd, c.occ_filter bd]
  | .lt x a b, bd => by
    simp only [Ex.occ, List.nil_append, List.filter_append]
    rw [a.occ_filter bd, b.occ_filter (bd ++ [x]), b.occ_filter [x], List.filter_filter]
    congr 2; funext s; simp
  | .fn f x _ _ b, bd => by
    simp only [Ex.occ, List.nil_append]
    rw [b.occ_filter (bd ++ [f, x]), b.occ_filter [f, x], List.filter_filter]
    congr 2; funext s; simp
  | .un _ a, bd => by simp [Ex.occ, a.occ_filter bd]
theorem Ex.occ_mem {e : Ex} {bd : List Txt} {x : Txt} : x ∈ e.occ bd ↔ x ∈ e.occ [] ∧ x ∉ bd := by
  rw [e.occ_filter bd]; simp
theorem Ex.occ_name : ∀ {e : Ex} {bd : List Txt}, e.ok = true → ∀ x ∈ e.occ bd, isName x = true
  | .num _, bd, h, x, hx => by cases hx
  | .name s, bd, h, x, hx => by
    simp only [Ex.occ] at hx
    split at hx
    · cases hx
    · simp at hx; subst hx; exact h
  | .bin _ a b, bd, h, x, hx => by
    simp [Ex.ok] at h; simp [Ex.occ] at hx
    rcases hx with hx | hx
    · exact Ex.occ_name h.1 x hx
    · exact Ex.occ_name h.2 x hx
  | .ite a b c, bd, h, x, hx => by
    simp [Ex.ok] at h; simp [Ex.occ] at hx
    rcases hx with hx | hx | hx
    · exact Ex.occ_name h.1.1 x hx
    · exact Ex.occ_name h.1.2 x hx
    · exact Ex.occ_name h.2 x hx
  | .lt y a b, bd, h, x, hx => by
    simp [Ex.ok] at h; simp [Ex.occ] at hx
    rcases hx with hx | hx
    · exact Ex.occ_name h.1.2 x hx
    · exact Ex.occ_name h.2 x hx
  | .fn f y s t b, bd, h, x, hx => by
    simp [Ex.ok] at h; simp [Ex.occ] at hx
    exact Ex.occ_name h.2 x hx
  | .un _ a, bd, h, x, hx => Ex.occ_name (e := a) h x hx
theorem Ex.count_occ : ∀ (e : Ex) (n : Txt), (e.occ []).count n = e.count n := by
  have flt : ∀ (l : List Txt) (n : Txt) (bd : List Txt), (l.filter (fun s => decide (s ∉ bd))).count n = if n ∈ bd then 0 else l.count n := by
    intro l n bd
    induction l with
    | nil => simp
    | cons s l ih =>
      rw [List.filter_cons]
      split
      · rename_i h
        simp at h
        rw [List.count_cons, List.count_cons, ih]
        by_cases e : s = n
        · subst e; simp [h]
        · simp [e]
      · rename_i h
        simp at h
        rw [List.count_cons, ih]
        by_cases e : s = n
        · subst e; simp [h]
        · simp [e]
  intro e n
  induction e with
  | num s => rfl
  | name s => simp only [Ex.occ, List.not_mem_nil, if_false, Ex.count, List.count_cons, List.count_nil]; by_cases h : s = n <;> simp [h]
  | bin o a b iha ihb => simp [Ex.occ, Ex.count, iha, ihb]
  | ite a b c iha ihb ihc => simp [Ex.occ, Ex.count, iha, ihb, ihc]; omega
  | lt x a b iha ihb =>
    simp only [Ex.occ, Ex.count, List.count_append, List.nil_append]
    rw [iha, b.occ_filter [x], flt, ihb]
    by_cases h : x = n
    · simp [h]
    · have h' : ¬ n = x := fun e => h e.symm
      simp [h, h']
  | fn f x s t b ihb =>
    simp only [Ex.occ, Ex.count, List.nil_append]
    rw [b.occ_filter [f, x], flt, ihb]
    by_cases h : f = n
    · simp [h]
    · by_cases h' : x = n
      · simp [h']
      · have : ¬ n = f := fun e => h e.symm
        have : ¬ n = x := fun e => h' e.symm
        simp [*]
  | un o a ih => simpa [Ex.occ, Ex.count] using ih

theorem Ex.put_ok : ∀ {e : Ex} {n : Txt} {v : Ex}, e.ok = true → v.ok = true → (e.put n v).ok = true
  | .num _, n, v, h, hv => h
  | .name s, n, v, h, hv => by simp only [Ex.put]; split <;> assumption
  | .bin _ a b, n, v, h, hv => by simp [Ex.ok] at h; simp [Ex.put, Ex.ok, Ex.put_ok h.1 hv, Ex.put_ok h.2 hv]
  | .ite a b c, n, v, h, hv => by simp [Ex.ok] at h; simp [Ex.put, Ex.ok, Ex.put_ok h.1.1 hv, Ex.put_ok h.1.2 hv, Ex.put_ok h.2 hv]
  | .lt x a b, n, v, h, hv => by
    simp [Ex.ok] at h
    simp only [Ex.put, Ex.ok, Ex.put_ok h.1.2 hv, h.1.1]
    split
    · simpa using h.2
    · simp [Ex.put_ok h.2 hv]
  | .fn f x s t b, n, v, h, hv => by
    simp [Ex.ok] at h
    obtain ⟨⟨⟨⟨⟨h1, h2⟩, h3⟩, h4⟩, h5⟩, h6⟩ := h
    simp only [Ex.put, Ex.ok, h1, h2, h4, h5]
    split
    · simp [h3, h6]
    · simp [h3, Ex.put_ok h6 hv]
  | .un _ a, n, v, h, hv => by simp only [Ex.put]; exact Ex.put_ok (e := a) h hv

/- Types. -/
def tyLook (l : List Txt) (m : List Ty) (s : Txt) : Option Ty := (lastIdx l s).bind (fun i => m[i]?)
def B5.ty : B5 → Ty → Ty → Option Ty
  | .call, s, t => match s with
    | .fn a b => if a = t then some b else none
    | _ => none
  | .pair, s, t => if (Ty.pr s t).size ≤ 16 then some (.pr s t) else none
  | _, s, t => if s = .i ∧ t = .i then some .i else none
def U2.ty : U2 → Ty → Option Ty
  | .fst, .pr a _ => some a
  | .snd, .pr _ b => some b
  | _, _ => none
/-- The type, or the first expression that has none. -/
def Ex.chk : Ex → List Txt → List Ty → Except Ex Ty
  | .num _, _, _ => .ok .i
  | .name s, l, m => match tyLook l m s with
    | some t => .ok t
    | none => .error (.name s)
  | .bin o a b, l, m => match a.chk l m with
    | .error e => .error e
    | .ok s => match b.chk l m with
      | .error e => .error e
      | .ok t => match o.ty s t with
        | some u => .ok u
        | none => .error (.bin o a b)
  | .ite a b c, l, m => match a.chk l m with
    | .error e => .error e
    | .ok s => match b.chk l m with
      | .error e => .error e
      | .ok t => match c.chk l m with
        | .error e => .error e
        | .ok u => if s = .i ∧ t = u then .ok t else .error (.ite a b c)
  | .lt x a b, l, m => match a.chk l m with
    | .error e => .error e
    | .ok s => b.chk (l ++ [x]) (m ++ [s])
  | .fn f x s t b, l, m => if (Ty.fn s t).size ≤ 16 then (match b.chk (l ++ [f, x]) (m ++ [.fn s t, s]) with
      | .error e => .error e
      | .ok u => if u = t then .ok (.fn s t) else .error (.fn f x s t b))
    else .error (.fn f x s t b)
  | .un o a, l, m => match a.chk l m with
    | .error e => .error e
    | .ok s => match o.ty s with
      | some u => .ok u
      | none => .error (.un o a)
def Ex.ty (e : Ex) (l : List Txt) (m : List Ty) : Option Ty := match e.chk l m with
  | .ok t => some t
  | .error _ => none
end Go.Proofs.Ytekfjhopngcneaa

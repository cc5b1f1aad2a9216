
/- More rules: 'append' of a list that may be empty, the empty literal, blocks that become still within a region, lists of texts. No conditions. -/
import Derived.Test.YtekfjhopngcneaaOps4
import Derived.Test.YtekfjhopngcneaaW7
namespace Go.Proofs.Ytekfjhopngcneaa
set_option maxRecDepth 100000
set_option linter.unusedVariables false
set_option linter.unusedSimpArgs false

section rules
variable {P : Program} {f : FuncId} {n : Nat} {I₀ : Heap} {Q : Post} {k : List Item} {E : Env} {I : Heap} {L : Own}
variable {ops : Array Oper} {d : Nat} {ty : TypeId} {pos : String} {af : Array Edge} {g : Option (Nat × Bool)} {l : List Oper}

theorem o_freeze {b : Nat} {o : Obj} (h : HLe I (I.set b o) → RunO P f n I₀ Q ops l k E (I.set b o) L) : RunO P f n I₀ Q ops l k E I ((b, o) :: L) :=
  fun a w ha hd he hm => h hm.freeze.2 a w ha hd he hm.freeze.1

theorem o_lits0 {T e : TypeId} {sz bb esz ebb : Nat} {z ez : List Value} {dd : TypeDesc} [ht : TyIs P T (.slice e) sz bb z] [hte : TyIs P e dd esz ebb ez]
    (hg : Wants ops E g) (hdn : Nat.blt d n = true)
    (h : ∀ b, RunO P f n I₀ Q ops l k ((d, .slice (some ⟨b, 0, none⟩) 0 0) :: E) I ((b, .cells [].toArray e (0, 0)) :: L)) :
    RunO P f n I₀ Q ops (⟨some d, .buildSlice T 0 #[], ty, pos, af, g⟩ :: l) k E I L := by
  refine o_stepX rfl hdn (fun a he => hg.wanted a he) fun a w he hm => ?_
  refine ⟨_, _, I, (w.heap.size, .cells [].toArray e (0, 0)) :: L, ?_, hm.alloc _, h _⟩
  simp only [execOp]
  refine run_bind_ok (a := .slice (some ⟨w.heap.size, 0, none⟩) 0 0) (w' := { w with heap := w.heap.push (.cells [].toArray e (0, 0)) }) ?_ |>.trans rfl
  unfold Instr.buildSlice
  rw [run_bind_ok (run_underlying ht.und w)]
  simp only []
  rw [run_bind_ok (run_sizeOf hte w)]
  rw [if_neg (by omega), if_pos (by omega)]
  have e0 : ∀ h : Nat → Value, (Array.range 0).map h = #[] := fun h => by simp
  have e1 : (Array.map (fun x : Nat × Operand => (x.fst, a.eval x.snd)) #[]).toList = [] := by simp
  simp only [pure_bind, Nat.zero_mul, e0, e1]
  rfl

/-- 'append' of a list that may be empty. -/
theorem o_appendB {T T2 e : TypeId} {sz bb esz ebb sz2 bb2 : Nat} {z ez z2 : List Value} {dd dd2 : TypeDesc} [ht : TyIs P T (.slice e) sz bb z] [hte : TyIs P e dd esz ebb ez] [ht2 : TyIs P T2 dd2 sz2 bb2 z2]
    {x y : Operand} {B : Buf} {xs ys : List Value} {m c : Nat} {ad2 : Option Addr} {m2 c2 : Nat} {L₀ : Own} (hni : ∀ kk, dd2 ≠ .int kk) (hez : ez.length = esz)
    (hx : opd E x = some (bufVal m c B)) (hy : opd E y = some (.slice ad2 m2 c2)) (hB : BufOk esz m c xs B) (hL : ∀ w, Mem I L w → Mem I (bufOwn e xs B ++ L₀) w)
    (hyl : ys.length = m2 * esz) (hyr : ∀ a, ad2 = some a → Reads I L₀ a ys) (hyn : ad2 = none → ys = []) (hyp : ys.all plainCell = true) (hesz : 0 < esz)
    (hsize : (m + m2) ≤ 4294967296) (hbytes : ebb ≤ 1024) (hg : Wants ops E g) (hdn : Nat.blt d n = true)
    (h : ∀ B' c', BufOk esz (m + m2) c' (xs ++ ys) B' → RunO P f n I₀ Q ops l k ((d, bufVal (m + m2) c' B') :: E) I (bufOwn e (xs ++ ys) B' ++ L₀)) :
    RunO P f n I₀ Q ops (⟨some d, .call ⟨.builtin .append, #[x, y], #[T, T2]⟩, T, pos, af, g⟩ :: l) k E I L := by
  by_cases hm2 : 0 < m2
  · refine o_append hni hez hx hy hB hL hyl hyr hyn hyp hm2 hesz hsize hbytes hg hdn fun b sp c' hB' => ?_
    exact h (some (b, sp)) c' hB'
  · obtain rfl : m2 = 0 := by omega
    obtain rfl : ys = [] := List.eq_nil_of_length_eq_zero (by simpa using hyl)
    refine o_stepX rfl hdn (fun a he => hg.wanted a he) fun a w he hm => ?_
    have hv : ∃ base cc, bufVal m c B = .slice base m cc ∧ m ≤ cc ∧ cc = c := by
      cases B with
      | none => obtain ⟨h1, h2, h3⟩ := hB; exact ⟨none, 0, by simp [bufVal, h2], by omega, h3.symm⟩
      | some p => exact ⟨_, c, rfl, hB.2.1, rfl⟩
    obtain ⟨base, cc, hbv, hmc, rfl⟩ := hv
    have := run_append0 (P := P) (T2 := T2) (base := base) (x := .slice ad2 0 c2) (w := w) ht hte ht2.und hni hmc rfl (run_firstCells (hL w hm) hyl (fun a _ v _ i hi => absurd hi (by simp)) hyn)
    refine ⟨_, w, I, _, ?_, hL w hm, by simpa using h B cc (by simpa using hB)⟩
    simp only [execOp, resolve, List.map_toArray, List.map, he.eval hx, he.eval hy, pure_bind, invoke, builtin, hbv]
    exact run_bind_ok this |>.trans rfl
end rules

theorem sv_plain (l : List Txt) : (l.map sv).all plainCell = true := by simp [sv, plainCell]
theorem Strs.reads {I : Heap} {L : Own} {oa : Option Addr} {l : List Txt} {c : Nat} (h : Strs I oa l c) (a : Addr) (ha : oa = some a) : Reads I L a (l.map sv) := (h.still a ha).reads
theorem Strs.none {I : Heap} {oa : Option Addr} {l : List Txt} {c : Nat} (h : Strs I oa l c) (ha : oa = .none) : l.map sv = [] := by rw [h.nil ha]; rfl
/-- A buffer of texts that is written no more. -/
theorem s_freezeStrs {P : Program} {f : FuncId} {n : Nat} {I₀ : Heap} {Q : Post} {todo : List Item} {E : Env} {I : Heap} {L : Own} {e : TypeId} {l : List Txt} {B : Buf} {m c : Nat}
    (hB : BufOk 1 m c (l.map sv) B) (hm : m = l.length) (hlen : l.length ≤ maxN) (hs : ∀ s ∈ l, s.length ≤ maxN)
    (h : ∀ I' oa c', HLe I I' → bufVal m c B = .slice oa l.length c' → Strs I' oa l c' → RunS P f n I₀ Q todo E I' L) : RunS P f n I₀ Q todo E I (bufOwn e (l.map sv) B ++ L) := by
  cases B with
  | none =>
    obtain ⟨h1, h2, h3⟩ := hB
    obtain rfl : l = [] := by simpa using h1
    exact h I .none 0 (.refl _) rfl ⟨by simp, by simp, by simp, hlen, hs⟩
  | some p =>
    obtain ⟨b, sp⟩ := p
    refine s_freeze fun hle => h _ (some ⟨b, 0, .none⟩) c hle (by rw [← hm]; rfl) ⟨fun y hy => ?_, by simp, by have := hB.2.1; omega, hlen, hs⟩
    cases hy; exact still_set
theorem Strs.drop {I : Heap} {oa : Option Addr} {l : List Txt} {c : Nat} (h : Strs I oa l c) (a : Nat) (ha : a ≤ l.length) : Strs I (if c = a then oa else oa.map (·.add (a * 1))) (l.drop a) (c - a) := by
  have hcap := h.cap
  refine ⟨fun x hx => ?_, fun hx => ?_, by simp; omega, by have := h.len; simp; omega, fun s hs => h.each s (List.mem_of_mem_drop hs)⟩
  · by_cases hc : c = a
    · have : l.drop a = [] := List.drop_eq_nil_of_le (by omega)
      rw [this]; exact .inl rfl
    · rw [if_neg hc] at hx
      cases oa with
      | none => cases hx
      | some y =>
        cases hx
        refine (h.still y rfl).part (a * 1) ?_
        intro j hj
        simp only [List.length_map, List.length_drop] at hj
        simp [Nat.mul_one, show a + j < l.length by omega]
  · by_cases hc : c = a
    · exact List.drop_eq_nil_of_le (by omega)
    · rw [if_neg hc] at hx
      cases oa with
      | none => rw [h.nil rfl]; simp
      | some y => cases hx
end Go.Proofs.Ytekfjhopngcneaa

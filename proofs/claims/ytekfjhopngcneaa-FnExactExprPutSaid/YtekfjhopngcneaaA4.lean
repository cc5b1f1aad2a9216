
/- The parts of a form as one row of cells; the library's Clone of forms. No conditions. -/
import Derived.Test.YtekfjhopngcneaaA3
import Derived.Test.YtekfjhopngcneaaE6
namespace Go.Proofs.Ytekfjhopngcneaa
set_option maxRecDepth 100000
set_option linter.unusedVariables false
set_option linter.unusedSimpArgs false

section rules
variable {P : Program} {f : FuncId} {n : Nat} {I₀ : Heap} {Q : Post} {k : List Item} {E : Env} {I : Heap} {L : Own}
variable {ops : Array Oper} {d : Nat} {ty : TypeId} {pos : String} {af : Array Edge} {g : Option (Nat × Bool)} {l : List Oper}
theorem run_eqGuard_slice {op : BinOp} {T : TypeId} {x y : Operand} {a b : Option Addr} {m c m' c' : Nat} (w : World) : (eqGuard op T x y (.slice a m c) (.slice b m' c')).run P w = .ok () w := by
  unfold eqGuard; split <;> rfl
theorem y_eqlnilS {S : World → Prop} {T T' e sz bb : Nat} {z : List Value} [ht : TyIs P T (.slice e) sz bb z] {x y : Operand} {oa : Option Addr} {m c : Nat} (hx : opd E x = some (.slice oa m c)) (hy : opd E y = some (.slice none 0 0)) :
    Yld P E S ⟨some d, .binOp .eql T x y T', ty, pos, af, g⟩ (.bool oa.isNone) := fun ac w he _ => by
  simp only [execOp, he.eval hx, he.eval hy]
  refine run_bind_ok (a := _) (w' := w) ?_ |>.trans rfl
  rw [run_bind_ok (run_eqGuard_slice w)]
  have h : ∀ d : Nat, (Op.equalIn (d + 1) T (.slice oa m c) (.slice none 0 0)).run P w = .ok oa.isNone w := fun d => by
    unfold Op.equalIn
    rw [run_bind_ok (run_underlying ht.und w)]
    cases oa <;> rfl
  simp only [binOp, Op.equal]
  exact run_bind_ok (h 9999) |>.trans rfl
theorem o_eqlnilS {T T' e sz bb : Nat} {z : List Value} [ht : TyIs P T (.slice e) sz bb z] {x y : Operand} {oa : Option Addr} {m c : Nat} (hx : opd E x = some (.slice oa m c)) (hy : opd E y = some (.slice none 0 0)) (hg : Wants ops E g) (hdn : Nat.blt d n = true)
    (h : RunO P f n I₀ Q ops l k ((d, .bool oa.isNone) :: E) I L) : RunO P f n I₀ Q ops (⟨some d, .binOp .eql T x y T', ty, pos, af, g⟩ :: l) k E I L := o_yld (y_eqlnilS hx hy) hg hdn h
end rules

/-- The cells of forms, one behind the other. -/
def cellsF (oaf : Nat → Option Addr) (cf : Nat → Nat) : Nat → List Tree → List Value
  | _, [] => []
  | k, t :: ts => .string (str t.atom) :: .slice (oaf k) t.parts.length (cf k) :: cellsF oaf cf (k + 1) ts
theorem cellsF_congr {f f' : Nat → Option Addr} {g g' : Nat → Nat} : ∀ (ts : List Tree) (k : Nat), (∀ i, k ≤ i → f i = f' i ∧ g i = g' i) → cellsF f g k ts = cellsF f' g' k ts
  | [], _, _ => rfl
  | t :: ts, k, h => by
    simp only [cellsF]
    rw [(h k (Nat.le_refl _)).1, (h k (Nat.le_refl _)).2, cellsF_congr ts (k + 1) (fun i hi => h i (by omega))]
theorem RepL.cells {I : Heap} : ∀ {ts : List Tree} {vs : List Value} (k : Nat), RepL I ts vs → ∃ oaf cf, vs = cellsF oaf cf k ts
  | _, _, k, .nil => ⟨fun _ => none, fun _ => 0, rfl⟩
  | _, _, k, .cons (ts := ts) h hs => by
    obtain ⟨f, g, rfl⟩ := RepL.cells (k + 1) hs
    obtain ⟨oa, c, vs, he, _⟩ := h.open
    simp only [List.cons.injEq, and_true] at he
    obtain ⟨rfl, rfl⟩ := he
    refine ⟨fun i => if i = k then oa else f i, fun i => if i = k then c else g i, ?_⟩
    simp only [cellsF, if_true]
    congr 2
    exact cellsF_congr ts (k + 1) (fun i hi => by rw [if_neg (by omega), if_neg (by omega)]; exact ⟨rfl, rfl⟩)
theorem cellsF_get {f : Nat → Option Addr} {g : Nat → Nat} : ∀ (ts : List Tree) (k i : Nat) (hi : i < ts.length), (cellsF f g k ts)[i * 2]? = some (.string (str ts[i].atom)) ∧ (cellsF f g k ts)[i * 2 + 1]? = some (.slice (f (k + i)) ts[i].parts.length (g (k + i)))
  | [], _, _, hi => by simp at hi
  | t :: ts, k, 0, _ => ⟨rfl, rfl⟩
  | t :: ts, k, i + 1, hi => by
    obtain ⟨h1, h2⟩ := cellsF_get (f := f) (g := g) ts (k + 1) i (by simpa using hi)
    refine ⟨?_, ?_⟩
    · rw [show (i + 1) * 2 = i * 2 + 1 + 1 by omega]; simpa [cellsF] using h1
    · rw [show (i + 1) * 2 + 1 = i * 2 + 1 + 1 + 1 by omega, show k + (i + 1) = k + 1 + i by omega]; simpa [cellsF] using h2
/-- A form in memory, with all cells of its parts. -/
theorem Rep.cells {I : Heap} {t : Tree} {cs : List Value} (h : Rep I t cs) : ∃ oa c oaf cf, cs = [.string (str t.atom), .slice oa t.parts.length c] ∧ FormAt I t oa c oaf cf ∧ RepL I t.parts (cellsF oaf cf 0 t.parts) ∧ (∀ x, oa = some x → Still I x (cellsF oaf cf 0 t.parts)) := by
  obtain ⟨oa, c, vs, rfl, hl, hs, hn, hc, ha, hp⟩ := h.open
  obtain ⟨oaf, cf, rfl⟩ := hl.cells 0
  refine ⟨oa, c, oaf, cf, rfl, ⟨h, fun i hi => ?_, fun e => by rw [hn e]; rfl, hp, ha, hc⟩, hl, hs⟩
  obtain ⟨c1, c2, h1, h2, h3⟩ := hl.get i hi
  obtain ⟨h4, h5⟩ := cellsF_get (f := oaf) (g := cf) t.parts 0 i hi
  rw [h4] at h2
  rw [h5, Nat.zero_add] at h3
  cases h2; cases h3
  rw [Tree.pt_at hi]
  obtain ⟨x, rfl⟩ : ∃ x, oa = some x := by
    cases oa with
    | none => have := hn rfl; rw [this] at hi; simp at hi
    | some x => exact ⟨x, rfl⟩
  refine ⟨h1, (hs x rfl).part (i * 2) ?_⟩
  intro j hj
  match j, hj with
  | 0, _ => simpa using h4
  | 1, _ => simpa using h5

/-- What 'Clone' returns: a row of the call's own. -/
def CL (e : TypeId) (vs : List Value) (n : Nat) (I : Heap) (L : Own) : Post := fun v I' L' => ∃ b sp c, v = .slice (some ⟨b, 0, none⟩) n c ∧ n ≤ c ∧ I = I' ∧ L' = (b, .cells (vs ++ sp).toArray e (0, 0)) :: L
theorem f_slices_Clone {I : Heap} {x : Addr} {n c : Nat} {vs : List Value} (hs : Still I x vs) (hv : vs.length = n * 2) (hp : vs.all plainCell = true) (hn0 : 0 < n) (hn : n ≤ 4294967296) (L : Own) :
    Fun Try.prog 31 [.slice (some x) n c] I L (CL 35 vs n I L) := by
  refine fun_intro (by simp) ?_
  refine s_seq ?_
  refine o_enter rfl ?_
  refine o_assign rfl .free rfl ?_
  refine o_done ?_
  refine s_seq ?_
  refine s_seq ?_
  refine o_enter rfl ?_
  refine o_move rfl .free rfl ?_
  refine o_eqlnilS rfl rfl .free rfl ?_
  refine o_done ?_
  first | refine s_fp rfl (by simp) ?_ | refine s_fn rfl (by simp) ?_ | refine s_false (by simp [look, opd, *]) ?_
  refine s_skip ?_
  refine s_seq ?_
  refine o_enter rfl ?_
  refine o_lits0 .free rfl ?_
  intro b5
  refine o_move rfl .free rfl ?_
  refine o_append (B := some (b5, [])) (xs := []) (ys := vs) (m := 0) (c := 0) (L₀ := L) (by intro kk; simp) (by rfl) rfl rfl ⟨rfl, Nat.le_refl _, rfl⟩ (fun _ h => h) (by omega) (fun a ha => by cases ha; exact hs.reads) (by simp) hp hn0 (by decide) (by omega) (by decide) .free rfl ?_
  intro b sp c' hB'
  refine o_assign rfl .free rfl ?_
  refine o_done ?_
  refine s_ret (.tmp rfl .nil) ?_
  exact ⟨I, _, .refl _, fun _ h => h, b, sp, c', by rw [Nat.zero_add]; rfl, by have := hB'.2.1; omega, rfl, rfl⟩
end Go.Proofs.Ytekfjhopngcneaa

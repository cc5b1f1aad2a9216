
/- Parts of forms and of lists by their place; the greater of two numbers. No conditions. -/
import Derived.Test.YtekfjhopngcneaaM4
namespace Go.Proofs.Ytekfjhopngcneaa
set_option maxRecDepth 100000
set_option linter.unusedVariables false
set_option linter.unusedSimpArgs false

def oad (oa : Option Addr) : Addr := oa.getD ⟨0, 0, none⟩
section rules
variable {P : Program} {f : FuncId} {n : Nat} {I₀ : Heap} {Q : Post} {k : List Item} {E : Env} {I : Heap} {L : Own}
variable {ops : Array Oper} {d : Nat} {ty : TypeId} {pos : String} {af : Array Edge} {g : Option (Nat × Bool)} {l : List Oper}
theorem some_oad {oa : Option Addr} {m i : Nat} (hn : oa = none → m = 0) (hi : i < m) : oa = some (oad oa) := by
  cases oa with
  | none => have := hn rfl; omega
  | some x => rfl
theorem y_indexAddrD {S : World → Prop} {T e : TypeId} {sz bb esz ebb : Nat} {z ez : List Value} {dd : TypeDesc} [ht : TyIs P T (.slice e) sz bb z] [hte : TyIs P e dd esz ebb ez] {x y : Operand} {oa : Option Addr} {m c : Nat} {i : Int}
    (hx : opd E x = some (.slice oa m c)) (hy : opd E y = some (.int .i64 i)) (i' : Nat) (hi : i = i') (him : i' < m) (hn : oa = none → m = 0) : Yld P E S ⟨some d, .indexAddr T x y, ty, pos, af, g⟩ (.pointer (some ((oad oa).add (i' * esz)))) :=
  y_indexAddr' hx hy i' hi him (some_oad hn him)
theorem o_indexAddrD {T e : TypeId} {sz bb esz ebb : Nat} {z ez : List Value} {dd : TypeDesc} [ht : TyIs P T (.slice e) sz bb z] [hte : TyIs P e dd esz ebb ez] {x y : Operand} {oa : Option Addr} {m c : Nat} {i : Int}
    (hx : opd E x = some (.slice oa m c)) (hy : opd E y = some (.int .i64 i)) (i' : Nat) (hi : i = i') (him : i' < m) (hn : oa = none → m = 0) (hg : Wants ops E g) (hdn : Nat.blt d n = true)
    (h : RunO P f n I₀ Q ops l k ((d, .pointer (some ((oad oa).add (i' * esz)))) :: E) I L) : RunO P f n I₀ Q ops (⟨some d, .indexAddr T x y, ty, pos, af, g⟩ :: l) k E I L :=
  o_yld (y_indexAddrD hx hy i' hi him hn) hg hdn h
theorem y_max {S : World → Prop} {tys : Array TypeId} {x y : Operand} {a b : Int} (hx : opd E x = some (.int .i64 a)) (hy : opd E y = some (.int .i64 b)) : Yld P E S ⟨some d, .call ⟨.builtin .max, #[x, y], tys⟩, ty, pos, af, g⟩ (.int .i64 (max a b)) := fun ac w he _ => by
    simp only [execOp, resolve, List.map_toArray, List.map, he.eval hx, he.eval hy, pure_bind, invoke, builtin]
    refine run_bind_ok (a := .int .i64 (max a b)) (w' := w) ?_ |>.trans rfl
    have e : (if a < b then b else a) = max a b := by split <;> omega
    simp only [Builtin.max_, List.foldlM, Builtin.max2, GT.gt, e]
    rfl
theorem o_max {tys : Array TypeId} {x y : Operand} {a b : Int} (hx : opd E x = some (.int .i64 a)) (hy : opd E y = some (.int .i64 b)) (hg : Wants ops E g) (hdn : Nat.blt d n = true)
    (h : RunO P f n I₀ Q ops l k ((d, .int .i64 (max a b)) :: E) I L) : RunO P f n I₀ Q ops (⟨some d, .call ⟨.builtin .max, #[x, y], tys⟩, ty, pos, af, g⟩ :: l) k E I L :=
  o_yld (y_max hx hy) hg hdn h
theorem s_condT {c : Operand} {x y : Code} {b : Bool} (hc : opd E c = some (.bool b)) (hb : b = true) (h : RunS P f n I₀ Q (.code x :: k) E I L) : RunS P f n I₀ Q (.code (.cond c x y) :: k) E I L := by
  subst hb; exact s_true hc h
theorem s_condF {c : Operand} {x y : Code} {b : Bool} (hc : opd E c = some (.bool b)) (hb : b = false) (h : RunS P f n I₀ Q (.code y :: k) E I L) : RunS P f n I₀ Q (.code (.cond c x y) :: k) E I L := by
  subst hb; exact s_false hc h
end rules

theorem loads_stillFS {P : Program} {I : Heap} {L : Own} {T : TypeId} {a : Addr} {vs us : List Value} {o : Nat} {fs : Array Field} {s bb : Nat} {z : List Value} [ht : TyIs P T (.struct fs) s bb z] (h : Still I a vs) (hc : cutN o s vs = some us) :
    Loads P I L T (a.add o) (.agg us.toArray) := loads_struct (cutN_get hc).1 (h.cut hc).reads
/-- A form in memory: where its parts lie. -/
structure FormAt (I : Heap) (t : Tree) (oa : Option Addr) (c : Nat) (oaf : Nat → Option Addr) (cf : Nat → Nat) : Prop where
  rep : Rep I t [.string (str t.atom), .slice oa t.parts.length c]
  part : ∀ i (hi : i < t.parts.length), Rep I (t.pt i) [.string (str (t.pt i).atom), .slice (oaf i) (t.pt i).parts.length (cf i)] ∧ Still I ((oad oa).add (i * 2)) [.string (str (t.pt i).atom), .slice (oaf i) (t.pt i).parts.length (cf i)]
  nil : oa = none → t.parts.length = 0
  len : t.parts.length ≤ maxN
  alen : t.atom.length ≤ maxN
  cap : t.parts.length ≤ c
theorem FormAt.mono {I I' : Heap} (hle : HLe I I') {t : Tree} {oa : Option Addr} {c : Nat} {oaf : Nat → Option Addr} {cf : Nat → Nat} (h : FormAt I t oa c oaf cf) : FormAt I' t oa c oaf cf :=
  ⟨h.rep.mono hle, fun i hi => ⟨(h.part i hi).1.mono hle, (h.part i hi).2.mono hle⟩, h.nil, h.len, h.alen, h.cap⟩
theorem FormAt.st {I : Heap} {t : Tree} {oa : Option Addr} {c : Nat} {oaf : Nat → Option Addr} {cf : Nat → Nat} (h : FormAt I t oa c oaf cf) (i : Nat) (hi : i < t.parts.length) : Still I ((oad oa).add (i * 2)) [.string (str (t.pt i).atom), .slice (oaf i) (t.pt i).parts.length (cf i)] := (h.part i hi).2
theorem FormAt.rp {I : Heap} {t : Tree} {oa : Option Addr} {c : Nat} {oaf : Nat → Option Addr} {cf : Nat → Nat} (h : FormAt I t oa c oaf cf) (i : Nat) (hi : i < t.parts.length) : Rep I (t.pt i) [.string (str (t.pt i).atom), .slice (oaf i) (t.pt i).parts.length (cf i)] := (h.part i hi).1
theorem Rep.at' {I : Heap} {t : Tree} {cs : List Value} (h : Rep I t cs) : ∃ oa c oaf cf, cs = [.string (str t.atom), .slice oa t.parts.length c] ∧ FormAt I t oa c oaf cf := by
  obtain ⟨oa, c, vs, rfl, hl, hs, hn, hc, ha, hp⟩ := h.open
  have key : ∀ i, ∃ p : Option Addr × Nat, ∀ hi : i < t.parts.length, Rep I (t.pt i) [.string (str (t.pt i).atom), .slice p.1 (t.pt i).parts.length p.2] ∧ Still I ((oad oa).add (i * 2)) [.string (str (t.pt i).atom), .slice p.1 (t.pt i).parts.length p.2] := by
    intro i
    by_cases hi : i < t.parts.length
    · obtain ⟨x, rfl, oa', c', h1, h2⟩ := Rep.at hl hs hn i hi
      rw [Tree.pt_at hi]
      exact ⟨(oa', c'), fun _ => ⟨h1, h2⟩⟩
    · exact ⟨(none, 0), fun h => absurd h hi⟩
  exact ⟨oa, c, fun i => (Classical.choose (key i)).1, fun i => (Classical.choose (key i)).2, rfl, h, fun i hi => Classical.choose_spec (key i) hi, fun e => by rw [hn e]; rfl, hp, ha, hc⟩
theorem Rep.atom_le {I : Heap} {t : Tree} {cs : List Value} (h : Rep I t cs) : t.atom.length ≤ maxN := by obtain ⟨_, _, _, _, _, _, _, _, ha, _⟩ := h.open; exact ha
theorem Nums.st {I : Heap} {oa : Option Addr} {l : List Nat} {c : Nat} (h : Nums I oa l c) (i : Nat) (hi : i < l.length) : Still I ((oad oa).add (i * 1)) [.int .i64 (l.getD i 0 : Nat)] := by
  obtain ⟨x, rfl, hx⟩ := h.at i hi; rw [show l.getD i 0 = l[i] by simp [hi]]; exact hx
theorem Nums.nil' {I : Heap} {oa : Option Addr} {l : List Nat} {c : Nat} (h : Nums I oa l c) (e : oa = Option.none) : l.length = 0 := by rw [h.nil e]; rfl
theorem Strs.st {I : Heap} {oa : Option Addr} {l : List Txt} {c : Nat} (h : Strs I oa l c) (i : Nat) (hi : i < l.length) : Still I ((oad oa).add (i * 1)) [.string (str (l.getD i []))] := by
  obtain ⟨x, rfl, hx⟩ := h.at i hi; rw [show l.getD i [] = l[i] by simp [hi]]; exact hx
theorem Strs.nil' {I : Heap} {oa : Option Addr} {l : List Txt} {c : Nat} (h : Strs I oa l c) (e : oa = Option.none) : l.length = 0 := by rw [h.nil e]; rfl
theorem Raw.st {I : Heap} {oa : Option Addr} {l : List Txt} {c : Nat} (h : Raw I oa l c) (i : Nat) (hi : i < l.length) : Still I ((oad oa).add (i * 1)) [.string (str (l.getD i []))] := by
  obtain ⟨x, rfl, hx⟩ := h.at i hi; rw [show l.getD i [] = l[i] by simp [hi]]; exact hx
theorem Raw.nil' {I : Heap} {oa : Option Addr} {l : List Txt} {c : Nat} (h : Raw I oa l c) (e : oa = Option.none) : l.length = 0 := by rw [h.nil e]; rfl
end Go.Proofs.Ytekfjhopngcneaa


/- Literals and blocks that become still, in regions that draw their order. No conditions. -/
import Derived.Test.YtekfjhopngcneaaE5
namespace Go.Proofs.Ytekfjhopngcneaa
set_option maxRecDepth 100000
set_option linter.unusedVariables false
set_option linter.unusedSimpArgs false

section rules
variable {P : Program} {f : FuncId} {n : Nat} {I₀ : Heap} {Q : Post} {k : List Item} {E : Env} {I : Heap} {L : Own}
variable {ops : Array Oper} {d : Nat} {ty : TypeId} {pos : String} {af : Array Edge} {g : Option (Nat × Bool)} {l : List Oper}
theorem x_lits {T e : TypeId} {parts : Array (Nat × Operand)} {is : List Nat} {vs us : List Value} {m : Nat} {sz bb esz ebb : Nat} {z ez : List Value} {dd : TypeDesc} [ht : TyIs P T (.slice e) sz bb z] [hte : TyIs P e dd esz ebb ez]
    (hp : parts.toList.map (·.1) = is) (ho : opds E (parts.toList.map (·.2)) = some vs) (hr : is = List.range' 0 vs.length) (hm : vs.length = m) (hfl : flatN esz vs = some us) (hm0 : m * esz ≠ 0) (hm1 : m * esz ≤ 2 ^ 24) (hez : ez.length = esz)
    (a : Act) (w : World) (he : EnvOk E a) (hmm : Mem I L w) :
    ∃ w', (execOp a.eval ⟨some d, .buildSlice T m parts, ty, pos, af, g⟩).run P w = .ok (.value (.slice (some ⟨w.heap.size, 0, none⟩) m m)) w' ∧ Mem I ((w.heap.size, .cells us.toArray e (0, 0)) :: L) w' := by
  have hfill : Instr.fill (fun i => some (i * esz, esz)) ((Array.range (m * esz)).map (ez.toArray[· % ez.toArray.size]!)) (is.zip vs) = some us.toArray := by
    rw [hr]
    have := flat_fill (esz := esz) 0 [] (((Array.range (m * esz)).map (ez.toArray[· % ez.toArray.size]!)).toList) hfl (by simp) (by simp [hm])
    rw [List.nil_append, List.nil_append, Array.toArray_toList] at this
    exact this
  refine ⟨{ w with heap := w.heap.push (.cells us.toArray e (0, 0)) }, ?_, hmm.alloc _⟩
  have h1 : parts.map (fun (i, x) => (i, a.eval x)) = (is.zip vs).toArray := by
    apply Array.ext'
    have := he.evals ho
    rw [← hp, ← this]
    simp [List.zip_map', Function.comp_def]
  simp only [execOp]
  rw [h1]
  refine run_bind_ok (a := .slice (some ⟨w.heap.size, 0, none⟩) m m) (w' := { w with heap := w.heap.push (.cells us.toArray e (0, 0)) }) ?_ |>.trans rfl
  unfold Instr.buildSlice
  rw [run_bind_ok (run_underlying ht.und w)]
  simp only []
  rw [run_bind_ok (run_sizeOf hte w)]
  rw [if_neg (by omega), if_neg hm0]
  obtain ⟨zv, hz1, hz2⟩ := run_zero hte w
  have hz3 : zv.cells = ez.toArray := by rw [← hz2]
  simp only [bind_assoc, pure_bind]
  rw [run_bind_ok hz1, hz3]
  rw [hfill]
  rfl
theorem d_lits {S : World → Prop} {fuel : Nat} {listed listed' : Array Bool} (i : Nat) {T e : TypeId} {parts : Array (Nat × Operand)} {is : List Nat} {vs us : List Value} {m : Nat} {sz bb esz ebb : Nat} {z ez : List Value} {dd : TypeDesc} [ht : TyIs P T (.slice e) sz bb z] [hte : TyIs P e dd esz ebb ez]
    (hi : ops[i]? = some ⟨some d, .buildSlice T m parts, ty, pos, af, g⟩) (hc : decide (Region.ready .any ops listed = [i]) = true) (hl : listed' = listed.setIfInBounds i true)
    (hp : parts.toList.map (·.1) = is) (ho : opds E (parts.toList.map (·.2)) = some vs) (hr : is = List.range' 0 vs.length) (hm : vs.length = m) (hfl : flatN esz vs = some us) (hm0 : m * esz ≠ 0) (hm1 : m * esz ≤ 2 ^ 24) (hez : ez.length = esz)
    (hg : Wants ops E g) (hdn : Nat.blt d n = true) (hS : heldB ops listed' = true ∨ ∀ w, Mem I L w → S w)
    (h : ∀ b, RunW P f n I₀ Q ops S fuel listed' k ((d, .slice (some ⟨b, 0, none⟩) m m) :: E) I ((b, .cells us.toArray e (0, 0)) :: L)) : RunW P f n I₀ Q ops S (fuel + 1) listed k E I L := by
  refine d_stepX i hi hc hl rfl hdn (fun a he => hg.wanted a he) fun a w he hmm => ?_
  obtain ⟨w', h1, h2⟩ := x_lits (P := P) (T := T) (e := e) (d := d) (ty := ty) (pos := pos) (af := af) (g := g) hp ho hr hm hfl hm0 hm1 hez a w he hmm
  exact ⟨_, w', I, _, h1, h2, hS.imp id fun hS w hw => hS w hw.drop, h _⟩
theorem d_freeze {S : World → Prop} {fuel : Nat} {listed : Array Bool} {b : Nat} {o : Obj} (h : HLe I (I.set b o) → RunW P f n I₀ Q ops S fuel listed k E (I.set b o) L) : RunW P f n I₀ Q ops S fuel listed k E I ((b, o) :: L) :=
  fun a w ha hd he hm => h hm.freeze.2 a w ha hd he hm.freeze.1
theorem d_mem {S : World → Prop} {fuel : Nat} {listed : Array Bool} {I' : Heap} {L' : Own} (hm : ∀ w, Mem I L w → Mem I' L' w) (h : RunW P f n I₀ Q ops S fuel listed k E I' L') : RunW P f n I₀ Q ops S fuel listed k E I L :=
  fun a w ha hd he hw => h a w ha hd he (hm w hw)
end rules

/-- A list of forms in still memory. -/
structure Forms (I : Heap) (oa : Option Addr) (ts : List Tree) (c : Nat) : Prop where
  rep : ∃ vs, RepL I ts vs ∧ ∀ x, oa = some x → Still I x vs
  nil : oa = none → ts = []
  cap : ts.length ≤ c
  len : ts.length ≤ maxN
theorem Forms.mono {I I' : Heap} (hle : HLe I I') {oa : Option Addr} {ts : List Tree} {c : Nat} (h : Forms I oa ts c) : Forms I' oa ts c := by
  obtain ⟨⟨vs, h1, h2⟩, h3, h4, h5⟩ := h
  exact ⟨⟨vs, h1.mono hle, fun x hx => (h2 x hx).mono hle⟩, h3, h4, h5⟩
theorem Forms.form {I : Heap} {oa : Option Addr} {ts : List Tree} {c : Nat} (h : Forms I oa ts c) (a : Txt) (ha : a.length ≤ maxN) : Rep I (.node a ts) [.string (str a), .slice oa ts.length c] := by
  obtain ⟨⟨vs, h1, h2⟩, h3, h4, h5⟩ := h
  exact .mk h1 h2 h3 h4 ha h5
theorem FormAt.forms {I : Heap} {t : Tree} {oa : Option Addr} {c : Nat} {oaf : Nat → Option Addr} {cf : Nat → Nat} (h : FormAt I t oa c oaf cf) : Forms I oa t.parts c := by
  obtain ⟨oa', c', vs, he, hl, hs, hn, hc, ha, hp⟩ := h.rep.open
  simp only [List.cons.injEq, Value.slice.injEq, and_true, true_and] at he
  obtain ⟨rfl, rfl⟩ := he
  exact ⟨⟨vs, hl, hs⟩, hn, hc, hp⟩
/-- What a literal or an 'append' has made becomes still. -/
theorem forms_lit {I : Heap} {b : Nat} {ts : List Tree} {vs sp : List Value} {e : TypeId} {fr : Nat × Nat} {c : Nat} (hl : RepL I ts vs) (hle : HLe I (I.set b (.cells (vs ++ sp).toArray e fr))) (hc : ts.length ≤ c) (hn : ts.length ≤ maxN) :
    Forms (I.set b (.cells (vs ++ sp).toArray e fr)) (some ⟨b, 0, none⟩) ts c :=
  ⟨⟨vs, hl.mono hle, fun y hy => by cases hy; exact still_set⟩, by simp, hc, hn⟩
theorem forms_lit0 {I : Heap} {b : Nat} {ts : List Tree} {vs : List Value} {e : TypeId} {fr : Nat × Nat} {c : Nat} (hl : RepL I ts vs) (hle : HLe I (I.set b (.cells vs.toArray e fr))) (hc : ts.length ≤ c) (hn : ts.length ≤ maxN) :
    Forms (I.set b (.cells vs.toArray e fr)) (some ⟨b, 0, none⟩) ts c := by
  have := forms_lit (sp := []) (e := e) (fr := fr) (b := b) hl (by simpa using hle) hc hn
  simpa using this
theorem RepL.one {I : Heap} {t : Tree} {cs : List Value} (h : Rep I t cs) : RepL I [t] cs := by
  obtain ⟨oa, c, vs, rfl, _⟩ := h.open
  exact .cons h .nil
theorem Rep.vals {I : Heap} {t : Tree} {cs : List Value} (h : Rep I t cs) : cs.all plainCell = true := by
  obtain ⟨oa, c, vs, rfl, _⟩ := h.open; rfl
theorem RepL.two {I : Heap} {t u : Tree} {cs ds : List Value} (h : Rep I t cs) (h' : Rep I u ds) : RepL I [t, u] (cs ++ ds) := (RepL.one h).append (.one h')
theorem RepL.three {I : Heap} {t u v : Tree} {cs ds es : List Value} (h : Rep I t cs) (h' : Rep I u ds) (h'' : Rep I v es) : RepL I [t, u, v] (cs ++ (ds ++ es)) := (RepL.one h).append ((RepL.one h').append (.one h''))

def RP (t : Tree) (L : Own) : Post := fun v I' L' => ∃ cs, v = .agg (List.toArray cs) ∧ Rep I' t cs ∧ L = L'
end Go.Proofs.Ytekfjhopngcneaa

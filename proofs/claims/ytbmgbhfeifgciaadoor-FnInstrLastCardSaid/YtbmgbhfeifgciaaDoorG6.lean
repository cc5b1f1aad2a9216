/- Which forms are expressions, by the program. No conditions. -/
import Derived.Test.YtbmgbhfeifgciaaDoorG5

namespace Go.Proofs.YtbmgbhfeifgciaaDoor
set_option maxRecDepth 100000
set_option linter.unusedVariables false
set_option linter.unusedSimpArgs false

theorem Nm {t : Tree} (hg : t.good = true) (h : t.atom = []) : t.parts ≠ [] ∧ 0 < t.parts.length := by
 have : t.parts ≠ [] := by rcases t.good_cases hg with hh | hh <;> simp_all
 exact ⟨this, List.length_pos_iff.2 this⟩
theorem Lz {t : Tree} (hg : t.good = true) (h : t.atom ≠ []) : t.parts = [] := by rcases t.good_cases hg with hh | hh <;> simp_all
theorem Gj {t : Tree} (h : 0 < t.parts.length) : t.head = (t.pt 0).atom := by
 cases t with
 | node a ps => cases ps with
  | nil => simp [Tree.parts] at h
  | cons p ps => rfl
def Ug (ps : List Tree) (i : Nat) : Af := if i = 0 then [40] else Du (ps.take i)
def RX (p : Option Ex) (L : At ) : A5   := fun v I' L' => ∃ t cs ok, v = .tuple #[.agg cs.toArray, .bool ok] ∧ Rep I' t cs ∧ L = L' ∧
  (match p with
   | some e => ok = true ∧ t = e.tree
   | none => ok = false)
theorem G3 {s : Af} {t : Tree} {ok : Bool} (hpf : match Bv s with | some t0 => ok = true ∧ t = t0 | none => ok = false) (h : ok = true) : Bv s = some t := by
 cases hp : Bv s with
 | none => rw [hp] at hpf; simp [h] at hpf
 | some t0 => rw [hp] at hpf; rw [hpf.2]
theorem Dl {s : Af} {t : Tree} (h : Bv s = some t) : t.good = true ∧ t.len ≤ 12000000 ∧ t.fits = true := by
 obtain ⟨h1, h2, h3⟩ := M7 h
 simp only [Tree.fits, Bool.and_eq_true, decide_eq_true_eq] at h1
 exact ⟨h2, by omega, by simp [Tree.fits, h1]⟩
section rules
variable {P : Program} {f : FuncId} {n : Nat} {I₀ : Heap} {Q : A5} {k : List Item} {E : D3} {I : Heap} {L : At}
variable {ops : Array Oper} {d : Nat} {ty : TypeId} {pos : String} {af : Array Edge} {g : Option (Nat × Bool)} {l : List Oper}
theorem Qa {T e : TypeId} {parts : Array (Nat × Operand)} {is : List Nat} {vs us : List Value} {m : Nat} {sz bb esz ebb : Nat} {z ez : List Value} {dd : TypeDesc} [ht : Ae P T (.slice e) sz bb z] [hte : Ae P e dd esz ebb ez]
  (hp : parts.toList.map (·.1) = is) (ho : Dy E (parts.toList.map (·.2)) = some vs) (hr : is = List.range' 0 vs.length) (hm : vs.length = m) (hfl : Ha esz vs = some us) (hm0 : m * esz ≠ 0) (hm1 : m * esz ≤ 2 ^ 24) (hez : ez.length = esz)
  (a : Act) (w : World) (he : EnvOk E a) (hmm : Mem I L w) :
  ∃ w', (execOp a.eval ⟨some d, .buildSlice T m parts, ty, pos, af, g⟩).run P w = .ok (.value (.slice (some ⟨w.heap.size, 0, none⟩) m m)) w' ∧ Mem I ((w.heap.size, .cells us.toArray e (0, 0)) :: L) w' := by
 have hfill : Instr.fill (fun i => some (i * esz, esz)) ((Array.range (m * esz)).map (ez.toArray[· % ez.toArray.size]!)) (is.zip vs) = some us.toArray := by
  rw [hr]
  have := Jw (esz := esz) 0 [] (((Array.range (m * esz)).map (ez.toArray[· % ez.toArray.size]!)).toList) hfl (by simp) (by simp [hm])
  rw [List.nil_append, List.nil_append, Array.toArray_toList] at this
  exact this
 refine ⟨{ w with heap := w.heap.push (.cells us.toArray e (0, 0)) }, ?_, hmm.alloc _⟩
 have h1 : parts.map (fun (i, x) => (i, a.eval x)) = (is.zip vs).toArray := by
  apply Array.ext'
  have := he.evals ho
  rw [← hp, ← this]
  simp [List.zip_map', Function.comp_def]
 simp only [execOp]
 rw [h1]; refine Ab (a := .slice (some ⟨w.heap.size, 0, none⟩) m m) (w' := { w with heap := w.heap.push (.cells us.toArray e (0, 0)) }) ?_ |>.trans rfl
 unfold Instr.buildSlice
 rw [Ab (Ao ht.und w)]
 simp only []
 rw [Ab (C4 hte w)]; rw [if_neg (by omega), if_neg hm0]; obtain ⟨zv, hz1, hz2⟩ := Fj hte w
 have hz3 : zv.cells = ez.toArray := by rw [← hz2]
 simp only [bind_assoc, pure_bind]
 rw [Ab hz1, hz3]; rw [hfill]
 rfl
theorem Rn {S : World → Prop} {fuel : Nat} {listed listed' : Array Bool} (i : Nat) {T e : TypeId} {parts : Array (Nat × Operand)} {is : List Nat} {vs us : List Value} {m : Nat} {sz bb esz ebb : Nat} {z ez : List Value} {dd : TypeDesc} [ht : Ae P T (.slice e) sz bb z] [hte : Ae P e dd esz ebb ez]
  (hi : ops[i]? = some ⟨some d, .buildSlice T m parts, ty, pos, af, g⟩) (hc : decide (Region.ready .any ops listed = [i]) = true) (hl : listed' = listed.setIfInBounds i true)
  (hp : parts.toList.map (·.1) = is) (ho : Dy E (parts.toList.map (·.2)) = some vs) (hr : is = List.range' 0 vs.length) (hm : vs.length = m) (hfl : Ha esz vs = some us) (hm0 : m * esz ≠ 0) (hm1 : m * esz ≤ 2 ^ 24) (hez : ez.length = esz)
  (hg : Wants ops E g) (hdn : Nat.blt d n = true) (hS : C9 ops listed' = true ∨ ∀ w, Mem I L w → S w)
  (h : ∀ b, Be P f n I₀ Q ops S fuel listed' k ((d, .slice (some ⟨b, 0, none⟩) m m) :: E) I ((b, .cells us.toArray e (0, 0)) :: L)) : Be P f n I₀ Q ops S (fuel + 1) listed k E I L := by
 refine Ks i hi hc hl rfl hdn (fun a he => hg.wanted a he) fun a w he hmm => ?_
 obtain ⟨w', h1, h2⟩ := Qa (P := P) (T := T) (e := e) (d := d) (ty := ty) (pos := pos) (af := af) (g := g) hp ho hr hm hfl hm0 hm1 hez a w he hmm
 exact ⟨_, w', I, _, h1, h2, hS.imp id fun hS w hw => hS w hw.drop, h _⟩
end rules

structure Forms (I : Heap) (oa : Option Addr) (ts : List Tree) (c : Nat) : Prop where
 rep : ∃ vs, RepL I ts vs ∧ ∀ x, oa = some x → Still I x vs
 nil : oa = none → ts = []
 cap : ts.length ≤ c
 len : ts.length ≤ As
theorem Forms.mono {I I' : Heap} (hle : HLe I I') {oa : Option Addr} {ts : List Tree} {c : Nat} (h : Forms I oa ts c) : Forms I' oa ts c := by
 obtain ⟨⟨vs, h1, h2⟩, h3, h4, h5⟩ := h
 exact ⟨⟨vs, h1.mono hle, fun x hx => (h2 x hx).mono hle⟩, h3, h4, h5⟩
theorem Forms.form {I : Heap} {oa : Option Addr} {ts : List Tree} {c : Nat} (h : Forms I oa ts c) (a : Af) (ha : a.length ≤ As) : Rep I (.node a ts) [.string (str a), .slice oa ts.length c] := by
 obtain ⟨⟨vs, h1, h2⟩, h3, h4, h5⟩ := h
 exact .mk h1 h2 h3 h4 ha h5
theorem FormAt.forms {I : Heap} {t : Tree} {oa : Option Addr} {c : Nat} {oaf : Nat → Option Addr} {cf : Nat → Nat} (h : FormAt I t oa c oaf cf) : Forms I oa t.parts c := by
 obtain ⟨oa', c', vs, he, hl, hs, hn, hc, ha, hp⟩ := h.rep.open
 simp only [List.cons.injEq, Value.slice.injEq, and_true, true_and] at he
 obtain ⟨rfl, rfl⟩ := he
 exact ⟨⟨vs, hl, hs⟩, hn, hc, hp⟩
theorem RepL.one {I : Heap} {t : Tree} {cs : List Value} (h : Rep I t cs) : RepL I [t] cs := by
 obtain ⟨oa, c, vs, rfl, _⟩ := h.open
 exact .cons h .nil
theorem Rep.vals {I : Heap} {t : Tree} {cs : List Value} (h : Rep I t cs) : cs.all Bc = true := by
 obtain ⟨oa, c, vs, rfl, _⟩ := h.open; rfl
theorem RepL.two {I : Heap} {t u : Tree} {cs ds : List Value} (h : Rep I t cs) (h' : Rep I u ds) : RepL I [t, u] (cs ++ ds) := (RepL.one h).append (.one h')
def RP (t : Tree) (L : At) : A5 := fun v I' L' => ∃ cs, v = .agg (List.toArray cs) ∧ Rep I' t cs ∧ L = L'
section rules
variable {P : Program} {f : FuncId} {n : Nat} {I₀ : Heap} {Q : A5} {k : List Item} {E : D3} {I : Heap} {L : At}
variable {ops : Array Oper} {d : Nat} {ty : TypeId} {pos : String} {af : Array Edge} {g : Option (Nat × Bool)} {l : List Oper}
theorem Ng {S : World → Prop} {kf : FuncId} {fst cap : Array Operand} {vs us : List Value} (hf : Dy E fst.toList = some vs) (hc : Dy E cap.toList = some us) : Dz P E S ⟨some d, .makeFunc (.func kf) fst cap, ty, pos, af, g⟩ (.func (.func kf) vs.toArray us.toArray) := fun a w he _ => by
  have h1 : fst.map a.eval = vs.toArray := Array.ext' (by simpa using he.evals hf)
  have h2 : cap.map a.eval = us.toArray := Array.ext' (by simpa using he.evals hc)
  simp only [execOp, h1, h2]
  rfl
theorem I7 {kf : FuncId} {fst cap : Array Operand} {vs us : List Value} (hf : Dy E fst.toList = some vs) (hc : Dy E cap.toList = some us) (hg : Wants ops E g) (hdn : Nat.blt d n = true)
  (h : Ah P f n I₀ Q ops l k ((d, .func (.func kf) vs.toArray us.toArray) :: E) I L) : Ah P f n I₀ Q ops (⟨some d, .makeFunc (.func kf) fst cap, ty, pos, af, g⟩ :: l) k E I L := Bi (Ng hf hc) hg hdn h
end rules

structure RStrs (I : Heap) (L : At) (oa : Option Addr) (l : List Af) : Prop where
 reads : ∀ a, oa = some a → Do I L a (l.map sv)
 nil : oa = none → l.length = 0
 len : l.length ≤ As
theorem Strs.rd {I : Heap} {oa : Option Addr} {l : List Af} {c : Nat} (h : Strs I oa l c) (L : At) : RStrs I L oa l := ⟨h.reads, h.nil', h.len⟩
theorem RStrs.st {I : Heap} {L : At} {oa : Option Addr} {l : List Af} (h : RStrs I L oa l) (i : Nat) (hi : i < l.length) : Do I L ((K8 oa).add (i * 1)) [.string (str (l.getD i []))] := by
 obtain ⟨x, rfl⟩ : ∃ x, oa = some x := by
  cases oa with
  | none => have := h.nil rfl; omega
  | some x => exact ⟨x, rfl⟩
 intro w hw j hj; obtain rfl : j = 0 := by simpa using hj
 have h1 := h.reads x rfl w hw i (by simpa using hi)
 have e : ((K8 (some x)).add (i * 1)).add 0 = x.add i := by simp [K8, Addr.add]
 rw [e, h1]
 simp [sv, hi]
theorem RStrs.sub {I : Heap} {L L' : At} {oa : Option Addr} {l : List Af} (h : RStrs I L oa l) (hs : ∀ w, Mem I L' w → Mem I L w) : RStrs I L' oa l :=
 ⟨fun a ha w hw => h.reads a ha w (hs w hw), h.nil, h.len⟩
def SS (l : List Af) (L : At) : A5 := fun v I' L' => ∃ oa c, v = .slice oa (List.length l) c ∧ Strs I' oa l c ∧ L = L'
theorem Strs.append {I : Heap} {oa ob : Option Addr} {l m : List Af} {c c' : Nat} (h : Strs I oa l c) (h' : Strs I ob m c') : ∀ s ∈ l ++ m, s.length ≤ As := by
 intro s hs
 rcases List.mem_append.1 hs with hs | hs
 ·exact h.each s hs
 ·exact h'.each s hs
section rules
variable {P : Program} {f : FuncId} {n : Nat} {I₀ : Heap} {Q : A5} {k : List Item} {E : D3} {I : Heap} {L : At}
variable {ops : Array Oper} {d : Nat} {ty : TypeId} {pos : String} {af : Array Edge} {g : Option (Nat × Bool)} {l : List Oper}
def Ll (P : Program) (f : FuncId) (n : Nat) (I₀ : Heap) (Q : A5) (ops : Array Oper) (S : World → Prop) (fuel : Nat) (listed : Array Bool) (i : Nat) (k : List Item) (E : D3) (I : Heap) (L : At) : Prop :=
 ∀ a w, a.tmps.size = n → a.defers = [] → EnvOk E a → Mem I L w → wpOp P ops (QK P f n I₀ Q k) i (fun a' w' => Jn ops S (listed.setIfInBounds i true) w' ∧ Jo P ops (QK P f n I₀ Q k) S fuel (listed.setIfInBounds i true) a' w') a w
theorem Rm {S : World → Prop} {fuel : Nat} {listed : Array Bool} (is : List Nat) (hc : decide (Region.ready .any ops listed = is) = true) (hne : is.isEmpty = false)
  (h : ∀ i ∈ is, Ll P f n I₀ Q ops S fuel listed i k E I L) : Be P f n I₀ Q ops S (fuel + 1) listed k E I L := by
 have hr := of_decide_eq_true hc
 intro a w ha hd he hm; refine ⟨fun h0 => (by rw [hr] at h0; rw [h0] at hne; cases hne), fun i hi => h i (hr ▸ hi) a w ha hd he hm⟩
theorem Rb {S : World → Prop} {fuel : Nat} {listed : Array Bool} (i j : Nat) (hc : decide (Region.ready .any ops listed = [i, j]) = true)
  (h1 : Ll P f n I₀ Q ops S fuel listed i k E I L) (h2 : Ll P f n I₀ Q ops S fuel listed j k E I L) : Be P f n I₀ Q ops S (fuel + 1) listed k E I L :=
 Rm [i, j] hc rfl fun x hx => by
  simp only [List.mem_cons, List.not_mem_nil, or_false] at hx
  rcases hx with rfl | rfl
  ·exact h1
  ·exact h2
theorem Rd {S : World → Prop} {fuel : Nat} {listed : Array Bool} (i : Nat) {o : Oper} (hi : ops[i]? = some o)
  {a : Act} {w : World} (hw : Region.wanted o (yielded ops a.tmps) = true)
  (h : o.wp P a w (fun a' w' => Jn ops S (listed.setIfInBounds i true) w' ∧ Jo P ops (QK P f n I₀ Q k) S fuel (listed.setIfInBounds i true) a' w') (QK P f n I₀ Q k)) :
  wpOp P ops (QK P f n I₀ Q k) i (fun a' w' => Jn ops S (listed.setIfInBounds i true) w' ∧ Jo P ops (QK P f n I₀ Q k) S fuel (listed.setIfInBounds i true) a' w') a w := by
 unfold wpOp
 simp only [hi, hw, if_true]
 exact .inl h
theorem Nn {S : World → Prop} {fuel : Nat} {listed listed' : Array Bool} (i : Nat) {o : Oper} (hi : ops[i]? = some o) (hl : listed' = listed.setIfInBounds i true)
  (hd : o.dst = some d) (hdn : Nat.blt d n = true) (hw : ∀ a, EnvOk E a → Region.wanted o (yielded ops a.tmps) = true)
  (hx : ∀ a w, EnvOk E a → Mem I L w → ∃ v w' I' L', (execOp a.eval o).run P w = .ok (.value v) w' ∧ Mem I' L' w' ∧ (C9 ops listed' = true ∨ ∀ w, Mem I' L' w → S w) ∧ Be P f n I₀ Q ops S fuel listed' k ((d, v) :: E) I' L') :
  Ll P f n I₀ Q ops S fuel listed i k E I L := by
 intro a w ha hds he hm; obtain ⟨v, w', I', L', hrun, hm', hS, h⟩ := hx a w he hm; refine Rd i hi (hw a he) ?_
 simp only [Oper.wp, hrun, Oper.upon, hd]
 rw [← hl]
 exact ⟨hS.imp id fun h => h _ hm', h _ _ (by simp [Act.put, ha]) (by simpa [Act.put] using hds) (he.put (by rw [ha]; exact Nat.blt_eq ▸ hdn)) hm'⟩
theorem Sr {S : World → Prop} {fuel : Nat} {listed listed' : Array Bool} (i : Nat) {op : Op} {v : Value} (hi : ops[i]? = some ⟨some d, op, ty, pos, af, g⟩) (hl : listed' = listed.setIfInBounds i true)
  (hx : Dz P E (Mem I L) ⟨some d, op, ty, pos, af, g⟩ v) (hg : Wants ops E g) (hdn : Nat.blt d n = true) (hS : C9 ops listed' = true ∨ ∀ w, Mem I L w → S w)
  (h : Be P f n I₀ Q ops S fuel listed' k ((d, v) :: E) I L) : Ll P f n I₀ Q ops S fuel listed i k E I L :=
 Nn i hi hl rfl hdn (fun a he => hg.wanted a he) fun a w he hm => ⟨v, w, I, L, hx a w he hm, hm, hS, h⟩
theorem Rc {S : World → Prop} {fuel : Nat} {listed listed' : Array Bool} (i : Nat) {op : Op} {v : Value} (hi : ops[i]? = some ⟨some d, op, ty, pos, af, g⟩) (hc : decide (Region.ready .any ops listed = [i]) = true) (hl : listed' = listed.setIfInBounds i true)
  (hx : Dz P E (Mem I L) ⟨some d, op, ty, pos, af, g⟩ v) (hg : Wants ops E g) (hdn : Nat.blt d n = true) (hS : C9 ops listed' = true ∨ ∀ w, Mem I L w → S w)
  (h : Be P f n I₀ Q ops S fuel listed' k ((d, v) :: E) I L) : Be P f n I₀ Q ops S (fuel + 1) listed k E I L :=
 Ks i hi hc hl rfl hdn (fun a he => hg.wanted a he) fun a w he hm => ⟨v, w, I, L, hx a w he hm, hm, hS, h⟩
theorem Pi {S : World → Prop} {fuel : Nat} {listed listed' : Array Bool} (i : Nat) {o : Oper} {kf : FuncId} {vs : List Value} {Q' : A5} (hi : ops[i]? = some o) (hl : listed' = listed.setIfInBounds i true)
  (hd : o.dst = some d) (hdn : Nat.blt d n = true) (hw : ∀ a, EnvOk E a → Region.wanted o (yielded ops a.tmps) = true)
  (hx : ∀ a w, EnvOk E a → (execOp a.eval o).run P w = .ok (.enter kf vs.toArray) w) (hF : Fun P kf vs I L Q')
  (h : ∀ v I' L', HLe I I' → Q' v I' L' → (C9 ops listed' = true ∨ ∀ w, Mem I' L' w → S w) ∧ Be P f n I₀ Q ops S fuel listed' k ((d, v) :: E) I' L') : Ll P f n I₀ Q ops S fuel listed i k E I L := by
 intro a w ha hds he hm; refine Rd i hi (hw a he) ?_
 simp only [Oper.wp, hx a w he, Oper.upon, hd]
 refine (hF.run w hm).mono fun e w' hE => ?_
 obtain ⟨v, I', L', rfl, hle, hm', hq⟩ := hE; obtain ⟨hS, h⟩ := h v I' L' hle hq; rw [← hl]
 exact ⟨hS.imp id fun h => h _ hm', h _ _ (by simp [Act.put, ha]) (by simpa [Act.put] using hds) (he.put (by rw [ha]; exact Nat.blt_eq ▸ hdn)) hm'⟩
theorem Ph {S : World → Prop} {fuel : Nat} {listed listed' : Array Bool} (i : Nat) {kf : FuncId} {args : Array Operand} {tys : Array TypeId} {vs : List Value} {Q' : A5} {c : Code} {m : Nat} {rs : List ResultVar} [hf : A4 P kf c m rs]
  (hi : ops[i]? = some ⟨some d, .call ⟨.value (.func kf), args, tys⟩, ty, pos, af, g⟩) (hl : listed' = listed.setIfInBounds i true)
  (ha : Dy E args.toList = some vs) (hg : Wants ops E g) (hdn : Nat.blt d n = true) (hF : Fun P kf vs I L Q')
  (h : ∀ v I' L', HLe I I' → Q' v I' L' → (C9 ops listed' = true ∨ ∀ w, Mem I' L' w → S w) ∧ Be P f n I₀ Q ops S fuel listed' k ((d, v) :: E) I' L') : Ll P f n I₀ Q ops S fuel listed i k E I L :=
 Pi i hi hl rfl hdn (fun a he => hg.wanted a he) (Nf ha) hF h
theorem Rq {S : World → Prop} {fuel : Nat} {listed listed' : Array Bool} (i : Nat) {T e : TypeId} {parts : Array (Nat × Operand)} {is : List Nat} {vs us : List Value} {m : Nat} {sz bb esz ebb : Nat} {z ez : List Value} {dd : TypeDesc} [ht : Ae P T (.slice e) sz bb z] [hte : Ae P e dd esz ebb ez]
  (hi : ops[i]? = some ⟨some d, .buildSlice T m parts, ty, pos, af, g⟩) (hl : listed' = listed.setIfInBounds i true)
  (hp : parts.toList.map (·.1) = is) (ho : Dy E (parts.toList.map (·.2)) = some vs) (hr : is = List.range' 0 vs.length) (hm : vs.length = m) (hfl : Ha esz vs = some us) (hm0 : m * esz ≠ 0) (hm1 : m * esz ≤ 2 ^ 24) (hez : ez.length = esz)
  (hg : Wants ops E g) (hdn : Nat.blt d n = true) (hS : C9 ops listed' = true ∨ ∀ w, Mem I L w → S w)
  (h : ∀ b, Be P f n I₀ Q ops S fuel listed' k ((d, .slice (some ⟨b, 0, none⟩) m m) :: E) I ((b, .cells us.toArray e (0, 0)) :: L)) : Ll P f n I₀ Q ops S fuel listed i k E I L := by
 refine Nn i hi hl rfl hdn (fun a he => hg.wanted a he) fun a w he hmm => ?_
 obtain ⟨w', h1, h2⟩ := Qa (P := P) (T := T) (e := e) (d := d) (ty := ty) (pos := pos) (af := af) (g := g) hp ho hr hm hfl hm0 hm1 hez a w he hmm
 exact ⟨_, w', I, _, h1, h2, hS.imp id fun hS w hw => hS w hw.drop, h _⟩
end rules
def Ex.bare : Ex → Bool
 | .num _ => true
 | .name _ => true
 | _ => false
def Ex.norm : Ex → Bool → Bool
 | .num _, _ => true
 | .name _, _ => true
 | .bin _ a b, _ => a.bare && b.bare
 | .ite a b c, _ => a.bare && b.norm true && c.norm true
 | .lt _ a b, n => n && a.norm false && b.norm true
 | .fn _ _ _ _ b, _ => b.norm true
 | .un _ a, _ => a.bare
theorem FormAt.as {I : Heap} {t : Tree} {oa : Option Addr} {c : Nat} {oaf : Nat → Option Addr} {cf : Nat → Nat} (h : FormAt I t oa c oaf cf) (i : Nat) (u : Tree) (hi : i < t.parts.length) (hu : t.pt i = u) : Rep I u [.string (str u.atom), .slice (oaf i) u.parts.length (cf i)] := by
 subst hu; exact h.rp i hi
structure XS where
 e : Ex
 oa : Option Addr
 c : Nat
theorem Lv {I : Heap} {t : Tree} {cs : List Value} (h : Rep I t cs) (hg : t.good = true) (L : At) : Fun Tryd.prog 36 [.agg cs.toArray] I L (Cr (.string (str t.head)) I L) := by
 obtain ⟨oa, c, oaf, cf, rfl, hf⟩ := h.at'; refine Ag (by simp) ?_; refine Se rfl ?_; refine D2 rfl rfl .free rfl ?_; intro b1; refine Oa rfl (Aa (Ai (Se rfl (Oh rfl ?_)))); refine Bl rfl .free rfl ?_; refine Od rfl rfl rfl (Om rfl ?_)
 apply D6 6 11 rfl
 ·intro g1_4 hk
  try simp only [nb] at g1_4
  refine Ba rfl (.met rfl rfl) rfl ?_; refine Bl rfl (.met rfl rfl) rfl ?_; refine Co rfl (.met rfl rfl) rfl ?_; refine A6 rfl rfl rfl (.met rfl rfl) rfl ?_; refine Of rfl rfl ?_
  exact Al 4 rfl rfl hk
 ·intro _ hk; refine Aq 4 rfl ?_; refine Ot rfl rfl ?_
  exact Al 4 rfl rfl hk
 refine Aa ?_; refine Am rfl ?_ ?_
 ·intro c0
  try simp only [nb] at c0
  refine Se rfl (Oa rfl (Aa (Ac (.tmp rfl .nil) ?_))); refine only rfl ?_
  have : t.parts = [] := by
   rcases t.good_cases hg with hh | hh
   ·exact hh.1
   ·rcases c0 with h | h
    ·exact absurd hh.2 h
    ·exact List.length_eq_zero_iff.1 (by omega)
  simp [Bj, Tree.head, this]
 intro c0
 try simp only [nb] at c0
 have h0 : 0 < t.parts.length := by omega
 refine Aj (Se rfl (Oh rfl ?_)); refine Bl rfl .free rfl ?_
 first | refine E1 rfl rfl 0 rfl .free rfl ?_ | refine E2 rfl rfl 0 rfl .free rfl ?_
 refine B9 rfl .free rfl ?_; refine Kc rfl .free rfl ?_; refine Oa rfl (Aa (Ac (.tmp rfl .nil) ?_)); refine only rfl ?_; rw [Gj h0]; rfl
section rules
variable {P : Program} {f : FuncId} {n : Nat} {I₀ : Heap} {Q : A5} {k : List Item} {E : D3} {I : Heap} {L : At}
variable {ops : Array Oper} {d : Nat} {ty : TypeId} {pos : String} {af : Array Edge} {g : Option (Nat × Bool)} {l : List Oper}
end rules

def Ee (oaf : Nat → Option Addr) (cf : Nat → Nat) : Nat → List Tree → List Value
 | _, [] => []
 | k, t :: ts => .string (str t.atom) :: .slice (oaf k) t.parts.length (cf k) :: Ee oaf cf (k + 1) ts
theorem G4 {f f' : Nat → Option Addr} {g g' : Nat → Nat} : ∀ (ts : List Tree) (k : Nat), (∀ i, k ≤ i → f i = f' i ∧ g i = g' i) → Ee f g k ts = Ee f' g' k ts
 | [], _, _ => rfl
 | t :: ts, k, h => by
  simp only [Ee]
  rw [(h k (Nat.le_refl _)).1, (h k (Nat.le_refl _)).2, G4 ts (k + 1) (fun i hi => h i (by omega))]
theorem RepL.cells {I : Heap} : ∀ {ts : List Tree} {vs : List Value} (k : Nat), RepL I ts vs → ∃ oaf cf, vs = Ee oaf cf k ts
 | _, _, k, .nil => ⟨fun _ => none, fun _ => 0, rfl⟩
 | _, _, k, .cons (ts := ts) h hs => by
  obtain ⟨f, g, rfl⟩ := RepL.cells (k + 1) hs; obtain ⟨oa, c, vs, he, _⟩ := h.open
  simp only [List.cons.injEq, and_true] at he
  obtain ⟨rfl, rfl⟩ := he; refine ⟨fun i => if i = k then oa else f i, fun i => if i = k then c else g i, ?_⟩
  simp only [Ee, if_true]
  congr 2
  exact G4 ts (k + 1) (fun i hi => by rw [if_neg (by omega), if_neg (by omega)]; exact ⟨rfl, rfl⟩)
theorem Is {f : Nat → Option Addr} {g : Nat → Nat} : ∀ (ts : List Tree) (k i : Nat) (hi : i < ts.length), (Ee f g k ts)[i * 2]? = some (.string (str ts[i].atom)) ∧ (Ee f g k ts)[i * 2 + 1]? = some (.slice (f (k + i)) ts[i].parts.length (g (k + i)))
 | [], _, _, hi => by simp at hi
 | t :: ts, k, 0, _ => ⟨rfl, rfl⟩
 | t :: ts, k, i + 1, hi => by
  obtain ⟨h1, h2⟩ := Is (f := f) (g := g) ts (k + 1) i (by simpa using hi); refine ⟨?_, ?_⟩
  ·rw [show (i + 1) * 2 = i * 2 + 1 + 1 by omega]; simpa [Ee] using h1
  ·rw [show (i + 1) * 2 + 1 = i * 2 + 1 + 1 + 1 by omega, show k + (i + 1) = k + 1 + i by omega]; simpa [Ee] using h2
theorem Rep.cells {I : Heap} {t : Tree} {cs : List Value} (h : Rep I t cs) : ∃ oa c oaf cf, cs = [.string (str t.atom), .slice oa t.parts.length c] ∧ FormAt I t oa c oaf cf ∧ RepL I t.parts (Ee oaf cf 0 t.parts) ∧ (∀ x, oa = some x → Still I x (Ee oaf cf 0 t.parts)) := by
 obtain ⟨oa, c, vs, rfl, hl, hs, hn, hc, ha, hp⟩ := h.open; obtain ⟨oaf, cf, rfl⟩ := hl.cells 0; refine ⟨oa, c, oaf, cf, rfl, ⟨h, fun i hi => ?_, fun e => by rw [hn e]; rfl, hp, ha, hc⟩, hl, hs⟩; obtain ⟨c1, c2, h1, h2, h3⟩ := hl.get i hi; obtain ⟨h4, h5⟩ := Is (f := oaf) (g := cf) t.parts 0 i hi; rw [h4] at h2; rw [h5, Nat.zero_add] at h3
 cases h2; cases h3
 rw [Tree.pt_at hi]; obtain ⟨x, rfl⟩ : ∃ x, oa = some x := by
  cases oa with
  | none => have := hn rfl; rw [this] at hi; simp at hi
  | some x => exact ⟨x, rfl⟩
 refine ⟨h1, (hs x rfl).part (i * 2) ?_⟩; intro j hj
 match j, hj with
 | 0, _ => simpa using h4
 | 1, _ => simpa using h5

def CL (e : TypeId) (vs : List Value) (n : Nat) (I : Heap) (L : At) : A5 := fun v I' L' => ∃ b sp c, v = .slice (some ⟨b, 0, none⟩) n c ∧ n ≤ c ∧ I = I' ∧ L' = (b, .cells (vs ++ sp).toArray e (0, 0)) :: L
mutual
def Tree.dec : (t u : Tree) → Decidable (t = u)
 | .node a ps, .node b qs => if h : a = b then (match Sm ps qs with
   | isTrue h' => isTrue (by rw [h, h'])
   | isFalse h' => isFalse (fun e => h' (Tree.node.inj e).2)) else isFalse (fun e => h (Tree.node.inj e).1)
def Sm : (ps qs : List Tree) → Decidable (ps = qs)
 | [], [] => isTrue rfl
 | [], _ :: _ => isFalse (by simp)
 | _ :: _, [] => isFalse (by simp)
 | t :: ts, u :: us => match Tree.dec t u, Sm ts us with
  | isTrue h, isTrue h' => isTrue (by rw [h, h'])
  | isFalse h, _ => isFalse (fun e => h (List.cons.inj e).1)
  | _, isFalse h => isFalse (fun e => h (List.cons.inj e).2)
end
instance : DecidableEq Tree := Tree.dec

abbrev Nx := List (Af × Ex)
def Qq : Nx → Ex → Ex
 | [], f => f
 | (x, e) :: bs, f => .lt x e (Qq bs f)
def I5 (b : Bool) (s : Af) : Option Ex := match G7 s with
 | some e => if e.norm b = true then some e else none
 | none => none
def Rp (b : Bool) (s : Af) : Bool := (I5 b s).isSome
def Ry (x s : Af) : Af × Ex := (x, (I5 false s).getD (.num []))
def Ns (l m : List Af) : Nx := l.zipWith Ry m
def Tn (l m : List Af) (s : Af) : Option Af := match I5 true s with
 | none => none
 | some f => if l.length = m.length ∧ l.all Bq = true ∧ m.all (Rp false) = true ∧ (Qq (Ns l m) f).fine = true then some (Qq (Ns l m) f).tree.text else none

def T0 (bs : Nx) : Prop := ∀ p ∈ bs, Bq p.1 = true ∧ p.2.ok = true ∧ p.2.norm false = true ∧ p.2.tree.len ≤ 12000
def RN (p : Option Ex) (L : At) : A5 := RX p L
/- Bindings in memory. -/
inductive BindL : Heap → Nx → List Value → Prop
 | nil {I : Heap} : BindL I [] []
 | cons {I : Heap} {x : Af} {e : Ex} {bs : Nx} {c1 c2 : Value} {vs : List Value} (hx : x.length ≤ As) (h : Rep I e.tree [c1, c2]) (hs : BindL I bs vs) : BindL I ((x, e) :: bs) (.string (str x) :: c1 :: c2 :: vs)
theorem BindL.mono {I I' : Heap} (hle : HLe I I') {bs : Nx} {vs : List Value} (h : BindL I bs vs) : BindL I' bs vs := by
 induction h with
 | nil => exact .nil
 | cons hx h _ ih => exact .cons hx (h.mono hle) ih
theorem BindL.length {I : Heap} {bs : Nx} {vs : List Value} (h : BindL I bs vs) : vs.length = bs.length * 3 := by
 induction h with
 | nil => rfl
 | cons hx h _ ih => simp [ih]; omega
theorem BindL.plain {I : Heap} {bs : Nx} {vs : List Value} (h : BindL I bs vs) : vs.all Bc = true := by
 induction h with
 | nil => rfl
 | cons hx h _ ih =>
  have h2 := h.vals
  simp only [List.all_cons, List.all_nil, Bool.and_true, Bool.and_eq_true] at h2 ⊢
  exact ⟨rfl, h2.1, h2.2, ih⟩
theorem BindL.append {I : Heap} {bs cs : Nx} {vs ws : List Value} (h : BindL I bs vs) (h' : BindL I cs ws) : BindL I (bs ++ cs) (vs ++ ws) := by
 induction h with
 | nil => exact h'
 | cons hx h _ ih => exact .cons hx h ih
theorem BindL.get {I : Heap} {bs : Nx} {vs : List Value} (h : BindL I bs vs) : ∀ i (hi : i < bs.length), ∃ c1 c2, Rep I bs[i].2.tree [c1, c2] ∧ bs[i].1.length ≤ As ∧ vs[i * 3]? = some (.string (str bs[i].1)) ∧ vs[i * 3 + 1]? = some c1 ∧ vs[i * 3 + 2]? = some c2 := by
 induction h with
 | nil => intro i hi; simp at hi
 | @cons x e bs c1 c2 vs hx h hs ih =>
  intro i hi
  cases i with
  | zero => exact ⟨c1, c2, h, hx, rfl, rfl, rfl⟩
  | succ i =>
   obtain ⟨d1, d2, h1, h2, h3, h4, h5⟩ := ih i (by simpa using hi); refine ⟨d1, d2, by simpa using h1, by simpa using h2, ?_, ?_, ?_⟩
   ·rw [show (i + 1) * 3 = i * 3 + 1 + 1 + 1 by omega]; simpa using h3
   ·rw [show (i + 1) * 3 + 1 = i * 3 + 1 + 1 + 1 + 1 by omega]; simpa using h4
   ·rw [show (i + 1) * 3 + 2 = i * 3 + 2 + 1 + 1 + 1 by omega]; simpa using h5
structure Binds (I : Heap) (oa : Option Addr) (bs : Nx) (c : Nat) : Prop where
 rep : ∃ vs, BindL I bs vs ∧ ∀ x, oa = some x → Still I x vs
 nil : oa = none → bs.length = 0
 cap : bs.length ≤ c
 len : bs.length ≤ As
theorem Binds.mono {I I' : Heap} (hle : HLe I I') {oa : Option Addr} {bs : Nx} {c : Nat} (h : Binds I oa bs c) : Binds I' oa bs c := by
 obtain ⟨⟨vs, h1, h2⟩, h3, h4, h5⟩ := h
 exact ⟨⟨vs, h1.mono hle, fun x hx => (h2 x hx).mono hle⟩, h3, h4, h5⟩
theorem Binds.at {I : Heap} {oa : Option Addr} {bs : Nx} {c : Nat} (h : Binds I oa bs c) (i : Nat) (hi : i < bs.length) :
  ∃ ob d, Rep I bs[i].2.tree [.string (str bs[i].2.tree.atom), .slice ob bs[i].2.tree.parts.length d] ∧ bs[i].1.length ≤ As ∧
   Still I ((K8 oa).add (i * 3)) [.string (str bs[i].1), .string (str bs[i].2.tree.atom), .slice ob bs[i].2.tree.parts.length d] := by
 obtain ⟨⟨vs, h1, h2⟩, h3, h4, h5⟩ := h; obtain ⟨c1, c2, r, hx, e1, e2, e3⟩ := h1.get i hi; obtain ⟨ob, d, ws, he, _⟩ := r.open
 simp only [List.cons.injEq, and_true] at he
 obtain ⟨rfl, rfl⟩ := he; obtain ⟨y, rfl⟩ : ∃ y, oa = some y := by
  cases oa with
  | none => have := h3 rfl; omega
  | some y => exact ⟨y, rfl⟩
 refine ⟨ob, d, r, hx, (h2 y rfl).part (i * 3) ?_⟩; intro j hj
 match j, hj with
 | 0, _ => simpa using e1
 | 1, _ => simpa using e2
 | 2, _ => simpa using e3
structure YS where
 I : Heap
 k : Nat
 oa : Option Addr
 c : Nat
end Go.Proofs.YtbmgbhfeifgciaaDoor

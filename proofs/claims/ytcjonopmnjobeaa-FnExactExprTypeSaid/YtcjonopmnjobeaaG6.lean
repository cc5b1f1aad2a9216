/- Literals and blocks that become still, in regions that draw their order. No conditions. -/
import Derived.Test.YtcjonopmnjobeaaG5
namespace Go.Proofs.Ytcjonopmnjobeaa
set_option maxRecDepth 100000
set_option linter.unusedVariables false
set_option linter.unusedSimpArgs false

section rules
variable {P : Program} {f : FuncId} {n : Nat} {I₀ : Heap} {Q : Post} {k : List Item} {E : Env} {I : Heap} {L : Own}
variable {ops : Array Oper} {d : Nat} {ty : TypeId} {pos : String} {af : Array Edge} {g : Option (Nat × Bool)} {l : List Oper}
theorem x_lits {T e : TypeId} {parts : Array (Nat × Operand)} {is : List Nat} {vs us : List Value} {m : Nat} {sz bb esz ebb : Nat} {z ez : List Value} {dd : TypeDesc} [ht : TyIs P T (.slice e) sz bb z] [hte : TyIs P e dd esz ebb ez]
    (hp : parts.toList.map (·.1) = is) (ho : opds E (parts.toList.map (·.2)) = some vs) (hr : is = List.range' 0 vs.length) (hm : vs.length = m) (hfl : flatN esz vs = some us) (hm0 : m * esz ≠ 0) (hm1 : m * esz ≤ 2 ^ 24) (hez : ez.length = esz)
    (a : Act) (w : World) (he : EnvOk E a) (hmm : Mem I L w) :
    ∃ w', (execOp a.eval ⟨some d, .buildSlice T m parts, ty, pos, af, g⟩).run P w = .ok (.value (.slice (some ⟨w.heap.size, 0, none⟩) m m)) w' ∧ Mem I ((w.heap.size, .cells us.toArray e (0, 0)) :: L) w' := by
  have hfill : Instr.fill (fun i => some (i * esz, esz)) ((Array.range (m * esz)).map (ez.toArray[· % ez.toArray.size]!)) (is.zip vs) = some us.toArray := by
    rw [hr]
    have := flat_fill (esz := esz) 0 [] (((Array.range (m * esz)).map (ez.toArray[· % ez.toArray.size]!)).toList) hfl (by simp) (by simp [hm])
    rw [List.nil_append, List.nil_append, Array.toArray_toList] at this
    exact this
  refine ⟨{ w with heap := w.heap.push (.cells us.toArray e (0, 0)) }, ?_, hmm.alloc _⟩
  have h1 : parts.map (fun (i, x) => (i, a.eval x)) = (is.zip vs).toArray := by
    apply Array.ext'
    have := he.evals ho
    rw [← hp, ← this]
    simp [List.zip_map', Function.comp_def]
  simp only [execOp]
  rw [h1]
  refine run_bind_ok (a := .slice (some ⟨w.heap.size, 0, none⟩) m m) (w' := { w with heap := w.heap.push (.cells us.toArray e (0, 0)) }) ?_ |>.trans rfl
  unfold Instr.buildSlice
  rw [run_bind_ok (run_underlying ht.und w)]
  simp only []
  rw [run_bind_ok (run_sizeOf hte w)]
  rw [if_neg (by omega), if_neg hm0]
  obtain ⟨zv, hz1, hz2⟩ := run_zero hte w
  have hz3 : zv.cells = ez.toArray := by rw [← hz2]
  simp only [bind_assoc, pure_bind]
  rw [run_bind_ok hz1, hz3]
  rw [hfill]
  rfl
theorem d_lits {S : World → Prop} {fuel : Nat} {listed listed' : Array Bool} (i : Nat) {T e : TypeId} {parts : Array (Nat × Operand)} {is : List Nat} {vs us : List Value} {m : Nat} {sz bb esz ebb : Nat} {z ez : List Value} {dd : TypeDesc} [ht : TyIs P T (.slice e) sz bb z] [hte : TyIs P e dd esz ebb ez]
    (hi : ops[i]? = some ⟨some d, .buildSlice T m parts, ty, pos, af, g⟩) (hc : decide (Region.ready .any ops listed = [i]) = true) (hl : listed' = listed.setIfInBounds i true)
    (hp : parts.toList.map (·.1) = is) (ho : opds E (parts.toList.map (·.2)) = some vs) (hr : is = List.range' 0 vs.length) (hm : vs.length = m) (hfl : flatN esz vs = some us) (hm0 : m * esz ≠ 0) (hm1 : m * esz ≤ 2 ^ 24) (hez : ez.length = esz)
    (hg : Wants ops E g) (hdn : Nat.blt d n = true) (hS : heldB ops listed' = true ∨ ∀ w, Mem I L w → S w)
    (h : ∀ b, RunW P f n I₀ Q ops S fuel listed' k ((d, .slice (some ⟨b, 0, none⟩) m m) :: E) I ((b, .cells us.toArray e (0, 0)) :: L)) : RunW P f n I₀ Q ops S (fuel + 1) listed k E I L := by
  refine d_stepX i hi hc hl rfl hdn (fun a he => hg.wanted a he) fun a w he hmm => ?_
  obtain ⟨w', h1, h2⟩ := x_lits (P := P) (T := T) (e := e) (d := d) (ty := ty) (pos := pos) (af := af) (g := g) hp ho hr hm hfl hm0 hm1 hez a w he hmm
  exact ⟨_, w', I, _, h1, h2, hS.imp id fun hS w hw => hS w hw.drop, h _⟩
theorem d_freeze {S : World → Prop} {fuel : Nat} {listed : Array Bool} {b : Nat} {o : Obj} (h : HLe I (I.set b o) → RunW P f n I₀ Q ops S fuel listed k E (I.set b o) L) : RunW P f n I₀ Q ops S fuel listed k E I ((b, o) :: L) :=
  fun a w ha hd he hm => h hm.freeze.2 a w ha hd he hm.freeze.1
theorem d_mem {S : World → Prop} {fuel : Nat} {listed : Array Bool} {I' : Heap} {L' : Own} (hm : ∀ w, Mem I L w → Mem I' L' w) (h : RunW P f n I₀ Q ops S fuel listed k E I' L') : RunW P f n I₀ Q ops S fuel listed k E I L :=
  fun a w ha hd he hw => h a w ha hd he (hm w hw)
end rules

/-- A list of forms in still memory. -/
structure Forms (I : Heap) (oa : Option Addr) (ts : List Tree) (c : Nat) : Prop where
  rep : ∃ vs, RepL I ts vs ∧ ∀ x, oa = some x → Still I x vs
  nil : oa = none → ts = []
  cap : ts.length ≤ c
  len : ts.length ≤ maxN
theorem Forms.mono {I I' : Heap} (hle : HLe I I') {oa : Option Addr} {ts : List Tree} {c : Nat} (h : Forms I oa ts c) : Forms I' oa ts c := by
  obtain ⟨⟨vs, h1, h2⟩, h3, h4, h5⟩ := h
  exact ⟨⟨vs, h1.mono hle, fun x hx => (h2 x hx).mono hle⟩, h3, h4, h5⟩
theorem Forms.form {I : Heap} {oa : Option Addr} {ts : List Tree} {c : Nat} (h : Forms I oa ts c) (a : Txt) (ha : a.length ≤ maxN) : Rep I (.node a ts) [.string (str a), .slice oa ts.length c] := by
  obtain ⟨⟨vs, h1, h2⟩, h3, h4, h5⟩ := h
  exact .mk h1 h2 h3 h4 ha h5
theorem FormAt.forms {I : Heap} {t : Tree} {oa : Option Addr} {c : Nat} {oaf : Nat → Option Addr} {cf : Nat → Nat} (h : FormAt I t oa c oaf cf) : Forms I oa t.parts c := by
  obtain ⟨oa', c', vs, he, hl, hs, hn, hc, ha, hp⟩ := h.rep.open
  simp only [List.cons.injEq, Value.slice.injEq, and_true, true_and] at he
  obtain ⟨rfl, rfl⟩ := he
  exact ⟨⟨vs, hl, hs⟩, hn, hc, hp⟩
/-- What a literal or an 'append' has made becomes still. -/
theorem forms_lit {I : Heap} {b : Nat} {ts : List Tree} {vs sp : List Value} {e : TypeId} {fr : Nat × Nat} {c : Nat} (hl : RepL I ts vs) (hle : HLe I (I.set b (.cells (vs ++ sp).toArray e fr))) (hc : ts.length ≤ c) (hn : ts.length ≤ maxN) :
    Forms (I.set b (.cells (vs ++ sp).toArray e fr)) (some ⟨b, 0, none⟩) ts c :=
  ⟨⟨vs, hl.mono hle, fun y hy => by cases hy; exact still_set⟩, by simp, hc, hn⟩
theorem forms_lit0 {I : Heap} {b : Nat} {ts : List Tree} {vs : List Value} {e : TypeId} {fr : Nat × Nat} {c : Nat} (hl : RepL I ts vs) (hle : HLe I (I.set b (.cells vs.toArray e fr))) (hc : ts.length ≤ c) (hn : ts.length ≤ maxN) :
    Forms (I.set b (.cells vs.toArray e fr)) (some ⟨b, 0, none⟩) ts c := by
  have := forms_lit (sp := []) (e := e) (fr := fr) (b := b) hl (by simpa using hle) hc hn
  simpa using this
theorem RepL.one {I : Heap} {t : Tree} {cs : List Value} (h : Rep I t cs) : RepL I [t] cs := by
  obtain ⟨oa, c, vs, rfl, _⟩ := h.open
  exact .cons h .nil
theorem Rep.vals {I : Heap} {t : Tree} {cs : List Value} (h : Rep I t cs) : cs.all plainCell = true := by
  obtain ⟨oa, c, vs, rfl, _⟩ := h.open; rfl
theorem RepL.two {I : Heap} {t u : Tree} {cs ds : List Value} (h : Rep I t cs) (h' : Rep I u ds) : RepL I [t, u] (cs ++ ds) := (RepL.one h).append (.one h')
theorem RepL.three {I : Heap} {t u v : Tree} {cs ds es : List Value} (h : Rep I t cs) (h' : Rep I u ds) (h'' : Rep I v es) : RepL I [t, u, v] (cs ++ (ds ++ es)) := (RepL.one h).append ((RepL.one h').append (.one h''))

def RP (t : Tree) (L : Own) : Post := fun v I' L' => ∃ cs, v = .agg (List.toArray cs) ∧ Rep I' t cs ∧ L = L'
theorem f_atom (s : Txt) (hs : s.length ≤ maxN) (I : Heap) (L : Own) : Fun Try.prog 56 [.string (str s)] I L (Only (.agg [.string (str s), .slice none 0 0].toArray) I L) := by
  refine fun_intro (by simp) ?_
  refine s_seq ?_
  refine o_enter rfl ?_
  refine o_alloc .free rfl ?_
  intro b2
  refine o_done ?_
  refine s_seq ?_
  refine o_enter rfl ?_
  refine o_move rfl .free rfl ?_
  refine o_struct rfl rfl rfl .free rfl ?_
  refine o_st rfl rfl rfl rfl .free ?_
  refine o_done ?_
  refine s_ret (.cell rfl (by first | exact loads_still1 (by assumption) rfl | exact loads_ownS (by first | exact m0 | exact m1 | exact m2 | exact m3 | exact m4 | exact m5 | exact m6 | exact List.mem_append_right _ m0 | exact List.mem_append_right _ m1 | exact List.mem_append_right _ m2 | exact List.mem_append_right _ m3 | exact .tail _ (List.mem_append_right _ m0) | exact .tail _ (List.mem_append_right _ m1) | exact .tail _ (List.mem_append_right _ m2) | exact .tail _ (List.mem_append_right _ m3)) (by rfl) | exact loads_own1 (by first | exact m0 | exact m1 | exact m2 | exact m3 | exact m4 | exact m5 | exact m6 | exact List.mem_append_right _ m0 | exact List.mem_append_right _ m1 | exact List.mem_append_right _ m2 | exact List.mem_append_right _ m3 | exact .tail _ (List.mem_append_right _ m0) | exact .tail _ (List.mem_append_right _ m1) | exact .tail _ (List.mem_append_right _ m2) | exact .tail _ (List.mem_append_right _ m3)) (by rfl) rfl | exact loads_stillS (by assumption) (by rfl) | exact loads_stillF (by assumption) (by rfl) rfl) .nil) ?_
  refine done_only rfl (by intro _ h; first | exact h | exact dr1 h | exact dr2 h | exact dr3 h | exact dr4 h | exact dr5 h | exact dr6 h | exact dr6 h.drop | exact dr6 h.drop.drop | exact dr6 h.drop.drop.drop) ?_
  rfl
theorem f_headed (s : Txt) (hs : s.length ≤ maxN) {I : Heap} {oa : Option Addr} {ps : List Tree} {c : Nat} (h : Forms I oa ps c) (hp : ps.length < maxN) (L : Own) :
    Fun Try.prog 53 [.string (str s), .slice oa ps.length c] I L (RP (.node [] (.node s [] :: ps)) L) := by
  obtain ⟨⟨vs, hl, hst⟩, hn, hc, hlen⟩ := h
  unfold maxN at hp
  have hvl := hl.length
  refine fun_intro (by simp) ?_
  refine s_seq ?_
  refine o_enter rfl ?_
  refine o_alloc .free rfl ?_
  intro b4
  refine o_done ?_
  refine s_seq ?_
  refine o_enter rfl ?_
  refine o_move rfl .free rfl ?_
  refine o_call rfl .free rfl (f_atom s hs _ _) ?_
  rintro _ _ _ _ ⟨rfl, rfl, rfl⟩
  refine o_lits rfl rfl (by rfl) (by rfl) (by rfl) (by decide) (by decide) (by rfl) .free rfl ?_
  intro b7
  refine o_move rfl .free rfl ?_
  refine o_appendB (B := some (b7, [])) (xs := [.string (str s), .slice none 0 0]) (ys := vs) (m := 1) (c := 1) (L₀ := (b4, _) :: L) (by intro kk; simp) (by rfl) rfl rfl ⟨rfl, Nat.le_refl _, rfl⟩ (fun _ h => h) (by omega) (fun a ha => (hst a ha).reads) (fun ha => by rw [hn ha] at hvl; exact List.length_eq_zero_iff.1 (by simpa using hvl)) hl.plain (by decide) (by omega) (by decide) .free rfl ?_
  intro B' c' hB'
  obtain ⟨⟨bb, sp⟩, rfl⟩ : ∃ p, B' = some p := by
    cases B' with
    | none => exact absurd hB'.1 (by simp)
    | some p => exact ⟨p, rfl⟩
  simp only [bufOwn, List.cons_append, List.nil_append]
  refine o_struct rfl rfl rfl .free rfl ?_
  refine o_st rfl rfl rfl rfl .free ?_
  refine o_done ?_
  refine s_freeze ?_
  intro hz
  refine s_ret (.cell rfl (by first | exact loads_still1 (by assumption) rfl | exact loads_ownS (by first | exact m0 | exact m1 | exact m2 | exact m3 | exact m4 | exact m5 | exact m6 | exact List.mem_append_right _ m0 | exact List.mem_append_right _ m1 | exact List.mem_append_right _ m2 | exact List.mem_append_right _ m3 | exact .tail _ (List.mem_append_right _ m0) | exact .tail _ (List.mem_append_right _ m1) | exact .tail _ (List.mem_append_right _ m2) | exact .tail _ (List.mem_append_right _ m3)) (by rfl) | exact loads_own1 (by first | exact m0 | exact m1 | exact m2 | exact m3 | exact m4 | exact m5 | exact m6 | exact List.mem_append_right _ m0 | exact List.mem_append_right _ m1 | exact List.mem_append_right _ m2 | exact List.mem_append_right _ m3 | exact .tail _ (List.mem_append_right _ m0) | exact .tail _ (List.mem_append_right _ m1) | exact .tail _ (List.mem_append_right _ m2) | exact .tail _ (List.mem_append_right _ m3)) (by rfl) rfl | exact loads_stillS (by assumption) (by rfl) | exact loads_stillF (by assumption) (by rfl) rfl) .nil) ?_
  refine ⟨_, L, hz, (by intro _ h; first | exact h | exact dr1 h | exact dr2 h | exact dr3 h | exact dr4 h | exact dr5 h | exact dr6 h | exact dr6 h.drop | exact dr6 h.drop.drop | exact dr6 h.drop.drop.drop), _, rfl, .mk' (by simp; omega) ((RepL.cons (.ofAtom hs) hl).mono hz) (fun y hy => by cases hy; exact still_set) (by simp) hB'.2.1 (by simp [maxN]) (by unfold maxN; omega), rfl⟩
end Go.Proofs.Ytcjonopmnjobeaa


/- The library's Index, Contains, Grow, Concat and Clone of slices. No conditions. -/
namespace Go.Proofs.Ytcjonopmnjobeaa
set_option maxRecDepth 100000
set_option linter.unusedVariables false
set_option linter.unusedSimpArgs false

section rules
variable {P : Program} {f : FuncId} {n : Nat} {I₀ : Heap} {Q : Post} {k : List Item} {E : Env} {I : Heap} {L : Own}
variable {ops : Array Oper} {d : Nat} {ty : TypeId} {pos : String} {af : Array Edge} {g : Option (Nat × Bool)} {l : List Oper}
theorem y_cap_slice {S : World → Prop} {x : Operand} {ad : Option Addr} {m c : Nat} {e T : TypeId} {sz bb : Nat} {z : List Value} [ht : TyIs P T (.slice e) sz bb z] (hx : opd E x = some (.slice ad m c)) : Yld P E S ⟨some d, .call ⟨.builtin .cap, #[x], #[T]⟩, ty, pos, af, g⟩ (.int .i64 (c : Nat)) := fun a w he _ => by
    simp only [execOp, resolve, List.map_toArray, List.map, he.eval hx]
    simp only [pure_bind, invoke, builtin, Builtin.cap_]
    refine run_bind_ok (a := _) (w' := w) ?_ |>.trans rfl
    simp only [List.getElem?_toArray, List.getElem?_cons_zero]
    rw [run_bind_ok (run_underlying ht.und w)]
    rfl
theorem o_cap_slice {x : Operand} {ad : Option Addr} {m c : Nat} {e T : TypeId} {sz bb : Nat} {z : List Value} [ht : TyIs P T (.slice e) sz bb z] (hx : opd E x = some (.slice ad m c)) (hg : Wants ops E g) (hdn : Nat.blt d n = true)
    (h : RunO P f n I₀ Q ops l k ((d, .int .i64 (c : Nat)) :: E) I L) : RunO P f n I₀ Q ops (⟨some d, .call ⟨.builtin .cap, #[x], #[T]⟩, ty, pos, af, g⟩ :: l) k E I L := o_yld (y_cap_slice hx) hg hdn h
theorem y_makeFunc {S : World → Prop} {kf : FuncId} {fst cap : Array Operand} {vs us : List Value} (hf : opds E fst.toList = some vs) (hc : opds E cap.toList = some us) : Yld P E S ⟨some d, .makeFunc (.func kf) fst cap, ty, pos, af, g⟩ (.func (.func kf) vs.toArray us.toArray) := fun a w he _ => by
    have h1 : fst.map a.eval = vs.toArray := Array.ext' (by simpa using he.evals hf)
    have h2 : cap.map a.eval = us.toArray := Array.ext' (by simpa using he.evals hc)
    simp only [execOp, h1, h2]
    rfl
theorem o_makeFunc {kf : FuncId} {fst cap : Array Operand} {vs us : List Value} (hf : opds E fst.toList = some vs) (hc : opds E cap.toList = some us) (hg : Wants ops E g) (hdn : Nat.blt d n = true)
    (h : RunO P f n I₀ Q ops l k ((d, .func (.func kf) vs.toArray us.toArray) :: E) I L) : RunO P f n I₀ Q ops (⟨some d, .makeFunc (.func kf) fst cap, ty, pos, af, g⟩ :: l) k E I L := o_yld (y_makeFunc hf hc) hg hdn h
theorem x_appendB {T T2 e : TypeId} {sz bb esz ebb sz2 bb2 : Nat} {z ez z2 : List Value} {dd dd2 : TypeDesc} [ht : TyIs P T (.slice e) sz bb z] [hte : TyIs P e dd esz ebb ez] [ht2 : TyIs P T2 dd2 sz2 bb2 z2]
    {x y : Operand} {B : Buf} {xs ys : List Value} {m c : Nat} {ad2 : Option Addr} {m2 c2 : Nat} {L₀ : Own} (hni : ∀ kk, dd2 ≠ .int kk) (hez : ez.length = esz)
    (hx : opd E x = some (bufVal m c B)) (hy : opd E y = some (.slice ad2 m2 c2)) (hB : BufOk esz m c xs B) (hL : ∀ w, Mem I L w → Mem I (bufOwn e xs B ++ L₀) w)
    (hyl : ys.length = m2 * esz) (hyr : ∀ a, ad2 = some a → Reads I L₀ a ys) (hyn : ad2 = none → ys = []) (hyp : ys.all plainCell = true) (hesz : 0 < esz)
    (hsize : (m + m2) ≤ 4294967296) (hbytes : ebb ≤ 1024) (a : Act) (w : World) (he : EnvOk E a) (hm : Mem I L w) :
    ∃ w' B' c', (execOp a.eval ⟨some d, .call ⟨.builtin .append, #[x, y], #[T, T2]⟩, T, pos, af, g⟩).run P w = .ok (.value (bufVal (m + m2) c' B')) w' ∧ BufOk esz (m + m2) c' (xs ++ ys) B' ∧ Mem I (bufOwn e (xs ++ ys) B' ++ L₀) w' := by
  by_cases hm2 : 0 < m2
  · obtain ⟨w', B', c', hr, hne, hB', hm'⟩ := run_append (x := .slice ad2 m2 c2) ht hte hez ht2.und hni hB (hL w hm) hyl (fun _ => rfl) (fun w hw => run_firstCells hw hyl hyr hyn) hyp hm2 hesz hsize hbytes
    refine ⟨w', B', c', ?_, hB', hm'⟩
    simp only [execOp, resolve, List.map_toArray, List.map, he.eval hx, he.eval hy, pure_bind, invoke, builtin]
    exact run_bind_ok hr |>.trans rfl
  · obtain rfl : m2 = 0 := by omega
    obtain rfl : ys = [] := List.eq_nil_of_length_eq_zero (by simpa using hyl)
    have hv : ∃ base cc, bufVal m c B = .slice base m cc ∧ m ≤ cc ∧ cc = c := by
      cases B with
      | none => obtain ⟨h1, h2, h3⟩ := hB; exact ⟨none, 0, by simp [bufVal, h2], by omega, h3.symm⟩
      | some p => exact ⟨_, c, rfl, hB.2.1, rfl⟩
    obtain ⟨base, cc, hbv, hmc, rfl⟩ := hv
    have := run_append0 (P := P) (T2 := T2) (base := base) (x := .slice ad2 0 c2) (w := w) ht hte ht2.und hni hmc rfl (run_firstCells (hL w hm) hyl (fun a _ v _ i hi => absurd hi (by simp)) hyn)
    refine ⟨w, B, cc, ?_, by simpa using hB, by simpa using hL w hm⟩
    simp only [execOp, resolve, List.map_toArray, List.map, he.eval hx, he.eval hy, pure_bind, invoke, builtin, hbv, Nat.add_zero]
    exact run_bind_ok this |>.trans rfl
theorem d_appendB {S : World → Prop} {fuel : Nat} {listed listed' : Array Bool} (i : Nat) {T T2 e : TypeId} {sz bb esz ebb sz2 bb2 : Nat} {z ez z2 : List Value} {dd dd2 : TypeDesc} [ht : TyIs P T (.slice e) sz bb z] [hte : TyIs P e dd esz ebb ez] [ht2 : TyIs P T2 dd2 sz2 bb2 z2]
    {x y : Operand} {B : Buf} {xs ys : List Value} {m c : Nat} {ad2 : Option Addr} {m2 c2 : Nat} {L₀ : Own}
    (hi : ops[i]? = some ⟨some d, .call ⟨.builtin .append, #[x, y], #[T, T2]⟩, T, pos, af, g⟩) (hc : decide (Region.ready .any ops listed = [i]) = true) (hl : listed' = listed.setIfInBounds i true) (hni : ∀ kk, dd2 ≠ .int kk) (hez : ez.length = esz)
    (hx : opd E x = some (bufVal m c B)) (hy : opd E y = some (.slice ad2 m2 c2)) (hB : BufOk esz m c xs B) (hL : ∀ w, Mem I L w → Mem I (bufOwn e xs B ++ L₀) w)
    (hyl : ys.length = m2 * esz) (hyr : ∀ a, ad2 = some a → Reads I L₀ a ys) (hyn : ad2 = none → ys = []) (hyp : ys.all plainCell = true) (hesz : 0 < esz)
    (hsize : (m + m2) ≤ 4294967296) (hbytes : ebb ≤ 1024) (hg : Wants ops E g) (hdn : Nat.blt d n = true) (hS : ∀ B', heldB ops listed' = true ∨ ∀ w, Mem I (bufOwn e (xs ++ ys) B' ++ L₀) w → S w)
    (h : ∀ B' c', BufOk esz (m + m2) c' (xs ++ ys) B' → RunW P f n I₀ Q ops S fuel listed' k ((d, bufVal (m + m2) c' B') :: E) I (bufOwn e (xs ++ ys) B' ++ L₀)) : RunW P f n I₀ Q ops S (fuel + 1) listed k E I L := by
  refine d_stepX i hi hc hl rfl hdn (fun a he => hg.wanted a he) fun a w he hm => ?_
  obtain ⟨w', B', c', h1, h2, h3⟩ := x_appendB (P := P) (T := T) (T2 := T2) (e := e) (d := d) (pos := pos) (af := af) (g := g) hni hez hx hy hB hL hyl hyr hyn hyp hesz hsize hbytes a w he hm
  exact ⟨_, w', I, _, h1, h3, hS B', h B' c' h2⟩
theorem d_lits0 {S : World → Prop} {fuel : Nat} {listed listed' : Array Bool} (i : Nat) {T e : TypeId} {sz bb esz ebb : Nat} {z ez : List Value} {dd : TypeDesc} [ht : TyIs P T (.slice e) sz bb z] [hte : TyIs P e dd esz ebb ez]
    (hi : ops[i]? = some ⟨some d, .buildSlice T 0 #[], ty, pos, af, g⟩) (hc : decide (Region.ready .any ops listed = [i]) = true) (hl : listed' = listed.setIfInBounds i true) (hg : Wants ops E g) (hdn : Nat.blt d n = true) (hS : heldB ops listed' = true ∨ ∀ w, Mem I L w → S w)
    (h : ∀ b, RunW P f n I₀ Q ops S fuel listed' k ((d, .slice (some ⟨b, 0, none⟩) 0 0) :: E) I ((b, .cells [].toArray e (0, 0)) :: L)) : RunW P f n I₀ Q ops S (fuel + 1) listed k E I L := by
  refine d_stepX i hi hc hl rfl hdn (fun a he => hg.wanted a he) fun a w he hm => ?_
  refine ⟨.slice (some ⟨w.heap.size, 0, none⟩) 0 0, { w with heap := w.heap.push (.cells [].toArray e (0, 0)) }, I, (w.heap.size, .cells [].toArray e (0, 0)) :: L, ?_, hm.alloc _, hS.imp id fun hS w hw => hS w hw.drop, h _⟩
  simp only [execOp]
  refine run_bind_ok (a := .slice (some ⟨w.heap.size, 0, none⟩) 0 0) (w' := { w with heap := w.heap.push (.cells [].toArray e (0, 0)) }) ?_ |>.trans rfl
  unfold Instr.buildSlice
  rw [run_bind_ok (run_underlying ht.und w)]
  simp only []
  rw [run_bind_ok (run_sizeOf hte w)]
  rw [if_neg (by omega), if_pos (by omega)]
  have e0 : ∀ h : Nat → Value, (Array.range 0).map h = #[] := fun h => by simp
  have e1 : (Array.map (fun x : Nat × Operand => (x.fst, a.eval x.snd)) #[]).toList = [] := by simp
  simp only [pure_bind, Nat.zero_mul, e0, e1]
  rfl
/-- 'append(nil, make([]T, m)...)'. -/
theorem o_appendN {T T2 e : TypeId} {sz bb esz ebb sz2 bb2 : Nat} {z ez z2 : List Value} {dd : TypeDesc} [ht : TyIs P T (.slice e) sz bb z] [hte : TyIs P e dd esz ebb ez] [ht2 : TyIs P T2 (.int .i64) sz2 bb2 z2]
    {x y : Operand} {m : Nat} {ad : Option Addr} (hez : ez.length = esz) (hx : opd E x = some (.slice ad 0 0)) (had : ad = none) (hy : opd E y = some (.int .i64 (m : Nat))) (hm0 : 0 < m) (hesz : 0 < esz) (hsize : m ≤ 4294967296) (hbytes : ebb ≤ 1024) (hg : Wants ops E g) (hdn : Nat.blt d n = true)
    (h : ∀ b Z c', Z.length = c' * esz → m ≤ c' → RunO P f n I₀ Q ops l k ((d, .slice (some ⟨b, 0, none⟩) m c') :: E) I ((b, .cells (List.toArray Z) e (0, 0)) :: L)) :
    RunO P f n I₀ Q ops (⟨some d, .call ⟨.builtin .append, #[x, y], #[T, T2]⟩, T, pos, af, g⟩ :: l) k E I L := by
  subst had
  refine o_stepX rfl hdn (fun a he => hg.wanted a he) fun a w he hm => ?_
  obtain ⟨einf, hein, hebb⟩ := run_bytesOf hte w
  let NC := (Question.appendCap m 0 e).cut (w.tape w.drawn (.appendCap m 0 e))
  let w1 : World := { w with drawn := w.drawn + 1 }
  have hNC : m ≤ NC := by simp [NC, Question.cut]
  obtain ⟨zv1, hz1, hz2⟩ := run_zero hte w1
  have hzs : zv1.cells.size = esz := by rw [← hez, ← hz2]; simp
  refine ⟨.slice (some ⟨w.heap.size, 0, none⟩) m NC, { w1 with heap := w1.heap.push (.cells (Builtin.zeroCells zv1.cells m ++ Builtin.zeroCells zv1.cells (NC - m)) e (0, 0)) }, I, _, ?_, hm.alloc _, h _ (Builtin.zeroCells zv1.cells m ++ Builtin.zeroCells zv1.cells (NC - m)).toList NC ?_ hNC⟩
  · simp only [execOp, resolve, List.map_toArray, List.map, he.eval hx, he.eval hy, pure_bind, invoke, builtin]
    refine run_bind_ok (a := .slice (some ⟨w.heap.size, 0, none⟩) m NC) (w' := { w1 with heap := w1.heap.push (.cells (Builtin.zeroCells zv1.cells m ++ Builtin.zeroCells zv1.cells (NC - m)) e (0, 0)) }) ?_ |>.trans rfl
    unfold Builtin.append_
    simp only [List.getElem?_toArray, List.getElem?_cons_zero, List.getElem?_cons_succ]
    rw [run_bind_ok (run_underlying ht.und w)]
    simp only []
    rw [run_bind_ok (run_sizeOf hte w)]
    rw [run_bind_ok (run_underlying ht2.und w)]
    have hwr : IntKind.i64.wrap (m : Int) = (m : Int) := by simp [IntKind.wrap, IntKind.bits, IntKind.signed]; omega
    simp only [pure_bind, if_true, Bool.not_true, Bool.false_eq_true, if_false, asInt, asIntOf, hwr]
    have hneg : ¬ ((m : Int) < 0) := by omega
    simp only [hwr, if_neg hneg, pure_bind, bind_assoc]
    rw [run_bind_ok hein]
    have hbig : ¬ ((m : Int) * (einf.bytes : Int) > 2 ^ 48) := by
      rw [hebb]
      have : m * ebb ≤ 4294967296 * 1024 := Nat.mul_le_mul hsize hbytes
      rw [← Int.natCast_mul]; omega
    simp only [if_neg hbig, pure_bind, Int.toNat_natCast, Nat.zero_add]
    rw [if_neg (by omega)]
    have hmax : ¬ (((m : Nat) : Int) > IntKind.i64.max) := by simp [IntKind.max, IntKind.bits, IntKind.signed]; omega
    rw [run_bind_ok hein]
    simp only [hmax, false_and, if_false, pure_bind]
    rw [run_bind_ok hein]
    have hcap : ¬ (Builtin.nextslicecap m 0 * einf.bytes > 2 ^ 48) := by
      have h1 := nextcap_le m 0 (by omega)
      have h2 : Builtin.nextslicecap m 0 * einf.bytes ≤ (2 * m + 1000) * 1024 := Nat.mul_le_mul h1 (by omega)
      omega
    simp only [if_neg hcap, pure_bind]
    have hch : (choose (.appendCap m 0 e)).run P w = .ok NC w1 := by simp [choose, Sem.run, Question.forced, NC, w1]
    rw [run_bind_ok hch]
    obtain ⟨einf1, hein1, _⟩ := run_bytesOf hte w1
    rw [run_bind_ok hein1]
    have hroom : (askRoom (NC * einf1.bytes)).run P w1 = .ok () w1 := by unfold askRoom; split <;> rfl
    rw [run_bind_ok hroom]
    have hne : ¬ (m * esz = 0) := by
      have := Nat.mul_pos hm0 hesz; omega
    simp only [Builtin.firstCells, pure_bind, if_neg hne, bind_assoc]
    rw [run_bind_ok hz1]
    rw [run_bind_ok hz1]
    simp only [Array.empty_append]
    rfl
  · simp only [Array.toList_append, List.length_append, Array.length_toList, zeroCells_size, hzs]
    rw [← Nat.add_mul]; congr 1; omega
end rules

/-- A list of texts that can be read where it lies: in still memory, or in a block of the call's own. -/
structure RStrs (I : Heap) (L : Own) (oa : Option Addr) (l : List Txt) : Prop where
  reads : ∀ a, oa = some a → Reads I L a (l.map sv)
  nil : oa = none → l.length = 0
  len : l.length ≤ maxN
theorem Strs.rd {I : Heap} {oa : Option Addr} {l : List Txt} {c : Nat} (h : Strs I oa l c) (L : Own) : RStrs I L oa l := ⟨h.reads, h.nil', h.len⟩
theorem RStrs.st {I : Heap} {L : Own} {oa : Option Addr} {l : List Txt} (h : RStrs I L oa l) (i : Nat) (hi : i < l.length) : Reads I L ((oad oa).add (i * 1)) [.string (str (l.getD i []))] := by
  obtain ⟨x, rfl⟩ : ∃ x, oa = some x := by
    cases oa with
    | none => have := h.nil rfl; omega
    | some x => exact ⟨x, rfl⟩
  intro w hw j hj
  obtain rfl : j = 0 := by simpa using hj
  have h1 := h.reads x rfl w hw i (by simpa using hi)
  have e : ((oad (some x)).add (i * 1)).add 0 = x.add i := by simp [oad, Addr.add]
  rw [e, h1]
  simp [sv, hi]
theorem RStrs.sub {I : Heap} {L L' : Own} {oa : Option Addr} {l : List Txt} (h : RStrs I L oa l) (hs : ∀ w, Mem I L' w → Mem I L w) : RStrs I L' oa l :=
  ⟨fun a ha w hw => h.reads a ha w (hs w hw), h.nil, h.len⟩
theorem buf_rd {I : Heap} {L : Own} {e : TypeId} {l : List Txt} {B : Buf} {m c : Nat} (hB : BufOk 1 m c (l.map sv) B) (hm : m = l.length) (hl : l.length ≤ maxN) :
    ∃ oa c', bufVal m c B = .slice oa l.length c' ∧ RStrs I (bufOwn e (l.map sv) B ++ L) oa l := by
  subst hm
  cases B with
  | none =>
    obtain ⟨h1, h2, h3⟩ := hB
    exact ⟨none, 0, by rw [bufVal, h2], ⟨by simp, fun _ => h2, hl⟩⟩
  | some p =>
    obtain ⟨b, sp⟩ := p
    refine ⟨some ⟨b, 0, none⟩, c, rfl, ⟨?_, by simp, hl⟩⟩
    intro a ha
    cases ha
    intro w hw i hi
    rw [cell_at (hw.2.1 _ (List.mem_append_left _ (List.mem_singleton.2 rfl))).1]
    simp only [Nat.zero_add, List.getElem?_toArray]
    rw [List.getElem?_append_left hi, List.getElem?_eq_getElem hi]
theorem g_l1Has {I : Heap} {L : Own} {oa : Option Addr} {l : List Txt} (h : RStrs I L oa l) (c : Nat) (s : Txt) : Fun Try.prog 43 [.slice oa l.length c, .string (str s)] I L (Only (.bool (decide (s ∈ l))) I L) := by
  have hlen := h.len
  have hnil := h.nil
  unfold maxN at hlen
  refine fun_intro (by simp) ?_
  refine s_seq ?_
  refine o_enter rfl ?_
  refine o_assign rfl .free rfl ?_
  refine o_done ?_
  refine s_seq ?_
  refine s_seq ?_
  refine o_enter rfl ?_
  refine o_assign rfl .free rfl ?_
  refine o_done ?_
  refine s_block ?_
  refine s_while (X := Nat) (fun i => l.length - i) (fun i => [(0, .slice oa l.length c), (1, .string (str s)), (5, .int .i64 (i : Nat))]) (fun _ => I) (fun _ => L) (fun i => i ≤ l.length ∧ s ∉ l.take i) 0 ⟨by simp, by simp⟩ ⟨rfl, rfl, rfl, trivial⟩ (fun _ h => h) ?_
  rintro i ⟨hi, hs⟩ ih
  refine s_seq ?_
  refine s_seq ?_
  refine o_enter rfl ?_
  refine o_move rfl .free rfl ?_
  refine o_move rfl .free rfl ?_
  refine o_len_slice rfl .free rfl ?_
  refine o_cmp rfl rfl rfl .free rfl ?_
  refine o_done ?_
  refine s_cond rfl ?_ ?_
  · intro c0
    try simp only [nb] at c0
    have hgx : l.getD i [] = l[i] := by simp [show i < l.length by omega]
    have hst := h.st i (by omega)
    refine s_skip ?_
    refine s_seq ?_
    refine s_block ?_
    refine s_seq ?_
    refine o_enter rfl ?_
    refine o_move rfl .free rfl ?_
    refine o_move rfl .free rfl ?_
    first | refine o_ixD rfl rfl _ rfl .free rfl ?_ | refine o_ixP rfl rfl _ rfl .free rfl ?_
    refine o_lI1 rfl .free rfl ?_
    refine o_move rfl .free rfl ?_
    refine o_cmps rfl rfl rfl .free rfl ?_
    refine o_done ?_
    refine s_cond rfl ?_ ?_
    · intro c1
      try simp only [nb] at c1
      refine s_seq ?_
      refine o_enter rfl ?_
      refine o_assign rfl .free rfl ?_
      refine o_done ?_
      refine s_ret (.tmp rfl .nil) ?_
      refine done_only rfl (by intro _ h; first | exact h | exact dr1 h | exact dr2 h | exact dr3 h | exact dr4 h | exact dr5 h | exact dr6 h | exact dr6 h.drop | exact dr6 h.drop.drop | exact dr6 h.drop.drop.drop) ?_
      have : s ∈ l := by rw [← c1, hgx]; exact List.getElem_mem _
      simp [retOne, this]
    intro c1
    try simp only [nb] at c1
    refine s_skip ?_
    refine s_inBlock ?_
    refine o_enter rfl ?_
    refine o_move rfl .free rfl ?_
    refine o_arith rfl rfl rfl (by omega) .free rfl ?_
    refine o_assign rfl .free rfl ?_
    refine o_done ?_
    refine s_env (E' := [(0, .slice oa l.length c), (1, .string (str s)), (5, .int .i64 ((i + 1 : Nat)))]) ⟨rfl, rfl, rfl, trivial⟩ (ih (i + 1) ⟨by omega, ?_⟩ (by omega))
    rw [List.take_succ_eq_append_getElem (by omega), List.mem_append]
    rintro (h1 | h1)
    · exact hs h1
    · exact c1 (by rw [hgx]; exact (List.mem_singleton.1 h1).symm)
  intro c0
  try simp only [nb] at c0
  refine s_exit rfl ?_
  refine s_seq ?_
  refine o_enter rfl ?_
  refine o_assign rfl .free rfl ?_
  refine o_done ?_
  refine s_ret (.tmp rfl .nil) ?_
  refine done_only rfl (by intro _ h; first | exact h | exact dr1 h | exact dr2 h | exact dr3 h | exact dr4 h | exact dr5 h | exact dr6 h | exact dr6 h.drop | exact dr6 h.drop.drop | exact dr6 h.drop.drop.drop) ?_
  have : s ∉ l := by rwa [List.take_of_length_le (by omega)] at hs
  simp [retOne, this]
/-- What makes a list of texts returns. -/
def SS (l : List Txt) (L : Own) : Post := fun v I' L' => ∃ oa c, v = .slice oa (List.length l) c ∧ Strs I' oa l c ∧ L = L'
theorem Strs.append {I : Heap} {oa ob : Option Addr} {l m : List Txt} {c c' : Nat} (h : Strs I oa l c) (h' : Strs I ob m c') : ∀ s ∈ l ++ m, s.length ≤ maxN := by
  intro s hs
  rcases List.mem_append.1 hs with hs | hs
  · exact h.each s hs
  · exact h'.each s hs
end Go.Proofs.Ytcjonopmnjobeaa


/- Normal expressions; heads of expressions. No conditions. -/
namespace Go.Proofs.Ytcjonopmnjobeaa
set_option maxRecDepth 100000
set_option linter.unusedVariables false
set_option linter.unusedSimpArgs false

def Ex.bare : Ex → Bool
  | .num _ => true
  | .name _ => true
  | _ => false
/-- Normal ('true') or simple ('false'). -/
def Ex.norm : Ex → Bool → Bool
  | .num _, _ => true
  | .name _, _ => true
  | .bin _ a b, _ => a.bare && b.bare
  | .ite a b c, _ => a.bare && b.norm true && c.norm true
  | .lt _ a b, n => n && a.norm false && b.norm true
  | .fn _ _ _ _ b, _ => b.norm true
  | .un _ a, _ => a.bare
theorem Ex.of_nil {e : Ex} (h : e.tree.head = []) : e.bare = true := by
  cases e with
  | num s => rfl
  | name s => rfl
  | bin o a b => cases o <;> cases h
  | un o a => cases o <;> cases h
  | ite a b c => cases h
  | lt x a b => cases h
  | fn f x s t b => cases h
theorem Ex.of_let {e : Ex} (h : e.tree.head = tLet) : ∃ x a b, e = .lt x a b := by
  cases e with
  | num s => cases h
  | name s => cases h
  | bin o a b => exact absurd h o.txt_ne.2.1
  | un o a => exact absurd h o.txt_ne.2.1
  | ite a b c => exact absurd (show tIf = tLet from h) (by decide)
  | lt x a b => exact ⟨x, a, b, rfl⟩
  | fn f x s t b => exact absurd (show tFun = tLet from h) (by decide)
theorem Ex.of_if {e : Ex} (h : e.tree.head = tIf) : ∃ a b c, e = .ite a b c := by
  cases e with
  | num s => cases h
  | name s => cases h
  | bin o a b => exact absurd h o.txt_ne.1
  | un o a => exact absurd h o.txt_ne.1
  | ite a b c => exact ⟨a, b, c, rfl⟩
  | lt x a b => exact absurd (show tLet = tIf from h) (by decide)
  | fn f x s t b => exact absurd (show tFun = tIf from h) (by decide)
theorem Ex.of_fun {e : Ex} (h : e.tree.head = tFun) : ∃ f x s t b, e = .fn f x s t b := by
  cases e with
  | num s => cases h
  | name s => cases h
  | bin o a b => exact absurd h o.txt_ne.2.2.1
  | un o a => exact absurd h o.txt_ne.2.2.1
  | ite a b c => exact absurd (show tIf = tFun from h) (by decide)
  | lt x a b => exact absurd (show tLet = tFun from h) (by decide)
  | fn f x s t b => exact ⟨f, x, s, t, b, rfl⟩
theorem B5.txt_inj {o o' : B5} (h : o.txt = o'.txt) : o = o' := by have := congrArg B5.of h; rw [B5.of_txt, B5.of_txt] at this; exact Option.some.inj this
theorem U2.txt_inj {o o' : U2} (h : o.txt = o'.txt) : o = o' := by have := congrArg U2.of h; rw [U2.of_txt, U2.of_txt] at this; exact Option.some.inj this
theorem BU_ne (o : B5) (u : U2) : o.txt ≠ u.txt := by cases o <;> cases u <;> decide
theorem Ex.of_bin {e : Ex} {o : B5} (h : e.tree.head = o.txt) : ∃ a b, e = .bin o a b := by
  cases e with
  | num s => exact absurd h.symm o.txt_ne.2.2.2.2
  | name s => exact absurd h.symm o.txt_ne.2.2.2.2
  | bin o' a b => have := B5.txt_inj (o := o') (o' := o) h; subst this; exact ⟨a, b, rfl⟩
  | un u a => exact absurd h.symm (BU_ne o u)
  | ite a b c => exact absurd h.symm o.txt_ne.1
  | lt x a b => exact absurd h.symm o.txt_ne.2.1
  | fn f x s t b => exact absurd h.symm o.txt_ne.2.2.1
theorem Ex.of_un {e : Ex} {u : U2} (h : e.tree.head = u.txt) : ∃ a, e = .un u a := by
  cases e with
  | num s => exact absurd h.symm u.txt_ne.2.2.2
  | name s => exact absurd h.symm u.txt_ne.2.2.2
  | bin o' a b => exact absurd h (BU_ne o' u)
  | un u' a => have := U2.txt_inj (o := u') (o' := u) h; subst this; exact ⟨a, rfl⟩
  | ite a b c => exact absurd h.symm u.txt_ne.1
  | lt x a b => exact absurd h.symm u.txt_ne.2.1
  | fn f x s t b => exact absurd h.symm u.txt_ne.2.2.1
theorem Ex.of_other {e : Ex} (h0 : ¬ e.tree.head = []) (h1 : ¬ e.tree.head = tLet) (h2 : ¬ e.tree.head = tIf) (h3 : ¬ e.tree.head = tFun) : (∃ o a b, e = .bin o a b) ∨ (∃ o a, e = .un o a) := by
  cases e with
  | num s => exact absurd rfl h0
  | name s => exact absurd rfl h0
  | bin o a b => exact .inl ⟨o, a, b, rfl⟩
  | un o a => exact .inr ⟨o, a, rfl⟩
  | ite a b c => exact absurd rfl h2
  | lt x a b => exact absurd rfl h1
  | fn f x s t b => exact absurd rfl h3
theorem kids_bin (o : B5) (a b : Ex) : kids (Ex.bin o a b).tree = [1, 2] := by cases o <;> rfl
theorem kids_un (o : U2) (a : Ex) : kids (Ex.un o a).tree = [1] := by cases o <;> rfl
theorem kids_ite (a b c : Ex) : kids (Ex.ite a b c).tree = [1, 2, 3] := rfl
theorem kids_lt' (x : Txt) (a b : Ex) : kids (Ex.lt x a b).tree = [2, 3] := rfl
theorem kids_fn (f x : Txt) (s t : Ty) (b : Ex) : kids (Ex.fn f x s t b).tree = [5] := rfl
theorem Ex.bare_eq {e : Ex} (h : e.ok = true) : (e.tree.parts.isEmpty && (isName e.tree.atom || isNum e.tree.atom)) = e.bare := by
  cases e with
  | num s => have h : isNum s = true := h; simp [Ex.tree, Tree.parts, Tree.atom, h, Ex.bare]
  | name s => have h : isName s = true := h; simp [Ex.tree, Tree.parts, Tree.atom, h, Ex.bare]
  | _ => rfl
theorem Ex.bare_atom {e : Ex} (h : e.ok = true) : decide (e.tree.atom = []) = !e.bare := by
  cases e with
  | num s => have h := isNum_ne h; simp [Ex.tree, Tree.atom, h, Ex.bare]
  | name s => have h := isName_ne h; simp [Ex.tree, Tree.atom, h, Ex.bare]
  | _ => rfl
theorem Ex.bare_parts {e : Ex} : e.bare = e.tree.parts.isEmpty := by cases e <;> rfl
end Go.Proofs.Ytcjonopmnjobeaa


/- Simple and normal expressions, by the program and by the reference. No conditions. -/
namespace Go.Proofs.Ytcjonopmnjobeaa
set_option maxRecDepth 100000
set_option linter.unusedVariables false
set_option linter.unusedSimpArgs false

/-- A part of an expression's form, taken for what it is. -/
theorem FormAt.as {I : Heap} {t : Tree} {oa : Option Addr} {c : Nat} {oaf : Nat → Option Addr} {cf : Nat → Nat} (h : FormAt I t oa c oaf cf) (i : Nat) (u : Tree) (hi : i < t.parts.length) (hu : t.pt i = u) : Rep I u [.string (str u.atom), .slice (oaf i) u.parts.length (cf i)] := by
  subst hu; exact h.rp i hi
theorem f_bare {I : Heap} {e : Ex} {cs : List Value} (h : Rep I e.tree cs) (hok : e.ok = true) (L : Own) : Fun Try.prog 69 [.agg cs.toArray] I L (Only (.bool e.bare) I L) := by
  rw [← Ex.bare_eq hok]; exact f_form_isBare h L
theorem cond_eq {b : Bool} {p : Prop} [Decidable p] (h : b = true ↔ p) : b = decide p := by rw [Bool.eq_iff_iff]; simpa using h

/-- An expression that a loop goes on with, and where it lies. -/
structure XS where
  e : Ex
  oa : Option Addr
  c : Nat
theorem Ex.atom_iff {e : Ex} (h : e.ok = true) : e.tree.atom = [] ↔ e.bare = false := by
  have := Ex.bare_atom h
  cases hb : e.bare <;> simp_all
end Go.Proofs.Ytcjonopmnjobeaa


/- The parts of a form as one row of cells; the library's Clone of forms. No conditions. -/
namespace Go.Proofs.Ytcjonopmnjobeaa
set_option maxRecDepth 100000
set_option linter.unusedVariables false
set_option linter.unusedSimpArgs false

section rules
variable {P : Program} {f : FuncId} {n : Nat} {I₀ : Heap} {Q : Post} {k : List Item} {E : Env} {I : Heap} {L : Own}
variable {ops : Array Oper} {d : Nat} {ty : TypeId} {pos : String} {af : Array Edge} {g : Option (Nat × Bool)} {l : List Oper}
theorem run_eqGuard_slice {op : BinOp} {T : TypeId} {x y : Operand} {a b : Option Addr} {m c m' c' : Nat} (w : World) : (eqGuard op T x y (.slice a m c) (.slice b m' c')).run P w = .ok () w := by
  unfold eqGuard; split <;> rfl
theorem y_eqlnilS {S : World → Prop} {T T' e sz bb : Nat} {z : List Value} [ht : TyIs P T (.slice e) sz bb z] {x y : Operand} {oa : Option Addr} {m c : Nat} (hx : opd E x = some (.slice oa m c)) (hy : opd E y = some (.slice none 0 0)) :
    Yld P E S ⟨some d, .binOp .eql T x y T', ty, pos, af, g⟩ (.bool oa.isNone) := fun ac w he _ => by
  simp only [execOp, he.eval hx, he.eval hy]
  refine run_bind_ok (a := _) (w' := w) ?_ |>.trans rfl
  rw [run_bind_ok (run_eqGuard_slice w)]
  have h : ∀ d : Nat, (Op.equalIn (d + 1) T (.slice oa m c) (.slice none 0 0)).run P w = .ok oa.isNone w := fun d => by
    unfold Op.equalIn
    rw [run_bind_ok (run_underlying ht.und w)]
    cases oa <;> rfl
  simp only [binOp, Op.equal]
  exact run_bind_ok (h 9999) |>.trans rfl
theorem o_eqlnilS {T T' e sz bb : Nat} {z : List Value} [ht : TyIs P T (.slice e) sz bb z] {x y : Operand} {oa : Option Addr} {m c : Nat} (hx : opd E x = some (.slice oa m c)) (hy : opd E y = some (.slice none 0 0)) (hg : Wants ops E g) (hdn : Nat.blt d n = true)
    (h : RunO P f n I₀ Q ops l k ((d, .bool oa.isNone) :: E) I L) : RunO P f n I₀ Q ops (⟨some d, .binOp .eql T x y T', ty, pos, af, g⟩ :: l) k E I L := o_yld (y_eqlnilS hx hy) hg hdn h
end rules

/-- The cells of forms, one behind the other. -/
def cellsF (oaf : Nat → Option Addr) (cf : Nat → Nat) : Nat → List Tree → List Value
  | _, [] => []
  | k, t :: ts => .string (str t.atom) :: .slice (oaf k) t.parts.length (cf k) :: cellsF oaf cf (k + 1) ts
theorem cellsF_congr {f f' : Nat → Option Addr} {g g' : Nat → Nat} : ∀ (ts : List Tree) (k : Nat), (∀ i, k ≤ i → f i = f' i ∧ g i = g' i) → cellsF f g k ts = cellsF f' g' k ts
  | [], _, _ => rfl
  | t :: ts, k, h => by
    simp only [cellsF]
    rw [(h k (Nat.le_refl _)).1, (h k (Nat.le_refl _)).2, cellsF_congr ts (k + 1) (fun i hi => h i (by omega))]
theorem RepL.cells {I : Heap} : ∀ {ts : List Tree} {vs : List Value} (k : Nat), RepL I ts vs → ∃ oaf cf, vs = cellsF oaf cf k ts
  | _, _, k, .nil => ⟨fun _ => none, fun _ => 0, rfl⟩
  | _, _, k, .cons (ts := ts) h hs => by
    obtain ⟨f, g, rfl⟩ := RepL.cells (k + 1) hs
    obtain ⟨oa, c, vs, he, _⟩ := h.open
    simp only [List.cons.injEq, and_true] at he
    obtain ⟨rfl, rfl⟩ := he
    refine ⟨fun i => if i = k then oa else f i, fun i => if i = k then c else g i, ?_⟩
    simp only [cellsF, if_true]
    congr 2
    exact cellsF_congr ts (k + 1) (fun i hi => by rw [if_neg (by omega), if_neg (by omega)]; exact ⟨rfl, rfl⟩)
theorem cellsF_get {f : Nat → Option Addr} {g : Nat → Nat} : ∀ (ts : List Tree) (k i : Nat) (hi : i < ts.length), (cellsF f g k ts)[i * 2]? = some (.string (str ts[i].atom)) ∧ (cellsF f g k ts)[i * 2 + 1]? = some (.slice (f (k + i)) ts[i].parts.length (g (k + i)))
  | [], _, _, hi => by simp at hi
  | t :: ts, k, 0, _ => ⟨rfl, rfl⟩
  | t :: ts, k, i + 1, hi => by
    obtain ⟨h1, h2⟩ := cellsF_get (f := f) (g := g) ts (k + 1) i (by simpa using hi)
    refine ⟨?_, ?_⟩
    · rw [show (i + 1) * 2 = i * 2 + 1 + 1 by omega]; simpa [cellsF] using h1
    · rw [show (i + 1) * 2 + 1 = i * 2 + 1 + 1 + 1 by omega, show k + (i + 1) = k + 1 + i by omega]; simpa [cellsF] using h2
/-- A form in memory, with all cells of its parts. -/
theorem Rep.cells {I : Heap} {t : Tree} {cs : List Value} (h : Rep I t cs) : ∃ oa c oaf cf, cs = [.string (str t.atom), .slice oa t.parts.length c] ∧ FormAt I t oa c oaf cf ∧ RepL I t.parts (cellsF oaf cf 0 t.parts) ∧ (∀ x, oa = some x → Still I x (cellsF oaf cf 0 t.parts)) := by
  obtain ⟨oa, c, vs, rfl, hl, hs, hn, hc, ha, hp⟩ := h.open
  obtain ⟨oaf, cf, rfl⟩ := hl.cells 0
  refine ⟨oa, c, oaf, cf, rfl, ⟨h, fun i hi => ?_, fun e => by rw [hn e]; rfl, hp, ha, hc⟩, hl, hs⟩
  obtain ⟨c1, c2, h1, h2, h3⟩ := hl.get i hi
  obtain ⟨h4, h5⟩ := cellsF_get (f := oaf) (g := cf) t.parts 0 i hi
  rw [h4] at h2
  rw [h5, Nat.zero_add] at h3
  cases h2; cases h3
  rw [Tree.pt_at hi]
  obtain ⟨x, rfl⟩ : ∃ x, oa = some x := by
    cases oa with
    | none => have := hn rfl; rw [this] at hi; simp at hi
    | some x => exact ⟨x, rfl⟩
  refine ⟨h1, (hs x rfl).part (i * 2) ?_⟩
  intro j hj
  match j, hj with
  | 0, _ => simpa using h4
  | 1, _ => simpa using h5

/-- What 'Clone' returns: a row of the call's own. -/
def CL (e : TypeId) (vs : List Value) (n : Nat) (I : Heap) (L : Own) : Post := fun v I' L' => ∃ b sp c, v = .slice (some ⟨b, 0, none⟩) n c ∧ n ≤ c ∧ I = I' ∧ L' = (b, .cells (vs ++ sp).toArray e (0, 0)) :: L
theorem f_slices_Clone {I : Heap} {x : Addr} {n c : Nat} {vs : List Value} (hs : Still I x vs) (hv : vs.length = n * 2) (hp : vs.all plainCell = true) (hn0 : 0 < n) (hn : n ≤ 4294967296) (L : Own) :
    Fun Try.prog 71 [.slice (some x) n c] I L (CL 41 vs n I L) := by
  refine fun_intro (by simp) ?_
  refine s_seq ?_
  refine o_enter rfl ?_
  refine o_assign rfl .free rfl ?_
  refine o_done ?_
  refine s_seq ?_
  refine s_seq ?_
  refine o_enter rfl ?_
  refine o_move rfl .free rfl ?_
  refine o_eqlnilS rfl rfl .free rfl ?_
  refine o_done ?_
  first | refine s_fp rfl (by simp) ?_ | refine s_fn rfl (by simp) ?_ | refine s_false (by simp [look, opd, *]) ?_
  refine s_skip ?_
  refine s_seq ?_
  refine o_enter rfl ?_
  refine o_lits0 .free rfl ?_
  intro b5
  refine o_move rfl .free rfl ?_
  refine o_append (B := some (b5, [])) (xs := []) (ys := vs) (m := 0) (c := 0) (L₀ := L) (by intro kk; simp) (by rfl) rfl rfl ⟨rfl, Nat.le_refl _, rfl⟩ (fun _ h => h) (by omega) (fun a ha => by cases ha; exact hs.reads) (by simp) hp hn0 (by decide) (by omega) (by decide) .free rfl ?_
  intro b sp c' hB'
  refine o_assign rfl .free rfl ?_
  refine o_done ?_
  refine s_ret (.tmp rfl .nil) ?_
  exact ⟨I, _, .refl _, fun _ h => h, b, sp, c', by rw [Nat.zero_add]; rfl, by have := hB'.2.1; omega, rfl, rfl⟩
end Go.Proofs.Ytcjonopmnjobeaa


/- Equality of forms, types of functions. No conditions. -/
namespace Go.Proofs.Ytcjonopmnjobeaa
set_option maxRecDepth 100000
set_option linter.unusedVariables false
set_option linter.unusedSimpArgs false

mutual
def Tree.dec : (t u : Tree) → Decidable (t = u)
  | .node a ps, .node b qs => if h : a = b then (match decL ps qs with
      | isTrue h' => isTrue (by rw [h, h'])
      | isFalse h' => isFalse (fun e => h' (Tree.node.inj e).2)) else isFalse (fun e => h (Tree.node.inj e).1)
def decL : (ps qs : List Tree) → Decidable (ps = qs)
  | [], [] => isTrue rfl
  | [], _ :: _ => isFalse (by simp)
  | _ :: _, [] => isFalse (by simp)
  | t :: ts, u :: us => match Tree.dec t u, decL ts us with
    | isTrue h, isTrue h' => isTrue (by rw [h, h'])
    | isFalse h, _ => isFalse (fun e => h (List.cons.inj e).1)
    | _, isFalse h => isFalse (fun e => h (List.cons.inj e).2)
end
instance : DecidableEq Tree := Tree.dec

def Forms.fa {I : Heap} {oa : Option Addr} {ts : List Tree} {c : Nat} (h : Forms I oa ts c) : Rep I (.node [] ts) [.string (str []), .slice oa ts.length c] := h.form [] (by simp [maxN])
theorem getD_eq {ts : List Tree} {i : Nat} (h : i < ts.length) : ts.getD i nil0 = ts[i] := by simp [h]
def SameF (n : Nat) : Prop := ∀ {I : Heap} {t u : Tree} {cs ds : List Value} (_ : SizeOf.sizeOf t < n) (_ : Rep I t cs) (_ : Rep I u ds) (L : Own), Fun Try.prog 58 [.agg cs.toArray, .agg ds.toArray] I L (Only (.bool (decide (t = u))) I L)
theorem f_slices_EqualFunc {n : Nat} (ih : SameF n) {I : Heap} {t u : Tree} {oa ob : Option Addr} {c c' : Nat} {f g : Nat → Option Addr} {f' g' : Nat → Nat} (hlt : SizeOf.sizeOf t < n + 1) (hf : FormAt I t oa c f f') (hg : FormAt I u ob c' g g') (L : Own) :
    Fun Try.prog 73 [.slice oa t.parts.length c, .slice ob u.parts.length c', .func (.func 58) #[] #[]] I L (Only (.bool (decide (t.parts = u.parts))) I L) := by
  have hp := hf.len
  have hq := hg.len
  unfold maxN at hp hq
  refine fun_intro (by simp) ?_
  refine s_seq ?_
  refine o_enter rfl ?_
  refine o_assign rfl .free rfl ?_
  refine o_done ?_
  refine s_seq ?_
  refine s_seq ?_
  refine o_enter rfl ?_
  refine o_move rfl .free rfl ?_
  refine o_len_slice rfl .free rfl ?_
  refine o_move rfl .free rfl ?_
  refine o_len_slice rfl .free rfl ?_
  refine o_cmp rfl rfl rfl .free rfl ?_
  refine o_done ?_
  refine s_cond rfl ?_ ?_
  · intro c0
    try simp only [nb] at c0
    refine s_seq ?_
    refine o_enter rfl ?_
    refine o_assign rfl .free rfl ?_
    refine o_done ?_
    refine s_ret (.tmp rfl .nil) ?_
    refine done_only rfl (by intro _ h; first | exact h | exact dr1 h | exact dr2 h | exact dr3 h | exact dr4 h | exact dr5 h | exact dr6 h | exact dr6 h.drop | exact dr6 h.drop.drop | exact dr6 h.drop.drop.drop) ?_
    have : ¬ t.parts = u.parts := fun e => c0 (by rw [e])
    simp [retOne, this]
  intro c0
  try simp only [nb] at c0
  refine s_skip ?_
  refine s_seq ?_
  refine s_seq ?_
  refine o_enter rfl ?_
  refine o_move rfl .free rfl ?_
  refine o_len_slice rfl .free rfl ?_
  refine o_move rfl .free rfl ?_
  refine o_done ?_
  refine s_block ?_
  refine s_while (X := Nat) (fun i => t.parts.length - i) (fun i => [(1, .slice ob u.parts.length c'), (2, .func (.func 58) #[] #[]), (15, .slice oa t.parts.length c), (16, .int .i64 (t.parts.length : Nat)), (17, .int .i64 (i : Nat))]) (fun _ => I) (fun _ => L) (fun i => i ≤ t.parts.length ∧ ∀ j, j < i → t.pt j = u.pt j) 0 ⟨by omega, fun j hj => by omega⟩ ⟨rfl, rfl, rfl, rfl, rfl, trivial⟩ (by intro _ h; first | exact h | exact dr1 h | exact dr2 h | exact dr3 h | exact dr4 h | exact dr5 h | exact dr6 h | exact dr6 h.drop | exact dr6 h.drop.drop | exact dr6 h.drop.drop.drop) ?_
  rintro i ⟨hi, hall⟩ ih2
  refine s_seq ?_
  refine o_enter rfl ?_
  refine o_cmp rfl rfl rfl .free rfl ?_
  refine o_done ?_
  refine s_seq ?_
  refine s_cond rfl ?_ ?_
  · intro c1
    try simp only [nb] at c1
    refine s_skip ?_
    refine s_seq ?_
    refine s_block ?_
    refine s_seq ?_
    refine o_enter rfl ?_
    refine o_move rfl .free rfl ?_
    first | refine o_ixD rfl rfl _ rfl .free rfl ?_ | refine o_ixP rfl rfl _ rfl .free rfl ?_
    refine o_lIS rfl .free rfl ?_
    refine o_alloc .free rfl ?_
    intro b8
    refine o_assign rfl .free rfl ?_
    refine o_st rfl rfl rfl rfl .free ?_
    refine o_done ?_
    refine s_seq ?_
    refine o_enter rfl ?_
    refine o_move rfl .free rfl ?_
    refine o_move rfl .free rfl ?_
    first | refine o_ixD rfl rfl _ rfl .free rfl ?_ | refine o_ixP rfl rfl _ rfl .free rfl ?_
    refine o_lIS rfl .free rfl ?_
    refine o_alloc .free rfl ?_
    intro b9
    refine o_st rfl rfl rfl rfl .free ?_
    refine o_done ?_
    refine s_seq ?_
    refine o_enter rfl ?_
    refine o_move rfl .free rfl ?_
    refine o_lOS rfl .free rfl ?_
    refine o_lOS rfl .free rfl ?_
    refine o_callv rfl rfl .free rfl (ih (by have := t.pt_lt i (by omega); omega) (hf.rp i (by omega)) (hg.rp i (by omega)) _) ?_
    rintro _ _ _ _ ⟨rfl, rfl, rfl⟩
    refine o_not rfl .free rfl ?_
    refine o_done ?_
    refine s_cond rfl ?_ ?_
    · intro c2
      try simp only [nb] at c2
      refine s_seq ?_
      refine o_enter rfl ?_
      refine o_assign rfl .free rfl ?_
      refine o_done ?_
      refine s_ret (.tmp rfl .nil) ?_
      refine done_only rfl (by intro _ h; first | exact h | exact dr1 h | exact dr2 h | exact dr3 h | exact dr4 h | exact dr5 h | exact dr6 h | exact dr6 h.drop | exact dr6 h.drop.drop | exact dr6 h.drop.drop.drop) ?_
      have : ¬ t.parts = u.parts := fun e => c2 (by unfold Tree.pt; rw [e])
      simp [retOne, this]
    intro c2
    try simp only [nb] at c2
    refine s_skip ?_
    refine s_inBlock ?_
    refine o_enter rfl ?_
    refine o_arith rfl rfl rfl (by omega) .free rfl ?_
    refine o_move rfl .free rfl ?_
    refine o_done ?_
    refine s_mem (by intro _ h; first | exact h | exact dr1 h | exact dr2 h | exact dr3 h | exact dr4 h | exact dr5 h | exact dr6 h | exact dr6 h.drop | exact dr6 h.drop.drop | exact dr6 h.drop.drop.drop) (s_env (E' := [(1, .slice ob u.parts.length c'), (2, .func (.func 58) #[] #[]), (15, .slice oa t.parts.length c), (16, .int .i64 (t.parts.length : Nat)), (17, .int .i64 ((i + 1 : Nat)))]) ⟨rfl, rfl, rfl, rfl, rfl, trivial⟩ (ih2 (i + 1) ⟨by omega, fun j hj => ?_⟩ (by omega)))
    rcases Nat.lt_or_ge j i with h | h
    · exact hall j h
    · obtain rfl : j = i := by omega
      exact c2
  intro c1
  try simp only [nb] at c1
  refine s_exit rfl ?_
  refine s_seq ?_
  refine o_enter rfl ?_
  refine o_assign rfl .free rfl ?_
  refine o_done ?_
  refine s_ret (.tmp rfl .nil) ?_
  refine done_only rfl (by intro _ h; first | exact h | exact dr1 h | exact dr2 h | exact dr3 h | exact dr4 h | exact dr5 h | exact dr6 h | exact dr6 h.drop | exact dr6 h.drop.drop | exact dr6 h.drop.drop.drop) ?_
  have : t.parts = u.parts := by
    apply List.ext_getElem (by omega)
    intro j h1 h2
    have := hall j (by omega)
    rwa [Tree.pt_at h1, Tree.pt_at h2] at this
  simp [retOne, this]
theorem sameF_step {n : Nat} (ih : SameF n) : SameF (n + 1) := by
  intro I t u cs ds hlt h h' L
  obtain ⟨oa, c, f, f', rfl, hf⟩ := h.at'
  obtain ⟨ob, c', g, g', rfl, hg⟩ := h'.at'
  refine fun_intro (by simp) ?_
  refine s_seq ?_
  refine o_enter rfl ?_
  refine o_box rfl rfl .free rfl ?_
  intro b2
  refine o_box rfl rfl .free rfl ?_
  intro b3
  refine o_assign rfl .free rfl ?_
  refine o_done ?_
  refine s_seq ?_
  refine o_enter rfl ?_
  refine o_fieldAddr rfl .free rfl ?_
  refine o_lO1 rfl .free rfl ?_
  refine o_fieldAddr rfl .free rfl ?_
  refine o_lO1 rfl .free rfl ?_
  refine o_cmps rfl rfl rfl .free rfl ?_
  refine o_move rfl .free rfl ?_
  apply o_and 10 16 rfl
  · intro g1_6 hk
    try simp only [nb] at g1_6
    refine o_fieldAddr rfl (.met rfl rfl) rfl ?_
    refine o_lO1 rfl (.met rfl rfl) rfl ?_
    refine o_fieldAddr rfl (.met rfl rfl) rfl ?_
    refine o_lO1 rfl (.met rfl rfl) rfl ?_
    refine o_call rfl (.met rfl rfl) rfl (f_slices_EqualFunc ih hlt hf hg _) ?_
    rintro _ _ _ _ ⟨rfl, rfl, rfl⟩
    refine o_pick_true rfl rfl .free rfl ?_
    exact o_fin 5 rfl rfl hk
  · intro _ hk
    refine o_skips 5 rfl ?_
    refine o_pick_false rfl rfl .free rfl ?_
    exact o_fin 5 rfl rfl hk
  refine o_assign rfl .free rfl ?_
  refine o_done ?_
  refine s_ret (.tmp rfl .nil) ?_
  refine done_only rfl (by intro _ h; first | exact h | exact dr1 h | exact dr2 h | exact dr3 h | exact dr4 h | exact dr5 h | exact dr6 h | exact dr6 h.drop | exact dr6 h.drop.drop | exact dr6 h.drop.drop.drop) ?_
  refine congrArg Value.bool ?_
  rw [Bool.eq_iff_iff]
  simp only [Bool.and_eq_true, decide_eq_true_eq]
  cases t; cases u
  simp [Tree.atom, Tree.parts]
theorem sameF_all (n : Nat) : SameF n := by
  induction n with
  | zero => intro I t u cs ds h; omega
  | succ n ih => exact @sameF_step n ih
theorem f_form_same {I : Heap} {t u : Tree} {cs ds : List Value} (h : Rep I t cs) (h' : Rep I u ds) (L : Own) : Fun Try.prog 58 [.agg cs.toArray, .agg ds.toArray] I L (Only (.bool (decide (t = u))) I L) := @sameF_all _ I t u cs ds (Nat.lt_succ_self _) h h' L
theorem f_funType {I : Heap} {f x : Txt} {s t : Ty} {b : Ex} {cs : List Value} (h : Rep I (Ex.fn f x s t b).tree cs) (L : Own) : Fun Try.prog 31 [.agg cs.toArray] I L (RP (Ty.fn s t).tree L) := by
  obtain ⟨oa, c, oaf, cf, rfl, hf⟩ := h.at'
  have hlen : (Ex.fn f x s t b).tree.parts.length = 6 := rfl
  refine fun_intro (by simp) ?_
  refine s_seq ?_
  refine o_enter rfl ?_
  refine o_box rfl rfl .free rfl ?_
  intro b1
  refine o_alloc .free rfl ?_
  intro b2
  refine o_done ?_
  refine s_seq ?_
  refine d_all 11 rfl rfl ?_
  refine d_takeA 0 rfl (by kernel_rfl) rfl (.inr heldx) (y_fieldAddr rfl) .free rfl ?_
  refine d_take 1 [10] rfl (by kernel_rfl) rfl heldx (y_lO1 rfl) .free rfl ?_
  first | refine d_takeA 2 rfl (by kernel_rfl) rfl (.inr heldx) (y_ixD rfl rfl 3 rfl) .free rfl ?_ | refine d_takeA 2 rfl (by kernel_rfl) rfl (.inr heldx) (y_ixP rfl rfl 3 rfl) .free rfl ?_
  refine d_take 3 [10] rfl (by kernel_rfl) rfl heldx (y_lIS rfl) .free rfl ?_
  refine d_takeA 4 rfl (by kernel_rfl) rfl (.inr heldx) (y_fieldAddr rfl) .free rfl ?_
  refine d_take 5 [10] rfl (by kernel_rfl) rfl heldx (y_lO1 rfl) .free rfl ?_
  first | refine d_takeA 6 rfl (by kernel_rfl) rfl (.inr heldx) (y_ixD rfl rfl 4 rfl) .free rfl ?_ | refine d_takeA 6 rfl (by kernel_rfl) rfl (.inr heldx) (y_ixP rfl rfl 4 rfl) .free rfl ?_
  refine d_take 7 [10] rfl (by kernel_rfl) rfl heldx (y_lIS rfl) .free rfl ?_
  refine d_lits 8 rfl (by kernel_rfl) rfl rfl rfl (by rfl) (by rfl) (by rfl) (by decide) (by decide) (by rfl) .free rfl (.inr heldx) ?_
  intro b11
  refine d_freeze ?_
  intro hz
  have hfs := forms_lit0 (c := 2) (b := b11) (RepL.two (hf.as 3 s.tree (by omega) rfl) (hf.as 4 t.tree (by omega) rfl)) hz (by simp) (by simp [maxN])
  refine d_call 9 rfl (by kernel_rfl) rfl rfl .free rfl (f_headed [62] (by decide) hfs (by simp [maxN]) _) ?_
  rintro _ J2 _ e2 ⟨cs2, rfl, h2, rfl⟩
  have e3 := hz.trans e2
  obtain ⟨o2, k2, _, rfl, -⟩ := h2.open
  refine ⟨(.inr heldx), ?_⟩
  refine d_st 10 rfl (by kernel_rfl) rfl rfl rfl rfl rfl .free (.inl (by kernel_rfl)) ?_
  refine d_done (by kernel_rfl) ?_
  refine s_ret (.cell rfl (by first | exact loads_still1 (by assumption) rfl | exact loads_ownS (by first | exact m0 | exact m1 | exact m2 | exact m3 | exact m4 | exact m5 | exact m6 | exact List.mem_append_right _ m0 | exact List.mem_append_right _ m1 | exact List.mem_append_right _ m2 | exact List.mem_append_right _ m3 | exact .tail _ (List.mem_append_right _ m0) | exact .tail _ (List.mem_append_right _ m1) | exact .tail _ (List.mem_append_right _ m2) | exact .tail _ (List.mem_append_right _ m3)) (by rfl) | exact loads_own1 (by first | exact m0 | exact m1 | exact m2 | exact m3 | exact m4 | exact m5 | exact m6 | exact List.mem_append_right _ m0 | exact List.mem_append_right _ m1 | exact List.mem_append_right _ m2 | exact List.mem_append_right _ m3 | exact .tail _ (List.mem_append_right _ m0) | exact .tail _ (List.mem_append_right _ m1) | exact .tail _ (List.mem_append_right _ m2) | exact .tail _ (List.mem_append_right _ m3)) (by rfl) rfl | exact loads_stillS (by assumption) (by rfl) | exact loads_stillF (by assumption) (by rfl) rfl) .nil) ?_
  exact ⟨J2, L, e3, (by intro _ h; first | exact h | exact dr1 h | exact dr2 h | exact dr3 h | exact dr4 h | exact dr5 h | exact dr6 h | exact dr6 h.drop | exact dr6 h.drop.drop | exact dr6 h.drop.drop.drop), _, rfl, h2, rfl⟩
end Go.Proofs.Ytcjonopmnjobeaa


/- Regions that draw their order, with several operations that can come up: one after the other is tried. No conditions. -/
namespace Go.Proofs.Ytcjonopmnjobeaa
set_option maxRecDepth 100000
set_option linter.unusedVariables false
set_option linter.unusedSimpArgs false

section rules
variable {P : Program} {f : FuncId} {n : Nat} {I₀ : Heap} {Q : Post} {k : List Item} {E : Env} {I : Heap} {L : Own}
variable {ops : Array Oper} {d : Nat} {ty : TypeId} {pos : String} {af : Array Edge} {g : Option (Nat × Bool)} {l : List Oper}
/-- Number 'i' comes up. -/
def RunI (P : Program) (f : FuncId) (n : Nat) (I₀ : Heap) (Q : Post) (ops : Array Oper) (S : World → Prop) (fuel : Nat) (listed : Array Bool) (i : Nat) (k : List Item) (E : Env) (I : Heap) (L : Own) : Prop :=
  ∀ a w, a.tmps.size = n → a.defers = [] → EnvOk E a → Mem I L w → wpOp P ops (QK P f n I₀ Q k) i (fun a' w' => Held ops S (listed.setIfInBounds i true) w' ∧ anyH P ops (QK P f n I₀ Q k) S fuel (listed.setIfInBounds i true) a' w') a w
theorem d_each {S : World → Prop} {fuel : Nat} {listed : Array Bool} (is : List Nat) (hc : decide (Region.ready .any ops listed = is) = true) (hne : is.isEmpty = false)
    (h : ∀ i ∈ is, RunI P f n I₀ Q ops S fuel listed i k E I L) : RunW P f n I₀ Q ops S (fuel + 1) listed k E I L := by
  have hr := of_decide_eq_true hc
  intro a w ha hd he hm
  refine ⟨fun h0 => (by rw [hr] at h0; rw [h0] at hne; cases hne), fun i hi => h i (hr ▸ hi) a w ha hd he hm⟩
theorem d_two {S : World → Prop} {fuel : Nat} {listed : Array Bool} (i j : Nat) (hc : decide (Region.ready .any ops listed = [i, j]) = true)
    (h1 : RunI P f n I₀ Q ops S fuel listed i k E I L) (h2 : RunI P f n I₀ Q ops S fuel listed j k E I L) : RunW P f n I₀ Q ops S (fuel + 1) listed k E I L :=
  d_each [i, j] hc rfl fun x hx => by
    simp only [List.mem_cons, List.not_mem_nil, or_false] at hx
    rcases hx with rfl | rfl
    · exact h1
    · exact h2
theorem d_three {S : World → Prop} {fuel : Nat} {listed : Array Bool} (i j m : Nat) (hc : decide (Region.ready .any ops listed = [i, j, m]) = true)
    (h1 : RunI P f n I₀ Q ops S fuel listed i k E I L) (h2 : RunI P f n I₀ Q ops S fuel listed j k E I L) (h3 : RunI P f n I₀ Q ops S fuel listed m k E I L) : RunW P f n I₀ Q ops S (fuel + 1) listed k E I L :=
  d_each [i, j, m] hc rfl fun x hx => by
    simp only [List.mem_cons, List.not_mem_nil, or_false] at hx
    rcases hx with rfl | rfl | rfl
    · exact h1
    · exact h2
    · exact h3
theorem d_four {S : World → Prop} {fuel : Nat} {listed : Array Bool} (i j m q : Nat) (hc : decide (Region.ready .any ops listed = [i, j, m, q]) = true)
    (h1 : RunI P f n I₀ Q ops S fuel listed i k E I L) (h2 : RunI P f n I₀ Q ops S fuel listed j k E I L) (h3 : RunI P f n I₀ Q ops S fuel listed m k E I L) (h4 : RunI P f n I₀ Q ops S fuel listed q k E I L) : RunW P f n I₀ Q ops S (fuel + 1) listed k E I L :=
  d_each [i, j, m, q] hc rfl fun x hx => by
    simp only [List.mem_cons, List.not_mem_nil, or_false] at hx
    rcases hx with rfl | rfl | rfl | rfl
    · exact h1
    · exact h2
    · exact h3
    · exact h4
/-- What stands behind a region, told once. -/
theorem d_cut {S : World → Prop} {fuel : Nat} {listed : Array Bool} {X : Type} (E' : X → Env) (I' : X → Heap) (L' : X → Own) (R : X → Prop)
    (hk : ∀ x, R x → RunS P f n I₀ Q k (E' x) (I' x) (L' x)) (h : (∀ x, R x → RunS P f n I₀ Q k (E' x) (I' x) (L' x)) → RunW P f n I₀ Q ops S fuel listed k E I L) : RunW P f n I₀ Q ops S fuel listed k E I L := h hk
theorem d_cutL {S : World → Prop} {fuel : Nat} {listed : Array Bool} {X : Type} (E' : X → Env) (I' : X → Heap) (L' : X → Own) (R : X → Prop)
    (hk : ∀ x, R x → RunS P f n I₀ Q k (E' x) (I' x) (L' x ++ L)) (h : (∀ x, R x → RunS P f n I₀ Q k (E' x) (I' x) (L' x ++ L)) → RunW P f n I₀ Q ops S fuel listed k E I L) : RunW P f n I₀ Q ops S fuel listed k E I L := h hk
theorem i_one {S : World → Prop} {fuel : Nat} {listed : Array Bool} (i : Nat) {o : Oper} (hi : ops[i]? = some o)
    {a : Act} {w : World} (hw : Region.wanted o (yielded ops a.tmps) = true)
    (h : o.wp P a w (fun a' w' => Held ops S (listed.setIfInBounds i true) w' ∧ anyH P ops (QK P f n I₀ Q k) S fuel (listed.setIfInBounds i true) a' w') (QK P f n I₀ Q k)) :
    wpOp P ops (QK P f n I₀ Q k) i (fun a' w' => Held ops S (listed.setIfInBounds i true) w' ∧ anyH P ops (QK P f n I₀ Q k) S fuel (listed.setIfInBounds i true) a' w') a w := by
  unfold wpOp
  simp only [hi, hw, if_true]
  exact .inl h
theorem i_stepX {S : World → Prop} {fuel : Nat} {listed listed' : Array Bool} (i : Nat) {o : Oper} (hi : ops[i]? = some o) (hl : listed' = listed.setIfInBounds i true)
    (hd : o.dst = some d) (hdn : Nat.blt d n = true) (hw : ∀ a, EnvOk E a → Region.wanted o (yielded ops a.tmps) = true)
    (hx : ∀ a w, EnvOk E a → Mem I L w → ∃ v w' I' L', (execOp a.eval o).run P w = .ok (.value v) w' ∧ Mem I' L' w' ∧ (heldB ops listed' = true ∨ ∀ w, Mem I' L' w → S w) ∧ RunW P f n I₀ Q ops S fuel listed' k ((d, v) :: E) I' L') :
    RunI P f n I₀ Q ops S fuel listed i k E I L := by
  intro a w ha hds he hm
  obtain ⟨v, w', I', L', hrun, hm', hS, h⟩ := hx a w he hm
  refine i_one i hi (hw a he) ?_
  simp only [Oper.wp, hrun, Oper.upon, hd]
  rw [← hl]
  exact ⟨hS.imp id fun h => h _ hm', h _ _ (by simp [Act.put, ha]) (by simpa [Act.put] using hds) (he.put (by rw [ha]; exact Nat.blt_eq ▸ hdn)) hm'⟩
theorem i_yld {S : World → Prop} {fuel : Nat} {listed listed' : Array Bool} (i : Nat) {op : Op} {v : Value} (hi : ops[i]? = some ⟨some d, op, ty, pos, af, g⟩) (hl : listed' = listed.setIfInBounds i true)
    (hx : Yld P E (Mem I L) ⟨some d, op, ty, pos, af, g⟩ v) (hg : Wants ops E g) (hdn : Nat.blt d n = true) (hS : heldB ops listed' = true ∨ ∀ w, Mem I L w → S w)
    (h : RunW P f n I₀ Q ops S fuel listed' k ((d, v) :: E) I L) : RunI P f n I₀ Q ops S fuel listed i k E I L :=
  i_stepX i hi hl rfl hdn (fun a he => hg.wanted a he) fun a w he hm => ⟨v, w, I, L, hx a w he hm, hm, hS, h⟩
theorem d_yld {S : World → Prop} {fuel : Nat} {listed listed' : Array Bool} (i : Nat) {op : Op} {v : Value} (hi : ops[i]? = some ⟨some d, op, ty, pos, af, g⟩) (hc : decide (Region.ready .any ops listed = [i]) = true) (hl : listed' = listed.setIfInBounds i true)
    (hx : Yld P E (Mem I L) ⟨some d, op, ty, pos, af, g⟩ v) (hg : Wants ops E g) (hdn : Nat.blt d n = true) (hS : heldB ops listed' = true ∨ ∀ w, Mem I L w → S w)
    (h : RunW P f n I₀ Q ops S fuel listed' k ((d, v) :: E) I L) : RunW P f n I₀ Q ops S (fuel + 1) listed k E I L :=
  d_stepX i hi hc hl rfl hdn (fun a he => hg.wanted a he) fun a w he hm => ⟨v, w, I, L, hx a w he hm, hm, hS, h⟩
theorem i_step_none {S : World → Prop} {fuel : Nat} {listed listed' : Array Bool} (i : Nat) {o : Oper} {I' : Heap} {L' : Own} (hi : ops[i]? = some o) (hl : listed' = listed.setIfInBounds i true)
    (hd : o.dst = none) (hw : ∀ a, EnvOk E a → Region.wanted o (yielded ops a.tmps) = true)
    (hx : ∀ a w, EnvOk E a → Mem I L w → ∃ w', ((execOp a.eval o).run P w = .ok .skip w' ∨ ∃ v, (execOp a.eval o).run P w = .ok (.value v) w') ∧ Mem I' L' w') (hS : heldB ops listed' = true ∨ ∀ w, Mem I' L' w → S w)
    (h : RunW P f n I₀ Q ops S fuel listed' k E I' L') : RunI P f n I₀ Q ops S fuel listed i k E I L := by
  intro a w ha hds he hm
  obtain ⟨w', hrun, hm'⟩ := hx a w he hm
  refine i_one i hi (hw a he) ?_
  rcases hrun with hrun | ⟨v, hrun⟩ <;>
  · simp only [Oper.wp, hrun, Oper.upon, hd, Act.put]
    rw [← hl]
    exact ⟨hS.imp id fun h => h _ hm', h a w' ha hds he hm'⟩
theorem i_enterX {S : World → Prop} {fuel : Nat} {listed listed' : Array Bool} (i : Nat) {o : Oper} {kf : FuncId} {vs : List Value} {Q' : Post} (hi : ops[i]? = some o) (hl : listed' = listed.setIfInBounds i true)
    (hd : o.dst = some d) (hdn : Nat.blt d n = true) (hw : ∀ a, EnvOk E a → Region.wanted o (yielded ops a.tmps) = true)
    (hx : ∀ a w, EnvOk E a → (execOp a.eval o).run P w = .ok (.enter kf vs.toArray) w) (hF : Fun P kf vs I L Q')
    (h : ∀ v I' L', HLe I I' → Q' v I' L' → (heldB ops listed' = true ∨ ∀ w, Mem I' L' w → S w) ∧ RunW P f n I₀ Q ops S fuel listed' k ((d, v) :: E) I' L') : RunI P f n I₀ Q ops S fuel listed i k E I L := by
  intro a w ha hds he hm
  refine i_one i hi (hw a he) ?_
  simp only [Oper.wp, hx a w he, Oper.upon, hd]
  refine (hF.run w hm).mono fun e w' hE => ?_
  obtain ⟨v, I', L', rfl, hle, hm', hq⟩ := hE
  obtain ⟨hS, h⟩ := h v I' L' hle hq
  rw [← hl]
  exact ⟨hS.imp id fun h => h _ hm', h _ _ (by simp [Act.put, ha]) (by simpa [Act.put] using hds) (he.put (by rw [ha]; exact Nat.blt_eq ▸ hdn)) hm'⟩
theorem i_call {S : World → Prop} {fuel : Nat} {listed listed' : Array Bool} (i : Nat) {kf : FuncId} {args : Array Operand} {tys : Array TypeId} {vs : List Value} {Q' : Post} {c : Code} {m : Nat} {rs : List ResultVar} [hf : FnIs P kf c m rs]
    (hi : ops[i]? = some ⟨some d, .call ⟨.value (.func kf), args, tys⟩, ty, pos, af, g⟩) (hl : listed' = listed.setIfInBounds i true)
    (ha : opds E args.toList = some vs) (hg : Wants ops E g) (hdn : Nat.blt d n = true) (hF : Fun P kf vs I L Q')
    (h : ∀ v I' L', HLe I I' → Q' v I' L' → (heldB ops listed' = true ∨ ∀ w, Mem I' L' w → S w) ∧ RunW P f n I₀ Q ops S fuel listed' k ((d, v) :: E) I' L') : RunI P f n I₀ Q ops S fuel listed i k E I L :=
  i_enterX i hi hl rfl hdn (fun a he => hg.wanted a he) (x_call ha) hF h
theorem i_lits {S : World → Prop} {fuel : Nat} {listed listed' : Array Bool} (i : Nat) {T e : TypeId} {parts : Array (Nat × Operand)} {is : List Nat} {vs us : List Value} {m : Nat} {sz bb esz ebb : Nat} {z ez : List Value} {dd : TypeDesc} [ht : TyIs P T (.slice e) sz bb z] [hte : TyIs P e dd esz ebb ez]
    (hi : ops[i]? = some ⟨some d, .buildSlice T m parts, ty, pos, af, g⟩) (hl : listed' = listed.setIfInBounds i true)
    (hp : parts.toList.map (·.1) = is) (ho : opds E (parts.toList.map (·.2)) = some vs) (hr : is = List.range' 0 vs.length) (hm : vs.length = m) (hfl : flatN esz vs = some us) (hm0 : m * esz ≠ 0) (hm1 : m * esz ≤ 2 ^ 24) (hez : ez.length = esz)
    (hg : Wants ops E g) (hdn : Nat.blt d n = true) (hS : heldB ops listed' = true ∨ ∀ w, Mem I L w → S w)
    (h : ∀ b, RunW P f n I₀ Q ops S fuel listed' k ((d, .slice (some ⟨b, 0, none⟩) m m) :: E) I ((b, .cells us.toArray e (0, 0)) :: L)) : RunI P f n I₀ Q ops S fuel listed i k E I L := by
  refine i_stepX i hi hl rfl hdn (fun a he => hg.wanted a he) fun a w he hmm => ?_
  obtain ⟨w', h1, h2⟩ := x_lits (P := P) (T := T) (e := e) (d := d) (ty := ty) (pos := pos) (af := af) (g := g) hp ho hr hm hfl hm0 hm1 hez a w he hmm
  exact ⟨_, w', I, _, h1, h2, hS.imp id fun hS w hw => hS w hw.drop, h _⟩
theorem x_lits0 {T e : TypeId} {sz bb esz ebb : Nat} {z ez : List Value} {dd : TypeDesc} [ht : TyIs P T (.slice e) sz bb z] [hte : TyIs P e dd esz ebb ez] (a : Act) (w : World) :
    (execOp a.eval ⟨some d, .buildSlice T 0 #[], ty, pos, af, g⟩).run P w = .ok (.value (.slice (some ⟨w.heap.size, 0, none⟩) 0 0)) { w with heap := w.heap.push (.cells [].toArray e (0, 0)) } := by
  simp only [execOp]
  refine run_bind_ok (a := .slice (some ⟨w.heap.size, 0, none⟩) 0 0) (w' := { w with heap := w.heap.push (.cells [].toArray e (0, 0)) }) ?_ |>.trans rfl
  unfold Instr.buildSlice
  rw [run_bind_ok (run_underlying ht.und w)]
  simp only []
  rw [run_bind_ok (run_sizeOf hte w)]
  rw [if_neg (by omega), if_pos (by omega)]
  have e0 : ∀ h : Nat → Value, (Array.range 0).map h = #[] := fun h => by simp
  have e1 : (Array.map (fun x : Nat × Operand => (x.fst, a.eval x.snd)) #[]).toList = [] := by simp
  simp only [pure_bind, Nat.zero_mul, e0, e1]
  rfl
theorem i_lits0 {S : World → Prop} {fuel : Nat} {listed listed' : Array Bool} (i : Nat) {T e : TypeId} {sz bb esz ebb : Nat} {z ez : List Value} {dd : TypeDesc} [ht : TyIs P T (.slice e) sz bb z] [hte : TyIs P e dd esz ebb ez]
    (hi : ops[i]? = some ⟨some d, .buildSlice T 0 #[], ty, pos, af, g⟩) (hl : listed' = listed.setIfInBounds i true) (hg : Wants ops E g) (hdn : Nat.blt d n = true) (hS : heldB ops listed' = true ∨ ∀ w, Mem I L w → S w)
    (h : ∀ b, RunW P f n I₀ Q ops S fuel listed' k ((d, .slice (some ⟨b, 0, none⟩) 0 0) :: E) I ((b, .cells [].toArray e (0, 0)) :: L)) : RunI P f n I₀ Q ops S fuel listed i k E I L := by
  refine i_stepX i hi hl rfl hdn (fun a he => hg.wanted a he) fun a w he hm => ?_
  exact ⟨_, _, I, _, x_lits0 a w, hm.alloc _, hS.imp id fun hS w hw => hS w hw.drop, h _⟩
theorem x_alloc {T : TypeId} {dd : TypeDesc} {sz bb : Nat} {z : List Value} [ht : TyIs P T dd sz bb z] (a : Act) (w : World) :
    (execOp a.eval ⟨some d, .alloc T, ty, pos, af, g⟩).run P w = .ok (.value (.pointer (some ⟨w.heap.size, 0, none⟩))) { w with heap := w.heap.push (.cells z.toArray T (0, 0)) } := by
  obtain ⟨v, hv, hz⟩ := run_zero ht w
  simp only [execOp, Instr.alloc]
  refine run_bind_ok (a := .pointer (some ⟨w.heap.size, 0, none⟩)) (w' := { w with heap := w.heap.push (.cells z.toArray T (0, 0)) }) ?_ |>.trans rfl
  rw [run_bind_ok hv]
  have : v.cells = z.toArray := by rw [← hz]
  simp only [newVar, newRow, newObj, this]
  rfl
theorem i_alloc {S : World → Prop} {fuel : Nat} {listed listed' : Array Bool} (i : Nat) {T : TypeId} {dd : TypeDesc} {sz bb : Nat} {z : List Value} [ht : TyIs P T dd sz bb z]
    (hi : ops[i]? = some ⟨some d, .alloc T, ty, pos, af, g⟩) (hl : listed' = listed.setIfInBounds i true) (hg : Wants ops E g) (hdn : Nat.blt d n = true) (hS : heldB ops listed' = true ∨ ∀ w, Mem I L w → S w)
    (h : ∀ b, RunW P f n I₀ Q ops S fuel listed' k ((d, .pointer (some ⟨b, 0, none⟩)) :: E) I ((b, .cells z.toArray T (0, 0)) :: L)) : RunI P f n I₀ Q ops S fuel listed i k E I L := by
  refine i_stepX i hi hl rfl hdn (fun a he => hg.wanted a he) fun a w he hm => ?_
  exact ⟨_, _, I, _, x_alloc (T := T) a w, hm.alloc _, hS.imp id fun hS w hw => hS w hw.drop, h _⟩
theorem d_alloc {S : World → Prop} {fuel : Nat} {listed listed' : Array Bool} (i : Nat) {T : TypeId} {dd : TypeDesc} {sz bb : Nat} {z : List Value} [ht : TyIs P T dd sz bb z]
    (hi : ops[i]? = some ⟨some d, .alloc T, ty, pos, af, g⟩) (hc : decide (Region.ready .any ops listed = [i]) = true) (hl : listed' = listed.setIfInBounds i true) (hg : Wants ops E g) (hdn : Nat.blt d n = true) (hS : heldB ops listed' = true ∨ ∀ w, Mem I L w → S w)
    (h : ∀ b, RunW P f n I₀ Q ops S fuel listed' k ((d, .pointer (some ⟨b, 0, none⟩)) :: E) I ((b, .cells z.toArray T (0, 0)) :: L)) : RunW P f n I₀ Q ops S (fuel + 1) listed k E I L :=
  d_each [i] hc rfl fun x hx => by
    obtain rfl := List.mem_singleton.1 hx
    exact i_alloc x hi hl hg hdn hS h
theorem i_appendB {S : World → Prop} {fuel : Nat} {listed listed' : Array Bool} (i : Nat) {T T2 e : TypeId} {sz bb esz ebb sz2 bb2 : Nat} {z ez z2 : List Value} {dd dd2 : TypeDesc} [ht : TyIs P T (.slice e) sz bb z] [hte : TyIs P e dd esz ebb ez] [ht2 : TyIs P T2 dd2 sz2 bb2 z2]
    {x y : Operand} {B : Buf} {xs ys : List Value} {m c : Nat} {ad2 : Option Addr} {m2 c2 : Nat} {L₀ : Own}
    (hi : ops[i]? = some ⟨some d, .call ⟨.builtin .append, #[x, y], #[T, T2]⟩, T, pos, af, g⟩) (hl : listed' = listed.setIfInBounds i true) (hni : ∀ kk, dd2 ≠ .int kk) (hez : ez.length = esz)
    (hx : opd E x = some (bufVal m c B)) (hy : opd E y = some (.slice ad2 m2 c2)) (hB : BufOk esz m c xs B) (hL : ∀ w, Mem I L w → Mem I (bufOwn e xs B ++ L₀) w)
    (hyl : ys.length = m2 * esz) (hyr : ∀ a, ad2 = some a → Reads I L₀ a ys) (hyn : ad2 = none → ys = []) (hyp : ys.all plainCell = true) (hesz : 0 < esz)
    (hsize : (m + m2) ≤ 4294967296) (hbytes : ebb ≤ 1024) (hg : Wants ops E g) (hdn : Nat.blt d n = true) (hS : ∀ B', heldB ops listed' = true ∨ ∀ w, Mem I (bufOwn e (xs ++ ys) B' ++ L₀) w → S w)
    (h : ∀ B' c', BufOk esz (m + m2) c' (xs ++ ys) B' → RunW P f n I₀ Q ops S fuel listed' k ((d, bufVal (m + m2) c' B') :: E) I (bufOwn e (xs ++ ys) B' ++ L₀)) : RunI P f n I₀ Q ops S fuel listed i k E I L := by
  refine i_stepX i hi hl rfl hdn (fun a he => hg.wanted a he) fun a w he hm => ?_
  obtain ⟨w', B', c', h1, h2, h3⟩ := x_appendB (P := P) (T := T) (T2 := T2) (e := e) (d := d) (pos := pos) (af := af) (g := g) hni hez hx hy hB hL hyl hyr hyn hyp hesz hsize hbytes a w he hm
  exact ⟨_, w', I, _, h1, h3, hS B', h B' c' h2⟩
theorem i_store {S : World → Prop} {fuel : Nat} {listed listed' : Array Bool} (i : Nat) {T U : TypeId} {x y : Operand} {b off : Nat} {v : Value} {vs cs us : List Value} {L' : Own} {dd : TypeDesc} {sz bb : Nat} {z : List Value} [ht : TyIs P T dd sz bb z]
    (hi : ops[i]? = some ⟨none, .store T x y, ty, pos, af, g⟩) (hl' : listed' = listed.setIfInBounds i true)
    (hx : opd E x = some (.pointer (some ⟨b, off, none⟩))) (hy : opd E y = some v) (hv : valCells v = some vs) (hl : vs.length = sz) (hp : vs.all plainCell = true)
    (hu : Upd b (.cells us.toArray U (0, 0)) (.cells cs.toArray U (0, 0)) L L') (hus : putN off vs cs = some us) (hg : Wants ops E g) (hS : heldB ops listed' = true ∨ ∀ w, Mem I L' w → S w)
    (h : RunW P f n I₀ Q ops S fuel listed' k E I L') : RunI P f n I₀ Q ops S fuel listed i k E I L :=
  i_step_none i hi hl' rfl (fun a he => hg.wanted a he) (x_store hx hy hv hl hp hu hus) hS h
theorem i_st {S : World → Prop} {fuel : Nat} {listed listed' : Array Bool} (i : Nat) {T U : TypeId} {x y : Operand} {b off : Nat} {v : Value} {vs cs us : List Value} {L' : Own} {dd : TypeDesc} {sz bb : Nat} {z : List Value} [ht : TyIs P T dd sz bb z]
    (hi : ops[i]? = some ⟨none, .store T x y, ty, pos, af, g⟩) (hl' : listed' = listed.setIfInBounds i true)
    (hx : opd E x = some (.pointer (some ⟨b, off, none⟩))) (hy : opd E y = some v) (hv : valCells v = some vs) (hl : vs.length = sz) (hg : Wants ops E g) (hS : heldB ops listed' = true ∨ ∀ w, Mem I L' w → S w) (h : RunW P f n I₀ Q ops S fuel listed' k E I L')
    (hp : vs.all plainCell = true := by first | rfl | (simp only [List.toList_toArray, List.all_cons, List.all_nil, plainCell_buf, Bool.and_true, Bool.true_and] <;> rfl)) (hu : Upd b (.cells us.toArray U (0, 0)) (.cells cs.toArray U (0, 0)) L L' := by first | exact u0 | exact u1 | exact u2 | exact u3 | exact u4 | exact u5 | exact u6) (hus : putN off vs cs = some us := by rfl) : RunI P f n I₀ Q ops S fuel listed i k E I L := i_store i hi hl' hx hy hv hl hp hu hus hg hS h
end rules
end Go.Proofs.Ytcjonopmnjobeaa


/- Bindings ahead of an expression. No conditions. -/
namespace Go.Proofs.Ytcjonopmnjobeaa
set_option maxRecDepth 100000
set_option linter.unusedVariables false
set_option linter.unusedSimpArgs false

abbrev Bds := List (Txt × Ex)
def lets : Bds → Ex → Ex
  | [], f => f
  | (x, e) :: bs, f => .lt x e (lets bs f)
def normOf (b : Bool) (s : Txt) : Option Ex := match exOf s with
  | some e => if e.norm b = true then some e else none
  | none => none
/-- Is it an expression, simple or normal? -/
def exNorm (b : Bool) (s : Txt) : Bool := (normOf b s).isSome
theorem normOf_some {b : Bool} {s : Txt} {e : Ex} (h : normOf b s = some e) : exOf s = some e ∧ e.norm b = true ∧ e.ok = true ∧ s = e.tree.text ∧ e.tree.len ≤ 12000 := by
  unfold normOf at h
  cases hx : exOf s with
  | none => rw [hx] at h; cases h
  | some e' =>
    rw [hx] at h
    simp only at h
    split at h
    · rename_i hn
      cases h
      obtain ⟨h1, h2, h3⟩ := exOf_some hx
      simp only [Ex.fine, Bool.and_eq_true, Tree.fits, decide_eq_true_eq] at h2
      exact ⟨rfl, hn, h2.1.1, h3, h2.2.2⟩
    · cases h
def pairOf (x s : Txt) : Txt × Ex := (x, (normOf false s).getD (.num []))
def pairsOf (l m : List Txt) : Bds := l.zipWith pairOf m
/-- What 'NormalJoin' returns. -/
def joinOf (l m : List Txt) (s : Txt) : Option Txt := match normOf true s with
  | none => none
  | some f => if l.length = m.length ∧ l.all isName = true ∧ m.all (exNorm false) = true ∧ (lets (pairsOf l m) f).fine = true then some (lets (pairsOf l m) f).tree.text else none

def BdsOk (bs : Bds) : Prop := ∀ p ∈ bs, isName p.1 = true ∧ p.2.ok = true ∧ p.2.norm false = true ∧ p.2.tree.len ≤ 12000
theorem lets_ok {bs : Bds} {f : Ex} (hb : BdsOk bs) (hf : f.ok = true) : (lets bs f).ok = true := by
  induction bs with
  | nil => exact hf
  | cons p bs ih =>
    obtain ⟨x, e⟩ := p
    obtain ⟨h1, h2, _⟩ := hb _ (.head _)
    simp only [lets, Ex.ok, Bool.and_eq_true]
    exact ⟨⟨h1, h2⟩, ih fun p hp => hb p (.tail _ hp)⟩
theorem lets_norm {bs : Bds} {f : Ex} (hb : BdsOk bs) (hf : f.norm true = true) : (lets bs f).norm true = true := by
  induction bs with
  | nil => exact hf
  | cons p bs ih =>
    obtain ⟨x, e⟩ := p
    obtain ⟨h1, h2, h3, _⟩ := hb _ (.head _)
    have := ih fun p hp => hb p (.tail _ hp)
    simp at h3
    simp [lets, Ex.norm, h3, this]
theorem lt_len (x : Txt) (a b : Ex) : (Ex.lt x a b).tree.len = 8 + x.length + a.tree.len + b.tree.len := by
  simp [Ex.tree, Tree.len, lenL, tLet]; omega
theorem lets_len {bs : Bds} {f : Ex} (hb : BdsOk bs) : (lets bs f).tree.len ≤ f.tree.len + 12020 * bs.length := by
  induction bs with
  | nil => simp [lets]
  | cons p bs ih =>
    obtain ⟨x, e⟩ := p
    obtain ⟨h1, h2, h3, h4⟩ := hb _ (.head _)
    have := ih fun p hp => hb p (.tail _ hp)
    have := isName_len h1
    simp only [lets, lt_len, List.length_cons] at *; omega
theorem lets_size (bs : Bds) (f : Ex) : bs.length ≤ (lets bs f).size := by
  induction bs with
  | nil => simp
  | cons p bs ih => simp only [lets, Ex.size, List.length_cons]; omega
theorem lets_drop {bs : Bds} {f : Ex} {i : Nat} (hi : i < bs.length) : lets (bs.drop i) f = .lt bs[i].1 bs[i].2 (lets (bs.drop (i + 1)) f) := by
  rw [List.drop_eq_getElem_cons hi]; rfl
theorem lt_text (x : Txt) (a b : Ex) : (Ex.lt x a b).tree.text = [40, 108, 101, 116, 32] ++ x ++ [32] ++ a.tree.text ++ [32] ++ b.tree.text ++ [41] := by
  simp [Ex.tree, Tree.text, textL, tLet]
theorem pairsOf_length {l m : List Txt} (h : l.length = m.length) : (pairsOf l m).length = l.length := by simp [pairsOf, h]
theorem pairsOf_at {l m : List Txt} {i : Nat} (hl : i < l.length) (hm : i < m.length) (h : i < (pairsOf l m).length) : (pairsOf l m)[i] = pairOf (l.getD i []) (m.getD i []) := by
  simp [pairsOf, hl, hm]
theorem pairs_ok {l m : List Txt} (hl : l.all isName = true) (hm : m.all (exNorm false) = true) : BdsOk (pairsOf l m) := by
  intro p hp
  obtain ⟨i, hi, rfl⟩ := List.mem_iff_getElem.1 hp
  have hi' : i < l.length ∧ i < m.length := by simp [pairsOf] at hi; omega
  rw [pairsOf_at hi'.1 hi'.2]
  have h1 := List.all_eq_true.1 hl _ (List.getElem_mem hi'.1)
  have h2 := List.all_eq_true.1 hm _ (List.getElem_mem hi'.2)
  simp only [pairOf, List.getD_eq_getElem?_getD, List.getElem?_eq_getElem hi'.1, List.getElem?_eq_getElem hi'.2, Option.getD_some]
  unfold exNorm at h2
  cases hx : normOf false m[i] with
  | none => rw [hx] at h2; cases h2
  | some e =>
    obtain ⟨h3, h4, h5, h6, h7⟩ := normOf_some hx
    exact ⟨h1, h5, h4, h7⟩
end Go.Proofs.Ytcjonopmnjobeaa


/- Bindings put ahead of a normal expression. No conditions. -/
namespace Go.Proofs.Ytcjonopmnjobeaa
set_option maxRecDepth 100000
set_option linter.unusedVariables false
set_option linter.unusedSimpArgs false

theorem RX_some {s : Txt} {t : Tree} {ok : Bool} (hpf : match exOf s with | some e => ok = true ∧ t = e.tree | none => ok = false) (h : ok = true) : ∃ e, exOf s = some e ∧ t = e.tree ∧ e.ok = true ∧ e.tree.len ≤ 12000 ∧ e.fine = true ∧ s = e.tree.text := by
  cases hx : exOf s with
  | none => rw [hx] at hpf; simp [h] at hpf
  | some e =>
    rw [hx] at hpf
    obtain ⟨h1, h2, h3⟩ := exOf_some hx
    have hfine := h2
    simp only [Ex.fine, Bool.and_eq_true, Tree.fits, decide_eq_true_eq] at h2
    exact ⟨e, rfl, hpf.2, h2.1.1, h2.2.2, hfine, h3⟩
theorem RX_none {s : Txt} {t : Tree} {ok : Bool} (hpf : match exOf s with | some e => ok = true ∧ t = e.tree | none => ok = false) (h : ok = false) : exOf s = none := by
  cases hx : exOf s with
  | none => rfl
  | some e => rw [hx] at hpf; simp [h] at hpf
theorem exNorm_and {s : Txt} {t : Tree} {ok : Bool} (hpf : match exOf s with | some e => ok = true ∧ t = e.tree | none => ok = false) (b : Bool) : (ok && exNorm b s) = exNorm b s := by
  cases ok with
  | true => rfl
  | false => rw [exNorm, normOf, RX_none hpf rfl]; rfl

/-- What reading a simple or a normal expression returns. -/
def RN (p : Option Ex) (L : Own) : Post := RX p L
/- Bindings in memory. -/
inductive BindL : Heap → Bds → List Value → Prop
  | nil {I : Heap} : BindL I [] []
  | cons {I : Heap} {x : Txt} {e : Ex} {bs : Bds} {c1 c2 : Value} {vs : List Value} (hx : x.length ≤ maxN) (h : Rep I e.tree [c1, c2]) (hs : BindL I bs vs) : BindL I ((x, e) :: bs) (.string (str x) :: c1 :: c2 :: vs)
theorem BindL.mono {I I' : Heap} (hle : HLe I I') {bs : Bds} {vs : List Value} (h : BindL I bs vs) : BindL I' bs vs := by
  induction h with
  | nil => exact .nil
  | cons hx h _ ih => exact .cons hx (h.mono hle) ih
theorem BindL.length {I : Heap} {bs : Bds} {vs : List Value} (h : BindL I bs vs) : vs.length = bs.length * 3 := by
  induction h with
  | nil => rfl
  | cons hx h _ ih => simp [ih]; omega
theorem BindL.plain {I : Heap} {bs : Bds} {vs : List Value} (h : BindL I bs vs) : vs.all plainCell = true := by
  induction h with
  | nil => rfl
  | cons hx h _ ih =>
    have h2 := h.vals
    simp only [List.all_cons, List.all_nil, Bool.and_true, Bool.and_eq_true] at h2 ⊢
    exact ⟨rfl, h2.1, h2.2, ih⟩
theorem BindL.append {I : Heap} {bs cs : Bds} {vs ws : List Value} (h : BindL I bs vs) (h' : BindL I cs ws) : BindL I (bs ++ cs) (vs ++ ws) := by
  induction h with
  | nil => exact h'
  | cons hx h _ ih => exact .cons hx h ih
theorem BindL.get {I : Heap} {bs : Bds} {vs : List Value} (h : BindL I bs vs) : ∀ i (hi : i < bs.length), ∃ c1 c2, Rep I bs[i].2.tree [c1, c2] ∧ bs[i].1.length ≤ maxN ∧ vs[i * 3]? = some (.string (str bs[i].1)) ∧ vs[i * 3 + 1]? = some c1 ∧ vs[i * 3 + 2]? = some c2 := by
  induction h with
  | nil => intro i hi; simp at hi
  | @cons x e bs c1 c2 vs hx h hs ih =>
    intro i hi
    cases i with
    | zero => exact ⟨c1, c2, h, hx, rfl, rfl, rfl⟩
    | succ i =>
      obtain ⟨d1, d2, h1, h2, h3, h4, h5⟩ := ih i (by simpa using hi)
      refine ⟨d1, d2, by simpa using h1, by simpa using h2, ?_, ?_, ?_⟩
      · rw [show (i + 1) * 3 = i * 3 + 1 + 1 + 1 by omega]; simpa using h3
      · rw [show (i + 1) * 3 + 1 = i * 3 + 1 + 1 + 1 + 1 by omega]; simpa using h4
      · rw [show (i + 1) * 3 + 2 = i * 3 + 2 + 1 + 1 + 1 by omega]; simpa using h5
structure Binds (I : Heap) (oa : Option Addr) (bs : Bds) (c : Nat) : Prop where
  rep : ∃ vs, BindL I bs vs ∧ ∀ x, oa = some x → Still I x vs
  nil : oa = none → bs.length = 0
  cap : bs.length ≤ c
  len : bs.length ≤ maxN
theorem Binds.mono {I I' : Heap} (hle : HLe I I') {oa : Option Addr} {bs : Bds} {c : Nat} (h : Binds I oa bs c) : Binds I' oa bs c := by
  obtain ⟨⟨vs, h1, h2⟩, h3, h4, h5⟩ := h
  exact ⟨⟨vs, h1.mono hle, fun x hx => (h2 x hx).mono hle⟩, h3, h4, h5⟩
theorem Binds.at {I : Heap} {oa : Option Addr} {bs : Bds} {c : Nat} (h : Binds I oa bs c) (i : Nat) (hi : i < bs.length) :
    ∃ ob d, Rep I bs[i].2.tree [.string (str bs[i].2.tree.atom), .slice ob bs[i].2.tree.parts.length d] ∧ bs[i].1.length ≤ maxN ∧
      Still I ((oad oa).add (i * 3)) [.string (str bs[i].1), .string (str bs[i].2.tree.atom), .slice ob bs[i].2.tree.parts.length d] := by
  obtain ⟨⟨vs, h1, h2⟩, h3, h4, h5⟩ := h
  obtain ⟨c1, c2, r, hx, e1, e2, e3⟩ := h1.get i hi
  obtain ⟨ob, d, ws, he, _⟩ := r.open
  simp only [List.cons.injEq, and_true] at he
  obtain ⟨rfl, rfl⟩ := he
  obtain ⟨y, rfl⟩ : ∃ y, oa = some y := by
    cases oa with
    | none => have := h3 rfl; omega
    | some y => exact ⟨y, rfl⟩
  refine ⟨ob, d, r, hx, (h2 y rfl).part (i * 3) ?_⟩
  intro j hj
  match j, hj with
  | 0, _ => simpa using e1
  | 1, _ => simpa using e2
  | 2, _ => simpa using e3
theorem s_freezeBinds {P : Program} {f : FuncId} {n : Nat} {I₀ : Heap} {Q : Post} {todo : List Item} {E : Env} {I : Heap} {L : Own} {e : TypeId} {bs : Bds} {xs : List Value} {B : Buf} {m c : Nat}
    (hb : BindL I bs xs) (hB : BufOk 3 m c xs B) (hm : m = bs.length) (hp : m ≤ maxN)
    (h : ∀ I' oa c', HLe I I' → bufVal m c B = .slice oa bs.length c' → Binds I' oa bs c' → RunS P f n I₀ Q todo E I' L) : RunS P f n I₀ Q todo E I (bufOwn e xs B ++ L) := by
  cases B with
  | none =>
    obtain ⟨rfl, rfl, rfl⟩ := hB
    obtain rfl : bs = [] := List.length_eq_zero_iff.1 hm.symm
    exact h I none 0 (.refl _) rfl ⟨⟨[], .nil, by simp⟩, fun _ => rfl, by simp, by simp⟩
  | some p =>
    obtain ⟨b, sp⟩ := p
    refine s_freeze fun hle => h _ (some ⟨b, 0, none⟩) c hle (by rw [← hm]; rfl) ⟨⟨xs, hb.mono hle, fun y hy => ?_⟩, by simp, by have := hB.2.1; omega, by omega⟩
    cases hy; exact still_set
/-- An expression that a loop has made, and where it lies. -/
structure YS where
  I : Heap
  k : Nat
  oa : Option Addr
  c : Nat
end Go.Proofs.Ytcjonopmnjobeaa


/- Names that stand free. No conditions. -/
namespace Go.Proofs.Ytcjonopmnjobeaa
set_option maxRecDepth 100000
set_option linter.unusedVariables false
set_option linter.unusedSimpArgs false

/-- The names that are bound in a part. -/
def Ex.binds : Ex → Nat → List Txt
  | .lt x _ _, i => if i = 3 then [x] else []
  | .fn f x _ _ _, i => if i = 5 then [f, x] else []
  | _, _ => []
theorem Ex.shapes (e : Ex) (h : e.bare = false) : (∃ o a b, e = .bin o a b) ∨ (∃ a b c, e = .ite a b c) ∨ (∃ x a b, e = .lt x a b) ∨ (∃ f x s t b, e = .fn f x s t b) ∨ (∃ o a, e = .un o a) := by
  cases e with
  | num s => cases h
  | name s => cases h
  | bin o a b => exact .inl ⟨o, a, b, rfl⟩
  | ite a b c => exact .inr (.inl ⟨a, b, c, rfl⟩)
  | lt x a b => exact .inr (.inr (.inl ⟨x, a, b, rfl⟩))
  | fn f x s t b => exact .inr (.inr (.inr (.inl ⟨f, x, s, t, b, rfl⟩)))
  | un o a => exact .inr (.inr (.inr (.inr ⟨o, a, rfl⟩)))
def lbl : List Txt → Bool := fun l => l.all fun s => decide (s.length ≤ maxN)
theorem strs_lit1 {I : Heap} {b : Nat} {x : Txt} {e : TypeId} (hle : HLe I (I.set b (.cells [.string (str x)].toArray e (0, 0)))) (hx : x.length ≤ maxN) : Strs (I.set b (.cells [.string (str x)].toArray e (0, 0))) (some ⟨b, 0, none⟩) [x] 1 :=
  ⟨fun y hy => by cases hy; exact still_set (xs := [x].map sv) (ys := []), by simp, by simp, by simp [maxN], by simpa using hx⟩
theorem strs_lit2 {I : Heap} {b : Nat} {x y : Txt} {e : TypeId} (hle : HLe I (I.set b (.cells [.string (str x), .string (str y)].toArray e (0, 0)))) (hx : x.length ≤ maxN) (hy : y.length ≤ maxN) : Strs (I.set b (.cells [.string (str x), .string (str y)].toArray e (0, 0))) (some ⟨b, 0, none⟩) [x, y] 2 :=
  ⟨fun z hz => by cases hz; exact still_set (xs := [x, y].map sv) (ys := []), by simp, by simp, by simp [maxN], by simpa using ⟨hx, hy⟩⟩
theorem strs_nil (I : Heap) : Strs I none [] 0 := ⟨by simp, by simp, by simp, by simp [maxN], by simp⟩
theorem Ex.name_len {x : Txt} (h : isName x = true) : x.length ≤ maxN := by have := isName_len h; unfold maxN; omega

theorem Ex.binds_le (e : Ex) (i : Nat) : (e.binds i).length ≤ 2 := by
  cases e with
  | lt x a b => simp only [Ex.binds]; split <;> simp
  | fn f x s t b => simp only [Ex.binds]; split <;> simp
  | _ => simp [Ex.binds]
theorem Ex.binds_room {bd : List Txt} {e : Ex} {i k : Nat} (h : bd.length + 2 + k ≤ 4294967296) : (bd ++ e.binds i).length + k ≤ maxN := by
  have := e.binds_le i; rw [List.length_append]; unfold maxN; omega
theorem Ex.binds_room0 {bd : List Txt} {e : Ex} {i : Nat} (h : bd.length + 2 ≤ 4294967296) : bd.length + (e.binds i).length ≤ maxN := by
  have := e.binds_le i; unfold maxN; omega
/-- A function value that is told of texts: 'own x' is what it holds, 'R x seen' what that is by what it has been told. -/
structure Teller (P : Program) (kf : FuncId) (cap : List Value) (X : Type) (own : X → Own) (R : X → List Txt → Heap → Prop) : Prop where
  tell : ∀ x seen s I L, R x seen I → isName s = true → seen.length < 4294967296 → Fun P kf (.string (str s) :: cap) I (own x ++ L) (fun v I' L' => v = .tuple #[] ∧ ∃ y, R y (seen ++ [s]) I' ∧ L' = own y ++ L)
  mono : ∀ x seen I I', HLe I I' → R x seen I → R x seen I'
theorem Mem.w1 {I : Heap} {a : Nat × Obj} {X L : Own} {w : World} (h : Mem I (X ++ a :: L) w) : Mem I (a :: (X ++ L)) w := h.perm List.perm_middle
theorem Ex.size_pos (e : Ex) : 1 ≤ e.size := by cases e <;> simp [Ex.size] <;> omega
theorem Ex.occ_len : ∀ (e : Ex) (bd : List Txt), (e.occ bd).length ≤ e.size
  | .num s, bd => Nat.zero_le _
  | .name s, bd => by simp only [Ex.occ]; split <;> simp [Ex.size]
  | .bin o a b, bd => by have := a.occ_len bd; have := b.occ_len bd; simp [Ex.occ, Ex.size]; omega
  | .ite a b c, bd => by have := a.occ_len bd; have := b.occ_len bd; have := c.occ_len bd; simp [Ex.occ, Ex.size]; omega
  | .lt x a b, bd => by have := a.occ_len bd; have := b.occ_len (bd ++ [x]); simp [Ex.occ, Ex.size]; omega
  | .fn f x s t b, bd => by have := b.occ_len (bd ++ [f, x]); simp [Ex.occ, Ex.size]; omega
  | .un o a, bd => by have := a.occ_len bd; simp [Ex.occ, Ex.size]; omega
theorem Ex.occ_room {seen bd : List Txt} {e : Ex} {k n : Nat} (h : seen.length + (e.size + k) ≤ n) : (seen ++ e.occ bd).length + k ≤ n := by
  have := e.occ_len bd; rw [List.length_append]; omega
theorem Ex.occ_room2 {seen bd bd' : List Txt} {e e' : Ex} {k n : Nat} (h : seen.length + (e.size + (e'.size + k)) ≤ n) : (seen ++ e.occ bd ++ e'.occ bd').length + k ≤ n := Ex.occ_room (Ex.occ_room h)
def TP {X : Type} (own : X → Own) (R : X → List Txt → Heap → Prop) (seen : List Txt) (L : Own) : Post := fun v I' L' => v = .tuple #[] ∧ ∃ y, R y seen I' ∧ L' = own y ++ L
structure FB where
  l : List Txt
  B : Buf
  c : Nat
/-- The list that 'freeNames' gathers. -/
def FB.own (bo : Nat) (x : FB) : Own := (bo, .cells [bufVal x.l.length x.c x.B].toArray 22 (0, 0)) :: bufOwn 9 (x.l.map sv) x.B
def FB.is (x : FB) (seen : List Txt) (I : Heap) : Prop := x.l = addAll [] seen ∧ BufOk 1 x.l.length x.c (x.l.map sv) x.B ∧ ∀ s ∈ x.l, isName s = true
theorem addAll_len (l m : List Txt) : (addAll l m).length ≤ l.length + m.length := by
  induction m generalizing l with
  | nil => exact Nat.le_refl _
  | cons s m ih =>
    have h1 : (addOnce l s).length ≤ l.length + 1 := by unfold addOnce; split <;> simp
    have h2 := ih (addOnce l s)
    simp only [addAll, List.foldl_cons, List.length_cons] at *
    omega
theorem names_strs {l : List Txt} (h : ∀ s ∈ l, isName s = true) : ∀ s ∈ l, s.length ≤ maxN := fun s hs => Ex.name_len (h s hs)
end Go.Proofs.Ytcjonopmnjobeaa


/- Names that stand free, by the reference; closed expressions. No conditions. -/
namespace Go.Proofs.Ytcjonopmnjobeaa
set_option maxRecDepth 100000
set_option linter.unusedVariables false
set_option linter.unusedSimpArgs false

theorem d_freezeStrs {P : Program} {f : FuncId} {n : Nat} {I₀ : Heap} {Q : Post} {k : List Item} {ops : Array Oper} {S : World → Prop} {fuel : Nat} {listed : Array Bool} {E : Env} {I : Heap} {L : Own} {e : TypeId} {l : List Txt} {B : Buf} {m c : Nat}
    (hB : BufOk 1 m c (l.map sv) B) (hm : m = l.length) (hlen : l.length ≤ maxN) (hs : ∀ s ∈ l, s.length ≤ maxN)
    (h : ∀ I' oa c', HLe I I' → bufVal m c B = .slice oa l.length c' → Strs I' oa l c' → RunW P f n I₀ Q ops S fuel listed k E I' L) : RunW P f n I₀ Q ops S fuel listed k E I (bufOwn e (l.map sv) B ++ L) := by
  cases B with
  | none =>
    obtain ⟨h1, h2, h3⟩ := hB
    obtain rfl : l = [] := by simpa using h1
    exact h I .none 0 (.refl _) rfl ⟨by simp, by simp, by simp, hlen, hs⟩
  | some p =>
    obtain ⟨b, sp⟩ := p
    refine d_freeze fun hle => h _ (some ⟨b, 0, .none⟩) c hle (by rw [← hm]; rfl) ⟨fun y hy => ?_, by simp, by have := hB.2.1; omega, hlen, hs⟩
    cases hy; exact still_set
theorem Ex.binds_room1 {bd : List Txt} {e : Ex} {i : Nat} (h : bd.length + 2 ≤ 4294967296) : 0 + bd.length + (e.binds i).length ≤ 4294967296 := by
  have := e.binds_le i; omega
theorem strs_empty (I : Heap) (oa : Option Addr) : Strs I oa [] 0 := ⟨fun x _ => .inl rfl, fun _ => rfl, by simp, by simp [maxN], by simp⟩
/-- What the reference's gathering of names returns: its list, in a block of the call's own. -/
def LP (l : List Txt) (L : Own) : Post := fun v I' L' => ∃ B c, v = bufVal l.length c B ∧ BufOk 1 l.length c (l.map sv) B ∧ L' = bufOwn 9 (l.map sv) B ++ L
theorem has_buf {l : List Txt} {B : Buf} {c : Nat} (hB : BufOk 1 l.length c (l.map sv) B) (hl : l.length ≤ maxN) (I : Heap) (p : Nat × Obj) (L : Own) (s : Txt) :
    Fun Try.prog 43 [bufVal l.length c B, .string (str s)] I (p :: (bufOwn 9 (l.map sv) B ++ L)) (Only (.bool (decide (s ∈ l))) I (p :: (bufOwn 9 (l.map sv) B ++ L))) := by
  obtain ⟨oa, c', hbv, hrd⟩ := buf_rd (I := I) (L := L) (e := 9) hB rfl hl
  rw [hbv]
  exact g_l1Has (hrd.sub fun w h => h.drop) c' s
theorem addAll_one {l : List Txt} {s : Txt} (h : s ∉ l) : addAll l [s] = l ++ [s] := by simp [addAll, addOnce, h]
theorem addAll_in {l : List Txt} {s : Txt} (h : s ∈ l) : addAll l [s] = l := by simp [addAll, addOnce, h]
theorem addAll_room {l bd : List Txt} {e : Ex} {k n : Nat} (h : l.length + (e.size + k) ≤ n) : (addAll l (e.occ bd)).length + k ≤ n := by
  have := addAll_len l (e.occ bd); have := e.occ_len bd; omega
theorem addAll_room2 {l bd bd' : List Txt} {e e' : Ex} {k n : Nat} (h : l.length + (e.size + (e'.size + k)) ≤ n) : (addAll (addAll l (e.occ bd)) (e'.occ bd')).length + k ≤ n := addAll_room (addAll_room h)
def freeOf (s : Txt) : Option (List Txt) := (exOf s).map Ex.free
/-- A closed expression. -/
def closedOf (s : Txt) : Option Ex := match exOf s with
  | some e => if e.closed = true then some e else none
  | none => none
def EF (o : Option (List Txt)) (L : Own) : Post := fun v I' L' => ∃ oa c, v = .tuple #[.slice oa (o.getD []).length c, .bool o.isSome] ∧ Strs I' oa (o.getD []) c ∧ L = L'
theorem fine_size {e : Ex} (h : e.fine = true) : e.size ≤ 120 := by
  simp only [Ex.fine, Bool.and_eq_true, decide_eq_true_eq] at h; exact h.1.2
theorem exOf_size {s : Txt} {e : Ex} (h : exOf s = some e) : e.size ≤ 120 := fine_size (exOf_some h).2.1
theorem closedOf_free (s : Txt) : (closedOf s).isSome = ((freeOf s).isSome && decide ((freeOf s).getD [] = [])) := by
  unfold closedOf freeOf
  cases exOf s with
  | none => rfl
  | some e =>
    simp only [Option.map_some, Option.isSome_some, Option.getD_some, Bool.true_and]
    rw [← Ex.closed_free]
    cases e.closed <;> rfl
theorem closedOf_some {s : Txt} {e : Ex} (h : closedOf s = some e) : exOf s = some e ∧ e.closed = true := by
  unfold closedOf at h
  cases hx : exOf s with
  | none => rw [hx] at h; cases h
  | some e' =>
    rw [hx] at h
    simp only at h
    split at h
    · rename_i hc; cases h; exact ⟨rfl, hc⟩
    · cases h
end Go.Proofs.Ytcjonopmnjobeaa


/- Types of expressions: they are small; their texts. No conditions. -/
namespace Go.Proofs.Ytcjonopmnjobeaa
set_option maxRecDepth 100000
set_option linter.unusedVariables false
set_option linter.unusedSimpArgs false

theorem B5.ty_small {o : B5} {s t u : Ty} (hs : s.size ≤ 16) (h : o.ty s t = some u) : u.size ≤ 16 := by
  cases o <;> simp only [B5.ty] at h
  · split at h <;> cases h; decide
  · split at h <;> cases h; decide
  · split at h <;> cases h; decide
  · cases s with
    | fn a b =>
      simp only at h
      split at h <;> cases h
      simp only [Ty.size] at hs; omega
    | _ => cases h
  · split at h
    · cases h; assumption
    · cases h
theorem U2.ty_small {o : U2} {s u : Ty} (hs : s.size ≤ 16) (h : o.ty s = some u) : u.size ≤ 16 := by
  cases o <;> cases s <;> simp only [U2.ty] at h <;> cases h <;> simp only [Ty.size] at hs <;> omega
def smallL (m : List Ty) : Prop := ∀ t ∈ m, t.size ≤ 16
theorem smallL.add {m : List Ty} {t : Ty} (h : smallL m) (ht : t.size ≤ 16) : smallL (m ++ [t]) := by
  intro u hu
  rcases List.mem_append.1 hu with h1 | h1
  · exact h u h1
  · obtain rfl := List.mem_singleton.1 h1; exact ht
theorem smallL.add2 {m : List Ty} {t u : Ty} (h : smallL m) (ht : t.size ≤ 16) (hu : u.size ≤ 16) : smallL (m ++ [t, u]) := by
  have := (h.add ht).add hu
  simpa using this
theorem tyLook_small {l : List Txt} {m : List Ty} {s : Txt} {t : Ty} (hm : smallL m) (h : tyLook l m s = some t) : t.size ≤ 16 := by
  unfold tyLook at h
  cases hi : lastIdx l s with
  | none => rw [hi] at h; cases h
  | some i => rw [hi] at h; simp only [Option.bind] at h; exact hm t (List.mem_of_getElem? h)
theorem Ex.chk_small : ∀ {e : Ex} {l : List Txt} {m : List Ty} {t : Ty}, e.ok = true → smallL m → e.chk l m = .ok t → t.size ≤ 16
  | .num _, l, m, t, hok, hm, h => by simp only [Ex.chk] at h; cases h; decide
  | .name s, l, m, t, hok, hm, h => by
    simp only [Ex.chk] at h
    split at h
    · rename_i t' h1; cases h; exact tyLook_small hm h1
    · cases h
  | .bin o a b, l, m, t, hok, hm, h => by
    simp only [Ex.ok, Bool.and_eq_true] at hok
    simp only [Ex.chk] at h
    split at h
    · cases h
    · rename_i s h1
      split at h
      · cases h
      · split at h
        · rename_i h3; cases h; exact B5.ty_small (Ex.chk_small hok.1 hm h1) h3
        · cases h
  | .ite a b c, l, m, t, hok, hm, h => by
    simp only [Ex.ok, Bool.and_eq_true] at hok
    simp only [Ex.chk] at h
    split at h
    · cases h
    · split at h
      · cases h
      · rename_i h2
        split at h
        · cases h
        · split at h
          · cases h; exact Ex.chk_small hok.1.2 hm h2
          · cases h
  | .lt x a b, l, m, t, hok, hm, h => by
    simp only [Ex.ok, Bool.and_eq_true] at hok
    simp only [Ex.chk] at h
    split at h
    · cases h
    · rename_i h1
      exact Ex.chk_small hok.2 (hm.add (Ex.chk_small hok.1.2 hm h1)) h
  | .fn f x s t b, l, m, u, hok, hm, h => by
    simp only [Ex.chk] at h
    split at h
    · rename_i h1
      split at h
      · cases h
      · split at h
        · cases h; exact h1
        · cases h
    · cases h
  | .un o a, l, m, t, hok, hm, h => by
    simp only [Ex.ok] at hok
    simp only [Ex.chk] at h
    split at h
    · cases h
    · rename_i s h1
      split at h
      · rename_i h3; cases h; exact U2.ty_small (Ex.chk_small hok hm h1) h3
      · cases h

/- Texts of types; the empty text for none. -/
def tyT : Option Ty → Txt
  | some t => t.tree.text
  | none => []
theorem Ty.text_ne (t : Ty) : t.tree.text ≠ [] := by
  cases t <;> simp [Ty.tree, Tree.text]
theorem tyT_nil {o : Option Ty} : tyT o = [] ↔ o = none := by
  cases o with
  | none => simp [tyT]
  | some t => simp [tyT, t.text_ne]
theorem tyT_inj {a b : Option Ty} (h : tyT a = tyT b) : a = b := by
  cases a with
  | none => exact (tyT_nil.1 h.symm).symm
  | some a => cases b with
    | none => exact absurd h a.text_ne
    | some b => exact congrArg some (Ty.text_inj h)
theorem tyT_eq {a b : Option Ty} : tyT a = tyT b ↔ a = b := ⟨tyT_inj, fun h => by rw [h]⟩
theorem tyT_i : tyT (some .i) = [105] := rfl
theorem Ty.text_i {t : Ty} : t.tree.text = [105] ↔ t = .i := ⟨fun h => Ty.text_inj (b := .i) h, fun h => by rw [h]; rfl⟩
theorem Ty.text_len {t : Ty} (h : t.size ≤ 16) : t.tree.text.length ≤ 80 := by
  have := t.tree_small; rw [Tree.text_len]; omega
def smallO (o : Option Ty) : Prop := ∀ t, o = some t → t.size ≤ 16
theorem tyT_len {o : Option Ty} (h : smallO o) : (tyT o).length ≤ 80 := by
  cases o with
  | none => simp [tyT]
  | some t => exact Ty.text_len (h t rfl)
def smallS (ks : List (Option Ty)) : Prop := ∀ o ∈ ks, smallO o
/-- What the reference makes of the types of the parts. -/
def joinTy (h : Txt) : List (Option Ty) → Option Ty
  | [some a] => (U2.of h).bind fun o => o.ty a
  | [some a, some b] => (B5.of h).bind fun o => o.ty a b
  | [some a, some b, some c] => if a = .i ∧ b = c then some b else none
  | _ => none
theorem Ex.ty_def (e : Ex) (l : List Txt) (m : List Ty) : e.ty l m = match e.chk l m with | .ok t => some t | .error _ => none := rfl
theorem Ex.ty_bin (o : B5) (a b : Ex) (l : List Txt) (m : List Ty) : (Ex.bin o a b).ty l m = joinTy o.txt [a.ty l m, b.ty l m] := by
  simp only [Ex.ty, Ex.chk]
  cases a.chk l m with
  | error x => cases b.chk l m <;> rfl
  | ok s =>
    cases b.chk l m with
    | error y => rfl
    | ok t =>
      simp only [joinTy, B5.of_txt, Option.bind]
      cases o.ty s t <;> rfl
theorem Ex.ty_ite (a b c : Ex) (l : List Txt) (m : List Ty) : (Ex.ite a b c).ty l m = joinTy tIf [a.ty l m, b.ty l m, c.ty l m] := by
  simp only [Ex.ty, Ex.chk]
  cases a.chk l m with
  | error x => cases b.chk l m <;> cases c.chk l m <;> rfl
  | ok s =>
    cases b.chk l m with
    | error y => cases c.chk l m <;> rfl
    | ok t =>
      cases c.chk l m with
      | error y => rfl
      | ok u =>
        simp only [joinTy]
        by_cases h : s = .i ∧ t = u <;> simp [h]
theorem Ex.ty_un (o : U2) (a : Ex) (l : List Txt) (m : List Ty) : (Ex.un o a).ty l m = joinTy o.txt [a.ty l m] := by
  simp only [Ex.ty, Ex.chk]
  cases a.chk l m with
  | error x => rfl
  | ok s =>
    simp only [joinTy, U2.of_txt, Option.bind]
    cases o.ty s <;> rfl
theorem Ex.ty_lt (x : Txt) (a b : Ex) (l : List Txt) (m : List Ty) : (Ex.lt x a b).ty l m = match a.ty l m with | some s => b.ty (l ++ [x]) (m ++ [s]) | none => none := by
  simp only [Ex.ty, Ex.chk]
  cases a.chk l m <;> rfl
theorem Ex.ty_fn (f x : Txt) (s t : Ty) (b : Ex) (l : List Txt) (m : List Ty) : (Ex.fn f x s t b).ty l m = if (Ty.fn s t).size ≤ 16 ∧ b.ty (l ++ [f, x]) (m ++ [.fn s t, s]) = some t then some (.fn s t) else none := by
  simp only [Ex.ty, Ex.chk]
  by_cases h : (Ty.fn s t).size ≤ 16
  · simp only [h, if_true, true_and]
    cases b.chk (l ++ [f, x]) (m ++ [.fn s t, s]) with
    | error x => simp
    | ok u => by_cases hu : u = t <;> simp [hu]
  · simp [h]
theorem Ex.ty_small {e : Ex} {l : List Txt} {m : List Ty} (hok : e.ok = true) (hm : smallL m) : smallO (e.ty l m) := by
  intro t h
  unfold Ex.ty at h
  split at h
  · cases h; exact Ex.chk_small hok hm (by assumption)
  · cases h
theorem Ex.ty_name (s : Txt) (l : List Txt) (m : List Ty) : (Ex.name s).ty l m = tyLook l m s := by
  simp only [Ex.ty, Ex.chk]
  cases tyLook l m s <;> rfl
theorem lookTxt_ty {l : List Txt} {m : List Ty} (hl : l.length = m.length) (s : Txt) : lookTxt l (m.map fun t => t.tree.text) s = tyT (tyLook l m s) := by
  unfold lookTxt tyLook
  cases hi : lastIdx l s with
  | none => rfl
  | some i =>
    have h1 := (lastAt_lt (show lastAt l s l.length = some i from hi)).1
    have h2 : i < m.length := by omega
    simp [h2, tyT]
end Go.Proofs.Ytcjonopmnjobeaa


/- Environments as plain data; the type of an expression's text. No conditions. -/
namespace Go.Proofs.Ytcjonopmnjobeaa
set_option maxRecDepth 100000
set_option linter.unusedVariables false
set_option linter.unusedSimpArgs false

def tyOf (s : Txt) : Option Ty := (typeOf s).bind Tree.ty
theorem tyOf_of {s : Txt} {t : Tree} (h : typeOf s = some t) : ∃ a : Ty, tyOf s = some a ∧ t = a.tree ∧ a.size ≤ 16 ∧ s = a.tree.text := by
  obtain ⟨a, rfl, h2, h3⟩ := typeOf_some h
  exact ⟨a, by simp [tyOf, h, a.tree_ty], rfl, h2, h3⟩
theorem tyOf_isSome (s : Txt) : (tyOf s).isSome = (typeOf s).isSome := by
  cases h : typeOf s with
  | none => simp [tyOf, h]
  | some t => obtain ⟨a, h1, _⟩ := tyOf_of h; rw [h1]; rfl
theorem tyOf_some {s : Txt} {a : Ty} (h : tyOf s = some a) : typeOf s = some a.tree ∧ a.size ≤ 16 ∧ s = a.tree.text := by
  cases h1 : typeOf s with
  | none => simp [tyOf, h1] at h
  | some t =>
    obtain ⟨b, h2, rfl, h3, h4⟩ := tyOf_of h1
    rw [h] at h2; cases h2
    exact ⟨rfl, h3, h4⟩
theorem tyOf_text (a : Ty) : tyOf a.tree.text = if a.size ≤ 16 then some a else none := by
  unfold tyOf
  rw [typeOf_text']
  split
  · exact a.tree_ty
  · rfl
def tysOf (m : List Txt) : List Ty := m.map fun s => (tyOf s).getD .i
theorem tysOf_len (m : List Txt) : (tysOf m).length = m.length := by simp [tysOf]
theorem env_tys : ∀ {m : List Txt}, (∀ s ∈ m, (typeOf s).isSome = true) → m = (tysOf m).map (fun t => t.tree.text) ∧ smallL (tysOf m) ∧ m.map typeOf = ((tysOf m).map Ty.tree).map some
  | [], _ => ⟨rfl, (fun t h => by cases h), rfl⟩
  | s :: m, h => by
    obtain ⟨h1, h2, h3⟩ := env_tys (m := m) fun x hx => h x (.tail _ hx)
    have h4 := h s (.head _)
    obtain ⟨t, h5⟩ := Option.isSome_iff_exists.1 h4
    obtain ⟨a, h6, rfl, h7, h8⟩ := tyOf_of h5
    refine ⟨?_, ?_, ?_⟩
    · simp only [tysOf, List.map_cons, h6, Option.getD_some]
      rw [← h8]; congr 1
    · intro t ht
      simp only [tysOf, List.map_cons, h6, Option.getD_some] at ht
      rcases List.mem_cons.1 ht with rfl | ht
      · exact h7
      · exact h2 t ht
    · simp only [tysOf, List.map_cons, h6, Option.getD_some, h5]
      congr 1
theorem isEnv_tys {l m : List Txt} (h : isEnv l m = true) : m = (tysOf m).map (fun t => t.tree.text) ∧ smallL (tysOf m) ∧ m.map typeOf = ((tysOf m).map Ty.tree).map some ∧ l.length = (tysOf m).length ∧ l.length ≤ 8 ∧ ∀ s ∈ l, isName s = true := by
  obtain ⟨h1, h2, h3, h4⟩ := isEnv_len h
  obtain ⟨h5, h6, h7⟩ := env_tys h4
  exact ⟨h5, h6, h7, by rw [tysOf_len]; exact h2, h1, by simpa using h3⟩
/-- What 'ExprType' returns. -/
def exTy (l m : List Txt) (s : Txt) : Option Txt := if isEnv l m = true then (exOf s).bind fun e => (e.ty l (tysOf m)).map fun t => t.tree.text else none
theorem exTy_no {l m : List Txt} {s : Txt} (h : isEnv l m = false ∨ exOf s = none) : exTy l m s = none := by
  unfold exTy
  rcases h with h | h
  · simp [h]
  · simp [h]
theorem exTy_of {l m : List Txt} {s : Txt} {e : Ex} (h : isEnv l m = true) (he : exOf s = some e) : exTy l m s = (e.ty l (tysOf m)).map fun t => t.tree.text := by
  unfold exTy; simp [h, he]
theorem tyT_map (o : Option Ty) : (o.map fun t => t.tree.text).getD [] = tyT o := by cases o <;> rfl
theorem isEnv_nil : isEnv [] [] = true := by decide
end Go.Proofs.Ytcjonopmnjobeaa


/- The parts of an expression in order; the type of an expression by those of its parts, in order. No conditions. -/
namespace Go.Proofs.Ytcjonopmnjobeaa
set_option maxRecDepth 100000
set_option linter.unusedVariables false
set_option linter.unusedSimpArgs false

def Ex.sub : Ex → List Ex
  | .num _ => []
  | .name _ => []
  | .bin _ a b => [a, b]
  | .ite a b c => [a, b, c]
  | .lt _ a b => [a, b]
  | .fn _ _ _ _ b => [b]
  | .un _ a => [a]
theorem sub_len (e : Ex) : (kids e.tree).length = e.sub.length := by
  cases e with
  | num s => rfl
  | name s => rfl
  | bin o a b => rw [kids_bin]; rfl
  | un o a => rw [kids_un]; rfl
  | _ => rfl
theorem sub_pt (e : Ex) (j : Nat) (h : j < e.sub.length) : e.tree.pt ((kids e.tree).getD j 0) = e.sub[j].tree := by
  cases e with
  | num s => simp [Ex.sub] at h
  | name s => simp [Ex.sub] at h
  | bin o a b =>
    simp only [kids_bin]
    match j, h with
    | 0, _ => rfl
    | 1, _ => rfl
  | un o a =>
    simp only [kids_un]
    match j, h with
    | 0, _ => rfl
  | ite a b c =>
    match j, h with
    | 0, _ => rfl
    | 1, _ => rfl
    | 2, _ => rfl
  | lt x a b =>
    match j, h with
    | 0, _ => rfl
    | 1, _ => rfl
  | fn f x s t b =>
    match j, h with
    | 0, _ => rfl
theorem sub_facts {e a : Ex} (h : a ∈ e.sub) : SizeOf.sizeOf a < SizeOf.sizeOf e ∧ a.size + 1 ≤ e.size ∧ (e.ok = true → a.ok = true) := by
  cases e with
  | num s => cases h
  | name s => cases h
  | bin o x y =>
    simp only [Ex.sub, List.mem_cons, List.not_mem_nil, or_false] at h
    simp only [Ex.bin.sizeOf_spec, Ex.size, Ex.ok, Bool.and_eq_true]
    rcases h with rfl | rfl
    · exact ⟨by omega, by omega, fun h => h.1⟩
    · exact ⟨by omega, by omega, fun h => h.2⟩
  | un o x =>
    simp only [Ex.sub, List.mem_cons, List.not_mem_nil, or_false] at h
    simp only [Ex.un.sizeOf_spec, Ex.size, Ex.ok]
    subst h
    exact ⟨by omega, by omega, fun h => h⟩
  | ite x y z =>
    simp only [Ex.sub, List.mem_cons, List.not_mem_nil, or_false] at h
    simp only [Ex.ite.sizeOf_spec, Ex.size, Ex.ok, Bool.and_eq_true]
    rcases h with rfl | rfl | rfl
    · exact ⟨by omega, by omega, fun h => h.1.1⟩
    · exact ⟨by omega, by omega, fun h => h.1.2⟩
    · exact ⟨by omega, by omega, fun h => h.2⟩
  | lt x y z =>
    simp only [Ex.sub, List.mem_cons, List.not_mem_nil, or_false] at h
    simp only [Ex.lt.sizeOf_spec, Ex.size, Ex.ok, Bool.and_eq_true]
    rcases h with rfl | rfl
    · exact ⟨by omega, by omega, fun h => h.1.2⟩
    · exact ⟨by omega, by omega, fun h => h.2⟩
  | fn f x s t b =>
    simp only [Ex.sub, List.mem_cons, List.not_mem_nil, or_false] at h
    simp only [Ex.fn.sizeOf_spec, Ex.size, Ex.ok, Bool.and_eq_true]
    subst h
    exact ⟨by omega, by omega, fun h => h.2⟩

/- Environments of parts. -/
def Ex.inL (e : Ex) (i : Nat) (l : List Txt) : List Txt := match e with
  | .lt x _ _ => if i = 3 then l ++ [x] else l
  | .fn f x _ _ _ => l ++ [f] ++ [x]
  | _ => l
def Ex.inM (e : Ex) (i : Nat) (s0 : Ty) (m : List Ty) : List Ty := match e with
  | .lt _ _ _ => if i = 3 then m ++ [s0] else m
  | .fn _ _ s t _ => m ++ [.fn s t] ++ [s]
  | _ => m
theorem inL_len (e : Ex) (i : Nat) (l : List Txt) : (e.inL i l).length ≤ l.length + 2 := by
  cases e with
  | lt x a b => simp only [Ex.inL]; split <;> simp
  | fn f x s t b => simp [Ex.inL]
  | _ => simp [Ex.inL]
theorem inM_small {e : Ex} {i : Nat} {s0 : Ty} {m : List Ty} (hm : smallL m) (h0 : s0.size ≤ 16) (hok : e.ok = true) (hfn : ∀ f x s t b, e = .fn f x s t b → (Ty.fn s t).size ≤ 16) : smallL (e.inM i s0 m) := by
  cases e with
  | lt x a b => simp only [Ex.inM]; split; exact hm.add h0; exact hm
  | fn f x s t b =>
    simp only [Ex.ok, Bool.and_eq_true, decide_eq_true_eq] at hok
    exact (hm.add (hfn _ _ _ _ _ rfl)).add hok.1.1.2
  | _ => exact hm
/-- The type by those of the parts, however great. -/
def Ex.raw (e : Ex) (ts : List Ty) (l : List Txt) (m : List Ty) : Option Ty := match e, ts with
  | .num _, _ => some .i
  | .name s, _ => tyLook l m s
  | .bin .pair _ _, [a, b] => some (.pr a b)
  | .bin o _ _, [a, b] => o.ty a b
  | .ite _ _ _, [a, b, c] => if a = .i ∧ b = c then some b else none
  | .lt _ _ _, [_, b] => some b
  | .fn _ _ s t _, [b] => if b = t then some (.fn s t) else none
  | .un o _, [a] => o.ty a
  | _, _ => none
def Ex.fin (e : Ex) (r : Option Ty) : Except Ex Ty := match r with
  | some t => if t.size ≤ 16 then .ok t else .error e
  | none => .error e
theorem fin_some {e : Ex} {t : Ty} (h : t.size ≤ 16) : e.fin (some t) = .ok t := if_pos h
/-- The types of the parts, one after the other. -/
def Ex.run (e : Ex) (l : List Txt) (m : List Ty) : List Ex → List Nat → List Ty → Except Ex (List Ty)
  | a :: more, k :: ks, ts => match a.chk (e.inL k l) (e.inM k (ts.getD 0 .i) m) with
    | .ok t => e.run l m more ks (ts ++ [t])
    | .error x => .error x
  | _, _, ts => .ok ts
def Ex.runs (e : Ex) (l : List Txt) (m : List Ty) : Except Ex (List Ty) := e.run l m e.sub (kids e.tree) []
def Ex.funOk : Ex → Bool
  | .fn _ _ s t _ => decide ((Ty.fn s t).size ≤ 16)
  | _ => true
theorem run_drop {e : Ex} {l : List Txt} {m : List Ty} {ts : List Ty} {i : Nat} (hi : i < e.sub.length) : e.run l m (e.sub.drop i) ((kids e.tree).drop i) ts =
    match e.sub[i].chk (e.inL ((kids e.tree).getD i 0) l) (e.inM ((kids e.tree).getD i 0) (ts.getD 0 .i) m) with
    | .ok t => e.run l m (e.sub.drop (i + 1)) ((kids e.tree).drop (i + 1)) (ts ++ [t])
    | .error x => .error x := by
  have h2 : i < (kids e.tree).length := by rw [sub_len]; exact hi
  rw [List.drop_eq_getElem_cons hi, List.drop_eq_getElem_cons h2, show (kids e.tree).getD i 0 = (kids e.tree)[i] by simp [h2]]
  rfl
theorem run_end {e : Ex} {l : List Txt} {m : List Ty} {ts : List Ty} {i : Nat} (hi : e.sub.length ≤ i) : e.run l m (e.sub.drop i) ((kids e.tree).drop i) ts = .ok ts := by
  rw [List.drop_eq_nil_of_le hi]; rfl
theorem B5.raw_ty {o : B5} {a b : Ex} {s t : Ty} {l : List Txt} {m : List Ty} (hs : s.size ≤ 16) : (match o.ty s t with | some u => Except.ok u | none => Except.error (Ex.bin o a b)) = (Ex.bin o a b).fin ((Ex.bin o a b).raw [s, t] l m) := by
  have key : ∀ r, o.ty s t = r → (Ex.bin o a b).raw [s, t] l m = r → (match o.ty s t with | some u => Except.ok u | none => .error (.bin o a b)) = (Ex.bin o a b).fin ((Ex.bin o a b).raw [s, t] l m) := by
    intro r h1 h2
    rw [h2, h1]
    cases r with
    | none => rfl
    | some u => exact (fin_some (B5.ty_small hs h1)).symm
  cases o with
  | pair =>
    simp only [B5.ty, Ex.raw, Ex.fin]
    by_cases h : (Ty.pr s t).size ≤ 16 <;> simp [h]
  | _ => exact key _ rfl rfl
theorem chk_runs {e : Ex} {l : List Txt} {m : List Ty} (hok : e.ok = true) (hm : smallL m) (hf : e.funOk = true) : e.chk l m = match e.runs l m with | .ok ts => e.fin (e.raw ts l m) | .error x => .error x := by
  cases e with
  | num s => simp [Ex.runs, Ex.sub, Ex.run, Ex.chk, Ex.raw, Ex.fin, Ty.size]
  | name s =>
    simp only [Ex.runs, Ex.sub, Ex.run, Ex.chk, Ex.raw]
    cases ht : tyLook l m s with
    | none => rfl
    | some t => exact (fin_some (tyLook_small hm ht)).symm
  | bin o a b =>
    simp only [Ex.ok, Bool.and_eq_true] at hok
    simp only [Ex.runs, Ex.sub, kids_bin, Ex.run, Ex.chk, Ex.inL, Ex.inM]
    cases ha : a.chk l m with
    | error x => rfl
    | ok s =>
      simp only []
      cases hb : b.chk l m with
      | error x => rfl
      | ok t => exact B5.raw_ty (Ex.chk_small hok.1 hm ha)
  | un o a =>
    simp only [Ex.ok] at hok
    simp only [Ex.runs, Ex.sub, kids_un, Ex.run, Ex.chk, Ex.inL, Ex.inM]
    cases ha : a.chk l m with
    | error x => rfl
    | ok s =>
      simp only [List.nil_append, Ex.raw]
      cases h : o.ty s with
      | none => rfl
      | some u => exact (fin_some (U2.ty_small (Ex.chk_small hok hm ha) h)).symm
  | ite a b d =>
    simp only [Ex.ok, Bool.and_eq_true] at hok
    simp only [Ex.runs, Ex.sub, kids_ite, Ex.run, Ex.chk, Ex.inL, Ex.inM]
    cases ha : a.chk l m with
    | error x => rfl
    | ok s =>
      simp only []
      cases hb : b.chk l m with
      | error x => rfl
      | ok t =>
        simp only []
        cases hd : d.chk l m with
        | error x => rfl
        | ok u =>
          simp only [List.nil_append, List.cons_append, Ex.raw]
          by_cases h : s = .i ∧ t = u
          · rw [if_pos h, if_pos h, fin_some (Ex.chk_small hok.1.2 hm hb)]
          · rw [if_neg h, if_neg h]; rfl
  | lt x a b =>
    simp only [Ex.ok, Bool.and_eq_true] at hok
    simp only [Ex.runs, Ex.sub, kids_lt', Ex.run, Ex.chk, Ex.inL, Ex.inM]
    rw [if_neg (show ¬ (2 : Nat) = 3 by decide), if_neg (show ¬ (2 : Nat) = 3 by decide)]
    cases ha : a.chk l m with
    | error x => rfl
    | ok s =>
      simp only [List.nil_append, if_true, List.getD_cons_zero]
      cases hb : b.chk (l ++ [x]) (m ++ [s]) with
      | error x => rfl
      | ok t => exact (fin_some (Ex.chk_small hok.2 (hm.add (Ex.chk_small hok.1.2 hm ha)) hb)).symm
  | fn f x s t b =>
    have hz : (Ty.fn s t).size ≤ 16 := by simpa [Ex.funOk] using hf
    simp only [Ex.runs, Ex.sub, kids_fn, Ex.run, Ex.chk, Ex.inL, Ex.inM, hz, if_true]
    rw [show l ++ [f] ++ [x] = l ++ [f, x] by simp, show m ++ [Ty.fn s t] ++ [s] = m ++ [Ty.fn s t, s] by simp]
    cases hb : b.chk (l ++ [f, x]) (m ++ [.fn s t, s]) with
    | error x => rfl
    | ok u =>
      simp only [List.nil_append, Ex.raw]
      by_cases h : u = t
      · rw [if_pos h, if_pos h, fin_some hz]
      · rw [if_neg h, if_neg h]; rfl
theorem chk_big {e : Ex} {l : List Txt} {m : List Ty} (hf : e.funOk = false) : e.chk l m = .error e := by
  cases e with
  | fn f x s t b =>
    have hz : ¬ (Ty.fn s t).size ≤ 16 := by simpa [Ex.funOk] using hf
    simp only [Ex.chk, if_neg hz]
  | _ => cases hf
theorem funOk_fn {e : Ex} (h : e.funOk = true) : ∀ f x s t b, e = .fn f x s t b → (Ty.fn s t).size ≤ 16 := by
  rintro f x s t b rfl; simpa [Ex.funOk] using h
theorem raw_small {e : Ex} {ts : List Ty} {l : List Txt} {m : List Ty} {t : Ty} (hts : smallL ts) (hm : smallL m) (hfn : ∀ f x s t b, e = .fn f x s t b → (Ty.fn s t).size ≤ 16) (h : e.raw ts l m = some t) : t.size ≤ 33 := by
  unfold Ex.raw at h
  split at h
  · cases h; decide
  · have := tyLook_small hm h; omega
  · cases h
    have h1 := hts _ (.head _); have h2 := hts _ (.tail _ (.head _))
    simp only [Ty.size]; omega
  · have := B5.ty_small (hts _ (.head _)) h; omega
  · split at h
    · cases h; have := hts _ (.tail _ (.head _)); omega
    · cases h
  · cases h; have := hts _ (.tail _ (.head _)); omega
  · split at h
    · cases h; have := hfn _ _ _ _ _ rfl; omega
    · cases h
  · have := U2.ty_small (hts _ (.head _)) h; omega
  · cases h
end Go.Proofs.Ytcjonopmnjobeaa


/- Environments of types, by the program: one name more, the environment of a part. No conditions. -/
namespace Go.Proofs.Ytcjonopmnjobeaa
set_option maxRecDepth 100000
set_option linter.unusedVariables false
set_option linter.unusedSimpArgs false

section rules
variable {P : Program} {f : FuncId} {n : Nat} {I₀ : Heap} {Q : Post} {k : List Item} {E : Env} {I : Heap} {L : Own}
variable {ops : Array Oper} {S : World → Prop} {fuel : Nat} {listed : Array Bool}
theorem forms_buf {I : Heap} {e : TypeId} {ts : List Tree} {vs : List Value} {B : Buf} {m c : Nat} (hl : RepL I ts vs) (hB : BufOk 2 m c vs B) (hm : m = ts.length) (hn : ts.length ≤ maxN) :
    (B = none ∧ ts = []) ∨ ∃ b sp, B = some (b, sp) ∧ bufOwn e vs B = [(b, .cells (vs ++ sp).toArray e (0, 0))] ∧ ts.length ≤ c := by
  cases B with
  | none =>
    obtain ⟨h1, h2, h3⟩ := hB
    exact .inl ⟨rfl, List.length_eq_zero_iff.1 (by omega)⟩
  | some p => exact .inr ⟨p.1, p.2, rfl, rfl, by have := hB.2.1; omega⟩
theorem forms_none (I : Heap) : Forms I none [] 0 := ⟨⟨[], .nil, by simp⟩, fun _ => rfl, by simp, by simp [maxN]⟩
theorem s_freezeForms {todo : List Item} {e : TypeId} {ts : List Tree} {vs : List Value} {B : Buf} {m c : Nat} (hl : RepL I ts vs) (hB : BufOk 2 m c vs B) (hm : m = ts.length) (hn : ts.length ≤ maxN)
    (h : ∀ I' oa c', HLe I I' → bufVal m c B = .slice oa ts.length c' → Forms I' oa ts c' → RunS P f n I₀ Q todo E I' L) : RunS P f n I₀ Q todo E I (bufOwn e vs B ++ L) := by
  rcases forms_buf (e := e) hl hB hm hn with ⟨rfl, rfl⟩ | ⟨b, sp, rfl, _, hc⟩
  · exact h I none 0 (.refl _) rfl (forms_none _)
  · exact s_freeze fun hle => h _ (some ⟨b, 0, none⟩) c hle (by rw [← hm]; rfl) (forms_lit hl hle hc hn)
theorem d_freezeForms {e : TypeId} {ts : List Tree} {vs : List Value} {B : Buf} {m c : Nat} (hl : RepL I ts vs) (hB : BufOk 2 m c vs B) (hm : m = ts.length) (hn : ts.length ≤ maxN)
    (h : ∀ I' oa c', HLe I I' → bufVal m c B = .slice oa ts.length c' → Forms I' oa ts c' → RunW P f n I₀ Q ops S fuel listed k E I' L) : RunW P f n I₀ Q ops S fuel listed k E I (bufOwn e vs B ++ L) := by
  rcases forms_buf (e := e) hl hB hm hn with ⟨rfl, rfl⟩ | ⟨b, sp, rfl, _, hc⟩
  · exact h I none 0 (.refl _) rfl (forms_none _)
  · exact d_freeze fun hle => h _ (some ⟨b, 0, none⟩) c hle (by rw [← hm]; rfl) (forms_lit hl hle hc hn)
end rules

theorem f_slices_CloneS {I : Heap} {oa : Option Addr} {l : List Txt} {c : Nat} (h : Strs I oa l c) (L : Own) :
    Fun Try.prog 70 [.slice oa l.length c] I L (fun v I' L' => ∃ B c', v = bufVal l.length c' B ∧ BufOk 1 l.length c' (l.map sv) B ∧ I = I' ∧ L' = bufOwn 9 (l.map sv) B ++ L) := by
  have hlen := h.len
  unfold maxN at hlen
  refine fun_intro (by simp) ?_
  refine s_seq ?_
  refine o_enter rfl ?_
  refine o_assign rfl .free rfl ?_
  refine o_done ?_
  refine s_seq ?_
  refine s_seq ?_
  refine o_enter rfl ?_
  refine o_move rfl .free rfl ?_
  refine o_eqlnilS rfl rfl .free rfl ?_
  refine o_done ?_
  refine s_cond rfl ?_ ?_
  · intro c0
    try simp only [nb] at c0
    have hnil : l = [] := h.nil (by simpa using c0)
    refine s_seq ?_
    refine o_enter rfl ?_
    refine o_assign rfl .free rfl ?_
    refine o_done ?_
    refine s_ret (.tmp rfl .nil) ?_
    exact ⟨I, L, .refl _, fun _ h => h, none, 0, by rw [hnil]; rfl, by rw [hnil]; exact ⟨rfl, rfl, rfl⟩, rfl, by simp [bufOwn]⟩
  intro c0
  try simp only [nb] at c0
  refine s_skip ?_
  refine s_seq ?_
  refine o_enter rfl ?_
  refine o_lits0 .free rfl ?_
  intro b5
  refine o_move rfl .free rfl ?_
  refine o_appendB (B := some (b5, [])) (xs := []) (ys := l.map sv) (m := 0) (c := 0) (L₀ := L) (by intro kk; simp) (by rfl) rfl rfl ⟨rfl, Nat.le_refl _, rfl⟩ (fun _ h => h) (by simp) h.reads h.none (sv_plain l) (by decide) (by omega) (by decide) .free rfl ?_
  intro B1 c1 hB1
  refine o_assign rfl .free rfl ?_
  refine o_done ?_
  refine s_ret (.tmp rfl .nil) ?_
  exact ⟨I, _, .refl _, fun _ h => h, B1, c1, by simp [retOne], by simpa using hB1, rfl, rfl⟩
theorem f_slices_CloneF {I : Heap} {oa : Option Addr} {ts : List Tree} {c : Nat} (h : Forms I oa ts c) (L : Own) :
    Fun Try.prog 71 [.slice oa ts.length c] I L (fun v I' L' => ∃ vs B c', RepL I ts vs ∧ v = bufVal ts.length c' B ∧ BufOk 2 ts.length c' vs B ∧ I = I' ∧ L' = bufOwn 41 vs B ++ L) := by
  obtain ⟨⟨vs, hl, hst⟩, hn, hc, hlen⟩ := h
  unfold maxN at hlen
  have hvl := hl.length
  refine fun_intro (by simp) ?_
  refine s_seq ?_
  refine o_enter rfl ?_
  refine o_assign rfl .free rfl ?_
  refine o_done ?_
  refine s_seq ?_
  refine s_seq ?_
  refine o_enter rfl ?_
  refine o_move rfl .free rfl ?_
  refine o_eqlnilS rfl rfl .free rfl ?_
  refine o_done ?_
  refine s_cond rfl ?_ ?_
  · intro c0
    try simp only [nb] at c0
    have hnil : ts = [] := hn (by simpa using c0)
    subst hnil
    refine s_seq ?_
    refine o_enter rfl ?_
    refine o_assign rfl .free rfl ?_
    refine o_done ?_
    refine s_ret (.tmp rfl .nil) ?_
    exact ⟨I, L, .refl _, fun _ h => h, [], none, 0, .nil, rfl, ⟨rfl, rfl, rfl⟩, rfl, rfl⟩
  intro c0
  try simp only [nb] at c0
  refine s_skip ?_
  refine s_seq ?_
  refine o_enter rfl ?_
  refine o_lits0 .free rfl ?_
  intro b5
  refine o_move rfl .free rfl ?_
  refine o_appendB (B := some (b5, [])) (xs := []) (ys := vs) (m := 0) (c := 0) (L₀ := L) (by intro kk; simp) (by rfl) rfl rfl ⟨rfl, Nat.le_refl _, rfl⟩ (fun _ h => h) (by omega) (fun a ha => (hst a ha).reads) (fun ha => by rw [hn ha] at hvl; exact List.length_eq_zero_iff.1 (by simpa using hvl)) hl.plain (by decide) (by omega) (by decide) .free rfl ?_
  intro B1 c1 hB1
  refine o_assign rfl .free rfl ?_
  refine o_done ?_
  refine s_ret (.tmp rfl .nil) ?_
  exact ⟨I, _, .refl _, fun _ h => h, vs, B1, c1, hl, by simp [retOne], by simpa using hB1, rfl, rfl⟩

structure EnvAt (I : Heap) (l : List Txt) (m : List Ty) (oa : Option Addr) (c : Nat) (ob : Option Addr) (c' : Nat) : Prop where
  names : Strs I oa l c
  types : Forms I ob (m.map Ty.tree) c'
  len : l.length = m.length
  small : smallL m
theorem EnvAt.mono {I I' : Heap} (hle : HLe I I') {l : List Txt} {m : List Ty} {oa : Option Addr} {c : Nat} {ob : Option Addr} {c' : Nat} (h : EnvAt I l m oa c ob c') : EnvAt I' l m oa c ob c' :=
  ⟨h.names.mono hle, h.types.mono hle, h.len, h.small⟩
/-- What gives an environment returns. -/
def RV (l : List Txt) (m : List Ty) (L : Own) : Post := fun v I' L' => ∃ oa c ob c', v = .agg [.slice oa (List.length l) c, .slice ob (List.map Ty.tree m).length c'].toArray ∧ EnvAt I' l m oa c ob c' ∧ L = L'
theorem f_env_with {I : Heap} {l : List Txt} {m : List Ty} {oa ob : Option Addr} {c c' : Nat} (h : EnvAt I l m oa c ob c') (x : Txt) (hx : x.length ≤ maxN) {t : Ty} {cs : List Value} (ht : Rep I t.tree cs) (hts : t.size ≤ 16) (hroom : l.length + 1 ≤ maxN) (L : Own) :
    Fun Try.prog 55 [.agg [.slice oa l.length c, .slice ob (m.map Ty.tree).length c'].toArray, .string (str x), .agg cs.toArray] I L (RV (l ++ [x]) (m ++ [t]) L) := by
  obtain ⟨ot, ct, _, rfl, -⟩ := ht.open
  have hle0 : HLe I I := .refl _
  have hlm := h.len
  unfold maxN at hroom
  refine fun_intro (by simp) ?_
  refine s_seq ?_
  refine o_enter rfl ?_
  refine o_box rfl rfl .free rfl ?_
  intro b3
  refine o_box rfl rfl .free rfl ?_
  intro b5
  refine o_alloc .free rfl ?_
  intro b6
  refine o_done ?_
  refine s_seq ?_
  refine d_all 14 rfl rfl ?_
  refine d_takeA 0 rfl (by kernel_rfl) rfl (.inr heldx) (y_fieldAddr rfl) .free rfl ?_
  refine d_take 1 [13] rfl (by kernel_rfl) rfl heldx (y_lO1 rfl) .free rfl ?_
  refine d_takeA 3 rfl (by kernel_rfl) rfl (.inr heldx) (y_move rfl) .free rfl ?_
  refine d_takeA 6 rfl (by kernel_rfl) rfl (.inr heldx) (y_fieldAddr rfl) .free rfl ?_
  refine d_take 7 [13] rfl (by kernel_rfl) rfl heldx (y_lO1 rfl) .free rfl ?_
  refine d_take 9 [13] rfl (by kernel_rfl) rfl heldx (y_lOS rfl) .free rfl ?_
  refine d_three 2 4 10 (by kernel_rfl) ?_ ?_ ?_
  · skip
    refine i_call 2 rfl rfl rfl .free rfl (f_slices_CloneS h.names _) ?_
    rintro _ _ _ _ ⟨B1, c1, rfl, hB1, rfl, rfl⟩
    refine ⟨(.inr heldx), ?_⟩
    refine d_two 4 10 (by kernel_rfl) ?_ ?_
    · skip
      refine i_lits 4 rfl rfl rfl rfl (by rfl) (by rfl) (by rfl) (by decide) (by decide) (by rfl) .free rfl (.inr heldx) ?_
      intro b11
      refine d_two 5 10 (by kernel_rfl) ?_ ?_
      · skip
        refine i_appendB 5 (B := B1) (xs := l.map sv) (ys := [sv x]) (m := l.length) (c := c1) rfl rfl (by intro kk; simp) (by rfl) rfl rfl hB1 (by first | exact fun _ h => h | exact fun _ h => h.u1 | exact fun _ h => h.u2 | exact fun _ h => h.u3) (by rfl) (fun a ha => by cases ha; exact reads_ownL (by first | exact m0 | exact m1 | exact m2 | exact m3 | exact m4 | exact m5 | exact m6 | exact List.mem_append_right _ m0 | exact List.mem_append_right _ m1 | exact List.mem_append_right _ m2 | exact List.mem_append_right _ m3 | exact .tail _ (List.mem_append_right _ m0) | exact .tail _ (List.mem_append_right _ m1) | exact .tail _ (List.mem_append_right _ m2) | exact .tail _ (List.mem_append_right _ m3)) (by rfl)) (by simp) (by rfl) (by decide) (by omega) (by decide) .free rfl (fun _ => .inr heldx) ?_
        intro B2 c2 hB2
        rw [show l.map sv ++ [sv x] = (l ++ [x]).map sv by simp] at hB2 ⊢
        refine d_freezeStrs hB2 (by simp) (by simp [maxN]; omega) (by intro s hs; rcases List.mem_append.1 hs with hs | hs; exact h.names.each s hs; rw [List.mem_singleton.1 hs]; exact hx) ?_
        intro J1 o1 k1 e1 hbv1 hst1
        refine d_put (t := 12) rfl hbv1 ?_
        have h := h.mono e1
        have ht := ht.mono e1
        refine d_two 8 10 (by kernel_rfl) ?_ ?_
        · skip
          refine i_call 8 rfl rfl rfl .free rfl (f_slices_CloneF h.types _) ?_
          rintro _ _ _ _ ⟨vs, B3, c3, hl3, rfl, hB3, rfl, rfl⟩
          refine ⟨(.inr heldx), ?_⟩
          refine d_lits 10 rfl (by kernel_rfl) rfl rfl rfl (by rfl) (by rfl) (by rfl) (by decide) (by decide) (by rfl) .free rfl (.inr heldx) ?_
          intro b17
          refine d_appendB 11 (B := B3) (xs := vs) (ys := [.string (str t.tree.atom), .slice ot t.tree.parts.length ct]) (m := (m.map Ty.tree).length) (c := c3) rfl (by kernel_rfl) rfl (by intro kk; simp) (by rfl) rfl rfl hB3 (by first | exact fun _ h => h | exact fun _ h => h.u1 | exact fun _ h => h.u2 | exact fun _ h => h.u3) (by rfl) (fun a ha => by cases ha; exact reads_ownL (by first | exact m0 | exact m1 | exact m2 | exact m3 | exact m4 | exact m5 | exact m6 | exact List.mem_append_right _ m0 | exact List.mem_append_right _ m1 | exact List.mem_append_right _ m2 | exact List.mem_append_right _ m3 | exact .tail _ (List.mem_append_right _ m0) | exact .tail _ (List.mem_append_right _ m1) | exact .tail _ (List.mem_append_right _ m2) | exact .tail _ (List.mem_append_right _ m3)) (by rfl)) (by simp) (by rfl) (by decide) (by simp; omega) (by decide) .free rfl (fun _ => .inr heldx) ?_
          intro B4 c4 hB4
          refine d_freezeForms (ts := (m ++ [t]).map Ty.tree) (by simpa using hl3.append (.one ht)) hB4 (by simp) (by simp [maxN]; omega) ?_
          intro J2 o2 k2 e2 hbv2 hst2
          have hle0 := e1.trans e2
          refine d_put (t := 18) rfl hbv2 ?_
          refine d_takeA 12 rfl (by kernel_rfl) rfl (.inr heldx) (y_struct rfl rfl rfl) .free rfl ?_
          refine d_st 13 rfl (by kernel_rfl) rfl rfl rfl rfl rfl .free (.inl (by kernel_rfl)) ?_
          refine d_done (by kernel_rfl) ?_
          refine s_ret (.cell rfl (by first | exact loads_still1 (by assumption) rfl | exact loads_ownS (by first | exact m0 | exact m1 | exact m2 | exact m3 | exact m4 | exact m5 | exact m6 | exact List.mem_append_right _ m0 | exact List.mem_append_right _ m1 | exact List.mem_append_right _ m2 | exact List.mem_append_right _ m3 | exact .tail _ (List.mem_append_right _ m0) | exact .tail _ (List.mem_append_right _ m1) | exact .tail _ (List.mem_append_right _ m2) | exact .tail _ (List.mem_append_right _ m3)) (by rfl) | exact loads_own1 (by first | exact m0 | exact m1 | exact m2 | exact m3 | exact m4 | exact m5 | exact m6 | exact List.mem_append_right _ m0 | exact List.mem_append_right _ m1 | exact List.mem_append_right _ m2 | exact List.mem_append_right _ m3 | exact .tail _ (List.mem_append_right _ m0) | exact .tail _ (List.mem_append_right _ m1) | exact .tail _ (List.mem_append_right _ m2) | exact .tail _ (List.mem_append_right _ m3)) (by rfl) rfl | exact loads_stillS (by assumption) (by rfl) | exact loads_stillF (by assumption) (by rfl) rfl) .nil) ?_
          exact ⟨J2, L, e1.trans e2, (by intro _ h; first | exact h | exact dr1 h | exact dr2 h | exact dr3 h | exact dr4 h | exact dr5 h | exact dr6 h | exact dr6 h.drop | exact dr6 h.drop.drop | exact dr6 h.drop.drop.drop), o1, k1, o2, k2, rfl, ⟨hst1.mono e2, hst2, by simp [hlm], h.small.add hts⟩, rfl⟩
        · skip
          refine i_lits 10 rfl rfl rfl rfl (by rfl) (by rfl) (by rfl) (by decide) (by decide) (by rfl) .free rfl (.inr heldx) ?_
          intro b17
          refine d_call 8 rfl (by kernel_rfl) rfl rfl .free rfl (f_slices_CloneF h.types _) ?_
          rintro _ _ _ _ ⟨vs, B3, c3, hl3, rfl, hB3, rfl, rfl⟩
          refine ⟨(.inr heldx), ?_⟩
          refine d_appendB 11 (B := B3) (xs := vs) (ys := [.string (str t.tree.atom), .slice ot t.tree.parts.length ct]) (m := (m.map Ty.tree).length) (c := c3) rfl (by kernel_rfl) rfl (by intro kk; simp) (by rfl) rfl rfl hB3 (by first | exact fun _ h => h | exact fun _ h => h.u1 | exact fun _ h => h.u2 | exact fun _ h => h.u3) (by rfl) (fun a ha => by cases ha; exact reads_ownL (by first | exact m0 | exact m1 | exact m2 | exact m3 | exact m4 | exact m5 | exact m6 | exact List.mem_append_right _ m0 | exact List.mem_append_right _ m1 | exact List.mem_append_right _ m2 | exact List.mem_append_right _ m3 | exact .tail _ (List.mem_append_right _ m0) | exact .tail _ (List.mem_append_right _ m1) | exact .tail _ (List.mem_append_right _ m2) | exact .tail _ (List.mem_append_right _ m3)) (by rfl)) (by simp) (by rfl) (by decide) (by simp; omega) (by decide) .free rfl (fun _ => .inr heldx) ?_
          intro B4 c4 hB4
          refine d_freezeForms (ts := (m ++ [t]).map Ty.tree) (by simpa using hl3.append (.one ht)) hB4 (by simp) (by simp [maxN]; omega) ?_
          intro J2 o2 k2 e2 hbv2 hst2
          have hle0 := e1.trans e2
          refine d_put (t := 18) rfl hbv2 ?_
          refine d_takeA 12 rfl (by kernel_rfl) rfl (.inr heldx) (y_struct rfl rfl rfl) .free rfl ?_
          refine d_st 13 rfl (by kernel_rfl) rfl rfl rfl rfl rfl .free (.inl (by kernel_rfl)) ?_
          refine d_done (by kernel_rfl) ?_
          refine s_ret (.cell rfl (by first | exact loads_still1 (by assumption) rfl | exact loads_ownS (by first | exact m0 | exact m1 | exact m2 | exact m3 | exact m4 | exact m5 | exact m6 | exact List.mem_append_right _ m0 | exact List.mem_append_right _ m1 | exact List.mem_append_right _ m2 | exact List.mem_append_right _ m3 | exact .tail _ (List.mem_append_right _ m0) | exact .tail _ (List.mem_append_right _ m1) | exact .tail _ (List.mem_append_right _ m2) | exact .tail _ (List.mem_append_right _ m3)) (by rfl) | exact loads_own1 (by first | exact m0 | exact m1 | exact m2 | exact m3 | exact m4 | exact m5 | exact m6 | exact List.mem_append_right _ m0 | exact List.mem_append_right _ m1 | exact List.mem_append_right _ m2 | exact List.mem_append_right _ m3 | exact .tail _ (List.mem_append_right _ m0) | exact .tail _ (List.mem_append_right _ m1) | exact .tail _ (List.mem_append_right _ m2) | exact .tail _ (List.mem_append_right _ m3)) (by rfl) rfl | exact loads_stillS (by assumption) (by rfl) | exact loads_stillF (by assumption) (by rfl) rfl) .nil) ?_
          exact ⟨J2, L, e1.trans e2, (by intro _ h; first | exact h | exact dr1 h | exact dr2 h | exact dr3 h | exact dr4 h | exact dr5 h | exact dr6 h | exact dr6 h.drop | exact dr6 h.drop.drop | exact dr6 h.drop.drop.drop), o1, k1, o2, k2, rfl, ⟨hst1.mono e2, hst2, by simp [hlm], h.small.add hts⟩, rfl⟩
      · skip
        refine i_lits 10 rfl rfl rfl rfl (by rfl) (by rfl) (by rfl) (by decide) (by decide) (by rfl) .free rfl (.inr heldx) ?_
        intro b17
        refine d_appendB 5 (B := B1) (xs := l.map sv) (ys := [sv x]) (m := l.length) (c := c1) rfl (by kernel_rfl) rfl (by intro kk; simp) (by rfl) rfl rfl hB1 (by first | exact fun _ h => h | exact fun _ h => h.u1 | exact fun _ h => h.u2 | exact fun _ h => h.u3) (by rfl) (fun a ha => by cases ha; exact reads_ownL (by first | exact m0 | exact m1 | exact m2 | exact m3 | exact m4 | exact m5 | exact m6 | exact List.mem_append_right _ m0 | exact List.mem_append_right _ m1 | exact List.mem_append_right _ m2 | exact List.mem_append_right _ m3 | exact .tail _ (List.mem_append_right _ m0) | exact .tail _ (List.mem_append_right _ m1) | exact .tail _ (List.mem_append_right _ m2) | exact .tail _ (List.mem_append_right _ m3)) (by rfl)) (by simp) (by rfl) (by decide) (by omega) (by decide) .free rfl (fun _ => .inr heldx) ?_
        intro B2 c2 hB2
        rw [show l.map sv ++ [sv x] = (l ++ [x]).map sv by simp] at hB2 ⊢
        refine d_freezeStrs hB2 (by simp) (by simp [maxN]; omega) (by intro s hs; rcases List.mem_append.1 hs with hs | hs; exact h.names.each s hs; rw [List.mem_singleton.1 hs]; exact hx) ?_
        intro J1 o1 k1 e1 hbv1 hst1
        refine d_put (t := 12) rfl hbv1 ?_
        have h := h.mono e1
        have ht := ht.mono e1
        refine d_call 8 rfl (by kernel_rfl) rfl rfl .free rfl (f_slices_CloneF h.types _) ?_
        rintro _ _ _ _ ⟨vs, B3, c3, hl3, rfl, hB3, rfl, rfl⟩
        refine ⟨(.inr heldx), ?_⟩
        refine d_appendB 11 (B := B3) (xs := vs) (ys := [.string (str t.tree.atom), .slice ot t.tree.parts.length ct]) (m := (m.map Ty.tree).length) (c := c3) rfl (by kernel_rfl) rfl (by intro kk; simp) (by rfl) rfl rfl hB3 (by first | exact fun _ h => h | exact fun _ h => h.u1 | exact fun _ h => h.u2 | exact fun _ h => h.u3) (by rfl) (fun a ha => by cases ha; exact reads_ownL (by first | exact m0 | exact m1 | exact m2 | exact m3 | exact m4 | exact m5 | exact m6 | exact List.mem_append_right _ m0 | exact List.mem_append_right _ m1 | exact List.mem_append_right _ m2 | exact List.mem_append_right _ m3 | exact .tail _ (List.mem_append_right _ m0) | exact .tail _ (List.mem_append_right _ m1) | exact .tail _ (List.mem_append_right _ m2) | exact .tail _ (List.mem_append_right _ m3)) (by rfl)) (by simp) (by rfl) (by decide) (by simp; omega) (by decide) .free rfl (fun _ => .inr heldx) ?_
        intro B4 c4 hB4
        refine d_freezeForms (ts := (m ++ [t]).map Ty.tree) (by simpa using hl3.append (.one ht)) hB4 (by simp) (by simp [maxN]; omega) ?_
        intro J2 o2 k2 e2 hbv2 hst2
        have hle0 := e1.trans e2
        refine d_put (t := 18) rfl hbv2 ?_
        refine d_takeA 12 rfl (by kernel_rfl) rfl (.inr heldx) (y_struct rfl rfl rfl) .free rfl ?_
        refine d_st 13 rfl (by kernel_rfl) rfl rfl rfl rfl rfl .free (.inl (by kernel_rfl)) ?_
        refine d_done (by kernel_rfl) ?_
        refine s_ret (.cell rfl (by first | exact loads_still1 (by assumption) rfl | exact loads_ownS (by first | exact m0 | exact m1 | exact m2 | exact m3 | exact m4 | exact m5 | exact m6 | exact List.mem_append_right _ m0 | exact List.mem_append_right _ m1 | exact List.mem_append_right _ m2 | exact List.mem_append_right _ m3 | exact .tail _ (List.mem_append_right _ m0) | exact .tail _ (List.mem_append_right _ m1) | exact .tail _ (List.mem_append_right _ m2) | exact .tail _ (List.mem_append_right _ m3)) (by rfl) | exact loads_own1 (by first | exact m0 | exact m1 | exact m2 | exact m3 | exact m4 | exact m5 | exact m6 | exact List.mem_append_right _ m0 | exact List.mem_append_right _ m1 | exact List.mem_append_right _ m2 | exact List.mem_append_right _ m3 | exact .tail _ (List.mem_append_right _ m0) | exact .tail _ (List.mem_append_right _ m1) | exact .tail _ (List.mem_append_right _ m2) | exact .tail _ (List.mem_append_right _ m3)) (by rfl) rfl | exact loads_stillS (by assumption) (by rfl) | exact loads_stillF (by assumption) (by rfl) rfl) .nil) ?_
        exact ⟨J2, L, e1.trans e2, (by intro _ h; first | exact h | exact dr1 h | exact dr2 h | exact dr3 h | exact dr4 h | exact dr5 h | exact dr6 h | exact dr6 h.drop | exact dr6 h.drop.drop | exact dr6 h.drop.drop.drop), o1, k1, o2, k2, rfl, ⟨hst1.mono e2, hst2, by simp [hlm], h.small.add hts⟩, rfl⟩
    · skip
      refine i_lits 10 rfl rfl rfl rfl (by rfl) (by rfl) (by rfl) (by decide) (by decide) (by rfl) .free rfl (.inr heldx) ?_
      intro b17
      refine d_lits 4 rfl (by kernel_rfl) rfl rfl rfl (by rfl) (by rfl) (by rfl) (by decide) (by decide) (by rfl) .free rfl (.inr heldx) ?_
      intro b11
      refine d_appendB 5 (B := B1) (xs := l.map sv) (ys := [sv x]) (m := l.length) (c := c1) rfl (by kernel_rfl) rfl (by intro kk; simp) (by rfl) rfl rfl hB1 (by first | exact fun _ h => h | exact fun _ h => h.u1 | exact fun _ h => h.u2 | exact fun _ h => h.u3) (by rfl) (fun a ha => by cases ha; exact reads_ownL (by first | exact m0 | exact m1 | exact m2 | exact m3 | exact m4 | exact m5 | exact m6 | exact List.mem_append_right _ m0 | exact List.mem_append_right _ m1 | exact List.mem_append_right _ m2 | exact List.mem_append_right _ m3 | exact .tail _ (List.mem_append_right _ m0) | exact .tail _ (List.mem_append_right _ m1) | exact .tail _ (List.mem_append_right _ m2) | exact .tail _ (List.mem_append_right _ m3)) (by rfl)) (by simp) (by rfl) (by decide) (by omega) (by decide) .free rfl (fun _ => .inr heldx) ?_
      intro B2 c2 hB2
      rw [show l.map sv ++ [sv x] = (l ++ [x]).map sv by simp] at hB2 ⊢
      refine d_freezeStrs hB2 (by simp) (by simp [maxN]; omega) (by intro s hs; rcases List.mem_append.1 hs with hs | hs; exact h.names.each s hs; rw [List.mem_singleton.1 hs]; exact hx) ?_
      intro J1 o1 k1 e1 hbv1 hst1
      refine d_put (t := 12) rfl hbv1 ?_
      have h := h.mono e1
      have ht := ht.mono e1
      refine d_call 8 rfl (by kernel_rfl) rfl rfl .free rfl (f_slices_CloneF h.types _) ?_
      rintro _ _ _ _ ⟨vs, B3, c3, hl3, rfl, hB3, rfl, rfl⟩
      refine ⟨(.inr heldx), ?_⟩
      refine d_appendB 11 (B := B3) (xs := vs) (ys := [.string (str t.tree.atom), .slice ot t.tree.parts.length ct]) (m := (m.map Ty.tree).length) (c := c3) rfl (by kernel_rfl) rfl (by intro kk; simp) (by rfl) rfl rfl hB3 (by first | exact fun _ h => h | exact fun _ h => h.u1 | exact fun _ h => h.u2 | exact fun _ h => h.u3) (by rfl) (fun a ha => by cases ha; exact reads_ownL (by first | exact m0 | exact m1 | exact m2 | exact m3 | exact m4 | exact m5 | exact m6 | exact List.mem_append_right _ m0 | exact List.mem_append_right _ m1 | exact List.mem_append_right _ m2 | exact List.mem_append_right _ m3 | exact .tail _ (List.mem_append_right _ m0) | exact .tail _ (List.mem_append_right _ m1) | exact .tail _ (List.mem_append_right _ m2) | exact .tail _ (List.mem_append_right _ m3)) (by rfl)) (by simp) (by rfl) (by decide) (by simp; omega) (by decide) .free rfl (fun _ => .inr heldx) ?_
      intro B4 c4 hB4
      refine d_freezeForms (ts := (m ++ [t]).map Ty.tree) (by simpa using hl3.append (.one ht)) hB4 (by simp) (by simp [maxN]; omega) ?_
      intro J2 o2 k2 e2 hbv2 hst2
      have hle0 := e1.trans e2
      refine d_put (t := 18) rfl hbv2 ?_
      refine d_takeA 12 rfl (by kernel_rfl) rfl (.inr heldx) (y_struct rfl rfl rfl) .free rfl ?_
      refine d_st 13 rfl (by kernel_rfl) rfl rfl rfl rfl rfl .free (.inl (by kernel_rfl)) ?_
      refine d_done (by kernel_rfl) ?_
      refine s_ret (.cell rfl (by first | exact loads_still1 (by assumption) rfl | exact loads_ownS (by first | exact m0 | exact m1 | exact m2 | exact m3 | exact m4 | exact m5 | exact m6 | exact List.mem_append_right _ m0 | exact List.mem_append_right _ m1 | exact List.mem_append_right _ m2 | exact List.mem_append_right _ m3 | exact .tail _ (List.mem_append_right _ m0) | exact .tail _ (List.mem_append_right _ m1) | exact .tail _ (List.mem_append_right _ m2) | exact .tail _ (List.mem_append_right _ m3)) (by rfl) | exact loads_own1 (by first | exact m0 | exact m1 | exact m2 | exact m3 | exact m4 | exact m5 | exact m6 | exact List.mem_append_right _ m0 | exact List.mem_append_right _ m1 | exact List.mem_append_right _ m2 | exact List.mem_append_right _ m3 | exact .tail _ (List.mem_append_right _ m0) | exact .tail _ (List.mem_append_right _ m1) | exact .tail _ (List.mem_append_right _ m2) | exact .tail _ (List.mem_append_right _ m3)) (by rfl) rfl | exact loads_stillS (by assumption) (by rfl) | exact loads_stillF (by assumption) (by rfl) rfl) .nil) ?_
      exact ⟨J2, L, e1.trans e2, (by intro _ h; first | exact h | exact dr1 h | exact dr2 h | exact dr3 h | exact dr4 h | exact dr5 h | exact dr6 h | exact dr6 h.drop | exact dr6 h.drop.drop | exact dr6 h.drop.drop.drop), o1, k1, o2, k2, rfl, ⟨hst1.mono e2, hst2, by simp [hlm], h.small.add hts⟩, rfl⟩
  · skip
    refine i_lits 4 rfl rfl rfl rfl (by rfl) (by rfl) (by rfl) (by decide) (by decide) (by rfl) .free rfl (.inr heldx) ?_
    intro b11
    refine d_two 2 10 (by kernel_rfl) ?_ ?_
    · skip
      refine i_call 2 rfl rfl rfl .free rfl (f_slices_CloneS h.names _) ?_
      rintro _ _ _ _ ⟨B1, c1, rfl, hB1, rfl, rfl⟩
      refine ⟨(.inr heldx), ?_⟩
      refine d_two 5 10 (by kernel_rfl) ?_ ?_
      · skip
        refine i_appendB 5 (B := B1) (xs := l.map sv) (ys := [sv x]) (m := l.length) (c := c1) rfl rfl (by intro kk; simp) (by rfl) rfl rfl hB1 (by first | exact fun _ h => h | exact fun _ h => h.u1 | exact fun _ h => h.u2 | exact fun _ h => h.u3) (by rfl) (fun a ha => by cases ha; exact reads_ownL (by first | exact m0 | exact m1 | exact m2 | exact m3 | exact m4 | exact m5 | exact m6 | exact List.mem_append_right _ m0 | exact List.mem_append_right _ m1 | exact List.mem_append_right _ m2 | exact List.mem_append_right _ m3 | exact .tail _ (List.mem_append_right _ m0) | exact .tail _ (List.mem_append_right _ m1) | exact .tail _ (List.mem_append_right _ m2) | exact .tail _ (List.mem_append_right _ m3)) (by rfl)) (by simp) (by rfl) (by decide) (by omega) (by decide) .free rfl (fun _ => .inr heldx) ?_
        intro B2 c2 hB2
        rw [show l.map sv ++ [sv x] = (l ++ [x]).map sv by simp] at hB2 ⊢
        refine d_freezeStrs hB2 (by simp) (by simp [maxN]; omega) (by intro s hs; rcases List.mem_append.1 hs with hs | hs; exact h.names.each s hs; rw [List.mem_singleton.1 hs]; exact hx) ?_
        intro J1 o1 k1 e1 hbv1 hst1
        refine d_put (t := 12) rfl hbv1 ?_
        have h := h.mono e1
        have ht := ht.mono e1
        refine d_two 8 10 (by kernel_rfl) ?_ ?_
        · skip
          refine i_call 8 rfl rfl rfl .free rfl (f_slices_CloneF h.types _) ?_
          rintro _ _ _ _ ⟨vs, B3, c3, hl3, rfl, hB3, rfl, rfl⟩
          refine ⟨(.inr heldx), ?_⟩
          refine d_lits 10 rfl (by kernel_rfl) rfl rfl rfl (by rfl) (by rfl) (by rfl) (by decide) (by decide) (by rfl) .free rfl (.inr heldx) ?_
          intro b17
          refine d_appendB 11 (B := B3) (xs := vs) (ys := [.string (str t.tree.atom), .slice ot t.tree.parts.length ct]) (m := (m.map Ty.tree).length) (c := c3) rfl (by kernel_rfl) rfl (by intro kk; simp) (by rfl) rfl rfl hB3 (by first | exact fun _ h => h | exact fun _ h => h.u1 | exact fun _ h => h.u2 | exact fun _ h => h.u3) (by rfl) (fun a ha => by cases ha; exact reads_ownL (by first | exact m0 | exact m1 | exact m2 | exact m3 | exact m4 | exact m5 | exact m6 | exact List.mem_append_right _ m0 | exact List.mem_append_right _ m1 | exact List.mem_append_right _ m2 | exact List.mem_append_right _ m3 | exact .tail _ (List.mem_append_right _ m0) | exact .tail _ (List.mem_append_right _ m1) | exact .tail _ (List.mem_append_right _ m2) | exact .tail _ (List.mem_append_right _ m3)) (by rfl)) (by simp) (by rfl) (by decide) (by simp; omega) (by decide) .free rfl (fun _ => .inr heldx) ?_
          intro B4 c4 hB4
          refine d_freezeForms (ts := (m ++ [t]).map Ty.tree) (by simpa using hl3.append (.one ht)) hB4 (by simp) (by simp [maxN]; omega) ?_
          intro J2 o2 k2 e2 hbv2 hst2
          have hle0 := e1.trans e2
          refine d_put (t := 18) rfl hbv2 ?_
          refine d_takeA 12 rfl (by kernel_rfl) rfl (.inr heldx) (y_struct rfl rfl rfl) .free rfl ?_
          refine d_st 13 rfl (by kernel_rfl) rfl rfl rfl rfl rfl .free (.inl (by kernel_rfl)) ?_
          refine d_done (by kernel_rfl) ?_
          refine s_ret (.cell rfl (by first | exact loads_still1 (by assumption) rfl | exact loads_ownS (by first | exact m0 | exact m1 | exact m2 | exact m3 | exact m4 | exact m5 | exact m6 | exact List.mem_append_right _ m0 | exact List.mem_append_right _ m1 | exact List.mem_append_right _ m2 | exact List.mem_append_right _ m3 | exact .tail _ (List.mem_append_right _ m0) | exact .tail _ (List.mem_append_right _ m1) | exact .tail _ (List.mem_append_right _ m2) | exact .tail _ (List.mem_append_right _ m3)) (by rfl) | exact loads_own1 (by first | exact m0 | exact m1 | exact m2 | exact m3 | exact m4 | exact m5 | exact m6 | exact List.mem_append_right _ m0 | exact List.mem_append_right _ m1 | exact List.mem_append_right _ m2 | exact List.mem_append_right _ m3 | exact .tail _ (List.mem_append_right _ m0) | exact .tail _ (List.mem_append_right _ m1) | exact .tail _ (List.mem_append_right _ m2) | exact .tail _ (List.mem_append_right _ m3)) (by rfl) rfl | exact loads_stillS (by assumption) (by rfl) | exact loads_stillF (by assumption) (by rfl) rfl) .nil) ?_
          exact ⟨J2, L, e1.trans e2, (by intro _ h; first | exact h | exact dr1 h | exact dr2 h | exact dr3 h | exact dr4 h | exact dr5 h | exact dr6 h | exact dr6 h.drop | exact dr6 h.drop.drop | exact dr6 h.drop.drop.drop), o1, k1, o2, k2, rfl, ⟨hst1.mono e2, hst2, by simp [hlm], h.small.add hts⟩, rfl⟩
        · skip
          refine i_lits 10 rfl rfl rfl rfl (by rfl) (by rfl) (by rfl) (by decide) (by decide) (by rfl) .free rfl (.inr heldx) ?_
          intro b17
          refine d_call 8 rfl (by kernel_rfl) rfl rfl .free rfl (f_slices_CloneF h.types _) ?_
          rintro _ _ _ _ ⟨vs, B3, c3, hl3, rfl, hB3, rfl, rfl⟩
          refine ⟨(.inr heldx), ?_⟩
          refine d_appendB 11 (B := B3) (xs := vs) (ys := [.string (str t.tree.atom), .slice ot t.tree.parts.length ct]) (m := (m.map Ty.tree).length) (c := c3) rfl (by kernel_rfl) rfl (by intro kk; simp) (by rfl) rfl rfl hB3 (by first | exact fun _ h => h | exact fun _ h => h.u1 | exact fun _ h => h.u2 | exact fun _ h => h.u3) (by rfl) (fun a ha => by cases ha; exact reads_ownL (by first | exact m0 | exact m1 | exact m2 | exact m3 | exact m4 | exact m5 | exact m6 | exact List.mem_append_right _ m0 | exact List.mem_append_right _ m1 | exact List.mem_append_right _ m2 | exact List.mem_append_right _ m3 | exact .tail _ (List.mem_append_right _ m0) | exact .tail _ (List.mem_append_right _ m1) | exact .tail _ (List.mem_append_right _ m2) | exact .tail _ (List.mem_append_right _ m3)) (by rfl)) (by simp) (by rfl) (by decide) (by simp; omega) (by decide) .free rfl (fun _ => .inr heldx) ?_
          intro B4 c4 hB4
          refine d_freezeForms (ts := (m ++ [t]).map Ty.tree) (by simpa using hl3.append (.one ht)) hB4 (by simp) (by simp [maxN]; omega) ?_
          intro J2 o2 k2 e2 hbv2 hst2
          have hle0 := e1.trans e2
          refine d_put (t := 18) rfl hbv2 ?_
          refine d_takeA 12 rfl (by kernel_rfl) rfl (.inr heldx) (y_struct rfl rfl rfl) .free rfl ?_
          refine d_st 13 rfl (by kernel_rfl) rfl rfl rfl rfl rfl .free (.inl (by kernel_rfl)) ?_
          refine d_done (by kernel_rfl) ?_
          refine s_ret (.cell rfl (by first | exact loads_still1 (by assumption) rfl | exact loads_ownS (by first | exact m0 | exact m1 | exact m2 | exact m3 | exact m4 | exact m5 | exact m6 | exact List.mem_append_right _ m0 | exact List.mem_append_right _ m1 | exact List.mem_append_right _ m2 | exact List.mem_append_right _ m3 | exact .tail _ (List.mem_append_right _ m0) | exact .tail _ (List.mem_append_right _ m1) | exact .tail _ (List.mem_append_right _ m2) | exact .tail _ (List.mem_append_right _ m3)) (by rfl) | exact loads_own1 (by first | exact m0 | exact m1 | exact m2 | exact m3 | exact m4 | exact m5 | exact m6 | exact List.mem_append_right _ m0 | exact List.mem_append_right _ m1 | exact List.mem_append_right _ m2 | exact List.mem_append_right _ m3 | exact .tail _ (List.mem_append_right _ m0) | exact .tail _ (List.mem_append_right _ m1) | exact .tail _ (List.mem_append_right _ m2) | exact .tail _ (List.mem_append_right _ m3)) (by rfl) rfl | exact loads_stillS (by assumption) (by rfl) | exact loads_stillF (by assumption) (by rfl) rfl) .nil) ?_
          exact ⟨J2, L, e1.trans e2, (by intro _ h; first | exact h | exact dr1 h | exact dr2 h | exact dr3 h | exact dr4 h | exact dr5 h | exact dr6 h | exact dr6 h.drop | exact dr6 h.drop.drop | exact dr6 h.drop.drop.drop), o1, k1, o2, k2, rfl, ⟨hst1.mono e2, hst2, by simp [hlm], h.small.add hts⟩, rfl⟩
      · skip
        refine i_lits 10 rfl rfl rfl rfl (by rfl) (by rfl) (by rfl) (by decide) (by decide) (by rfl) .free rfl (.inr heldx) ?_
        intro b17
        refine d_appendB 5 (B := B1) (xs := l.map sv) (ys := [sv x]) (m := l.length) (c := c1) rfl (by kernel_rfl) rfl (by intro kk; simp) (by rfl) rfl rfl hB1 (by first | exact fun _ h => h | exact fun _ h => h.u1 | exact fun _ h => h.u2 | exact fun _ h => h.u3) (by rfl) (fun a ha => by cases ha; exact reads_ownL (by first | exact m0 | exact m1 | exact m2 | exact m3 | exact m4 | exact m5 | exact m6 | exact List.mem_append_right _ m0 | exact List.mem_append_right _ m1 | exact List.mem_append_right _ m2 | exact List.mem_append_right _ m3 | exact .tail _ (List.mem_append_right _ m0) | exact .tail _ (List.mem_append_right _ m1) | exact .tail _ (List.mem_append_right _ m2) | exact .tail _ (List.mem_append_right _ m3)) (by rfl)) (by simp) (by rfl) (by decide) (by omega) (by decide) .free rfl (fun _ => .inr heldx) ?_
        intro B2 c2 hB2
        rw [show l.map sv ++ [sv x] = (l ++ [x]).map sv by simp] at hB2 ⊢
        refine d_freezeStrs hB2 (by simp) (by simp [maxN]; omega) (by intro s hs; rcases List.mem_append.1 hs with hs | hs; exact h.names.each s hs; rw [List.mem_singleton.1 hs]; exact hx) ?_
        intro J1 o1 k1 e1 hbv1 hst1
        refine d_put (t := 12) rfl hbv1 ?_
        have h := h.mono e1
        have ht := ht.mono e1
        refine d_call 8 rfl (by kernel_rfl) rfl rfl .free rfl (f_slices_CloneF h.types _) ?_
        rintro _ _ _ _ ⟨vs, B3, c3, hl3, rfl, hB3, rfl, rfl⟩
        refine ⟨(.inr heldx), ?_⟩
        refine d_appendB 11 (B := B3) (xs := vs) (ys := [.string (str t.tree.atom), .slice ot t.tree.parts.length ct]) (m := (m.map Ty.tree).length) (c := c3) rfl (by kernel_rfl) rfl (by intro kk; simp) (by rfl) rfl rfl hB3 (by first | exact fun _ h => h | exact fun _ h => h.u1 | exact fun _ h => h.u2 | exact fun _ h => h.u3) (by rfl) (fun a ha => by cases ha; exact reads_ownL (by first | exact m0 | exact m1 | exact m2 | exact m3 | exact m4 | exact m5 | exact m6 | exact List.mem_append_right _ m0 | exact List.mem_append_right _ m1 | exact List.mem_append_right _ m2 | exact List.mem_append_right _ m3 | exact .tail _ (List.mem_append_right _ m0) | exact .tail _ (List.mem_append_right _ m1) | exact .tail _ (List.mem_append_right _ m2) | exact .tail _ (List.mem_append_right _ m3)) (by rfl)) (by simp) (by rfl) (by decide) (by simp; omega) (by decide) .free rfl (fun _ => .inr heldx) ?_
        intro B4 c4 hB4
        refine d_freezeForms (ts := (m ++ [t]).map Ty.tree) (by simpa using hl3.append (.one ht)) hB4 (by simp) (by simp [maxN]; omega) ?_
        intro J2 o2 k2 e2 hbv2 hst2
        have hle0 := e1.trans e2
        refine d_put (t := 18) rfl hbv2 ?_
        refine d_takeA 12 rfl (by kernel_rfl) rfl (.inr heldx) (y_struct rfl rfl rfl) .free rfl ?_
        refine d_st 13 rfl (by kernel_rfl) rfl rfl rfl rfl rfl .free (.inl (by kernel_rfl)) ?_
        refine d_done (by kernel_rfl) ?_
        refine s_ret (.cell rfl (by first | exact loads_still1 (by assumption) rfl | exact loads_ownS (by first | exact m0 | exact m1 | exact m2 | exact m3 | exact m4 | exact m5 | exact m6 | exact List.mem_append_right _ m0 | exact List.mem_append_right _ m1 | exact List.mem_append_right _ m2 | exact List.mem_append_right _ m3 | exact .tail _ (List.mem_append_right _ m0) | exact .tail _ (List.mem_append_right _ m1) | exact .tail _ (List.mem_append_right _ m2) | exact .tail _ (List.mem_append_right _ m3)) (by rfl) | exact loads_own1 (by first | exact m0 | exact m1 | exact m2 | exact m3 | exact m4 | exact m5 | exact m6 | exact List.mem_append_right _ m0 | exact List.mem_append_right _ m1 | exact List.mem_append_right _ m2 | exact List.mem_append_right _ m3 | exact .tail _ (List.mem_append_right _ m0) | exact .tail _ (List.mem_append_right _ m1) | exact .tail _ (List.mem_append_right _ m2) | exact .tail _ (List.mem_append_right _ m3)) (by rfl) rfl | exact loads_stillS (by assumption) (by rfl) | exact loads_stillF (by assumption) (by rfl) rfl) .nil) ?_
        exact ⟨J2, L, e1.trans e2, (by intro _ h; first | exact h | exact dr1 h | exact dr2 h | exact dr3 h | exact dr4 h | exact dr5 h | exact dr6 h | exact dr6 h.drop | exact dr6 h.drop.drop | exact dr6 h.drop.drop.drop), o1, k1, o2, k2, rfl, ⟨hst1.mono e2, hst2, by simp [hlm], h.small.add hts⟩, rfl⟩
    · skip
      refine i_lits 10 rfl rfl rfl rfl (by rfl) (by rfl) (by rfl) (by decide) (by decide) (by rfl) .free rfl (.inr heldx) ?_
      intro b17
      refine d_call 2 rfl (by kernel_rfl) rfl rfl .free rfl (f_slices_CloneS h.names _) ?_
      rintro _ _ _ _ ⟨B1, c1, rfl, hB1, rfl, rfl⟩
      refine ⟨(.inr heldx), ?_⟩
      refine d_appendB 5 (B := B1) (xs := l.map sv) (ys := [sv x]) (m := l.length) (c := c1) rfl (by kernel_rfl) rfl (by intro kk; simp) (by rfl) rfl rfl hB1 (by first | exact fun _ h => h | exact fun _ h => h.u1 | exact fun _ h => h.u2 | exact fun _ h => h.u3) (by rfl) (fun a ha => by cases ha; exact reads_ownL (by first | exact m0 | exact m1 | exact m2 | exact m3 | exact m4 | exact m5 | exact m6 | exact List.mem_append_right _ m0 | exact List.mem_append_right _ m1 | exact List.mem_append_right _ m2 | exact List.mem_append_right _ m3 | exact .tail _ (List.mem_append_right _ m0) | exact .tail _ (List.mem_append_right _ m1) | exact .tail _ (List.mem_append_right _ m2) | exact .tail _ (List.mem_append_right _ m3)) (by rfl)) (by simp) (by rfl) (by decide) (by omega) (by decide) .free rfl (fun _ => .inr heldx) ?_
      intro B2 c2 hB2
      rw [show l.map sv ++ [sv x] = (l ++ [x]).map sv by simp] at hB2 ⊢
      refine d_freezeStrs hB2 (by simp) (by simp [maxN]; omega) (by intro s hs; rcases List.mem_append.1 hs with hs | hs; exact h.names.each s hs; rw [List.mem_singleton.1 hs]; exact hx) ?_
      intro J1 o1 k1 e1 hbv1 hst1
      refine d_put (t := 12) rfl hbv1 ?_
      have h := h.mono e1
      have ht := ht.mono e1
      refine d_call 8 rfl (by kernel_rfl) rfl rfl .free rfl (f_slices_CloneF h.types _) ?_
      rintro _ _ _ _ ⟨vs, B3, c3, hl3, rfl, hB3, rfl, rfl⟩
      refine ⟨(.inr heldx), ?_⟩
      refine d_appendB 11 (B := B3) (xs := vs) (ys := [.string (str t.tree.atom), .slice ot t.tree.parts.length ct]) (m := (m.map Ty.tree).length) (c := c3) rfl (by kernel_rfl) rfl (by intro kk; simp) (by rfl) rfl rfl hB3 (by first | exact fun _ h => h | exact fun _ h => h.u1 | exact fun _ h => h.u2 | exact fun _ h => h.u3) (by rfl) (fun a ha => by cases ha; exact reads_ownL (by first | exact m0 | exact m1 | exact m2 | exact m3 | exact m4 | exact m5 | exact m6 | exact List.mem_append_right _ m0 | exact List.mem_append_right _ m1 | exact List.mem_append_right _ m2 | exact List.mem_append_right _ m3 | exact .tail _ (List.mem_append_right _ m0) | exact .tail _ (List.mem_append_right _ m1) | exact .tail _ (List.mem_append_right _ m2) | exact .tail _ (List.mem_append_right _ m3)) (by rfl)) (by simp) (by rfl) (by decide) (by simp; omega) (by decide) .free rfl (fun _ => .inr heldx) ?_
      intro B4 c4 hB4
      refine d_freezeForms (ts := (m ++ [t]).map Ty.tree) (by simpa using hl3.append (.one ht)) hB4 (by simp) (by simp [maxN]; omega) ?_
      intro J2 o2 k2 e2 hbv2 hst2
      have hle0 := e1.trans e2
      refine d_put (t := 18) rfl hbv2 ?_
      refine d_takeA 12 rfl (by kernel_rfl) rfl (.inr heldx) (y_struct rfl rfl rfl) .free rfl ?_
      refine d_st 13 rfl (by kernel_rfl) rfl rfl rfl rfl rfl .free (.inl (by kernel_rfl)) ?_
      refine d_done (by kernel_rfl) ?_
      refine s_ret (.cell rfl (by first | exact loads_still1 (by assumption) rfl | exact loads_ownS (by first | exact m0 | exact m1 | exact m2 | exact m3 | exact m4 | exact m5 | exact m6 | exact List.mem_append_right _ m0 | exact List.mem_append_right _ m1 | exact List.mem_append_right _ m2 | exact List.mem_append_right _ m3 | exact .tail _ (List.mem_append_right _ m0) | exact .tail _ (List.mem_append_right _ m1) | exact .tail _ (List.mem_append_right _ m2) | exact .tail _ (List.mem_append_right _ m3)) (by rfl) | exact loads_own1 (by first | exact m0 | exact m1 | exact m2 | exact m3 | exact m4 | exact m5 | exact m6 | exact List.mem_append_right _ m0 | exact List.mem_append_right _ m1 | exact List.mem_append_right _ m2 | exact List.mem_append_right _ m3 | exact .tail _ (List.mem_append_right _ m0) | exact .tail _ (List.mem_append_right _ m1) | exact .tail _ (List.mem_append_right _ m2) | exact .tail _ (List.mem_append_right _ m3)) (by rfl) rfl | exact loads_stillS (by assumption) (by rfl) | exact loads_stillF (by assumption) (by rfl) rfl) .nil) ?_
      exact ⟨J2, L, e1.trans e2, (by intro _ h; first | exact h | exact dr1 h | exact dr2 h | exact dr3 h | exact dr4 h | exact dr5 h | exact dr6 h | exact dr6 h.drop | exact dr6 h.drop.drop | exact dr6 h.drop.drop.drop), o1, k1, o2, k2, rfl, ⟨hst1.mono e2, hst2, by simp [hlm], h.small.add hts⟩, rfl⟩
  · skip
    refine i_lits 10 rfl rfl rfl rfl (by rfl) (by rfl) (by rfl) (by decide) (by decide) (by rfl) .free rfl (.inr heldx) ?_
    intro b17
    refine d_two 2 4 (by kernel_rfl) ?_ ?_
    · skip
      refine i_call 2 rfl rfl rfl .free rfl (f_slices_CloneS h.names _) ?_
      rintro _ _ _ _ ⟨B1, c1, rfl, hB1, rfl, rfl⟩
      refine ⟨(.inr heldx), ?_⟩
      refine d_lits 4 rfl (by kernel_rfl) rfl rfl rfl (by rfl) (by rfl) (by rfl) (by decide) (by decide) (by rfl) .free rfl (.inr heldx) ?_
      intro b11
      refine d_appendB 5 (B := B1) (xs := l.map sv) (ys := [sv x]) (m := l.length) (c := c1) rfl (by kernel_rfl) rfl (by intro kk; simp) (by rfl) rfl rfl hB1 (by first | exact fun _ h => h | exact fun _ h => h.u1 | exact fun _ h => h.u2 | exact fun _ h => h.u3) (by rfl) (fun a ha => by cases ha; exact reads_ownL (by first | exact m0 | exact m1 | exact m2 | exact m3 | exact m4 | exact m5 | exact m6 | exact List.mem_append_right _ m0 | exact List.mem_append_right _ m1 | exact List.mem_append_right _ m2 | exact List.mem_append_right _ m3 | exact .tail _ (List.mem_append_right _ m0) | exact .tail _ (List.mem_append_right _ m1) | exact .tail _ (List.mem_append_right _ m2) | exact .tail _ (List.mem_append_right _ m3)) (by rfl)) (by simp) (by rfl) (by decide) (by omega) (by decide) .free rfl (fun _ => .inr heldx) ?_
      intro B2 c2 hB2
      rw [show l.map sv ++ [sv x] = (l ++ [x]).map sv by simp] at hB2 ⊢
      refine d_freezeStrs hB2 (by simp) (by simp [maxN]; omega) (by intro s hs; rcases List.mem_append.1 hs with hs | hs; exact h.names.each s hs; rw [List.mem_singleton.1 hs]; exact hx) ?_
      intro J1 o1 k1 e1 hbv1 hst1
      refine d_put (t := 12) rfl hbv1 ?_
      have h := h.mono e1
      have ht := ht.mono e1
      refine d_call 8 rfl (by kernel_rfl) rfl rfl .free rfl (f_slices_CloneF h.types _) ?_
      rintro _ _ _ _ ⟨vs, B3, c3, hl3, rfl, hB3, rfl, rfl⟩
      refine ⟨(.inr heldx), ?_⟩
      refine d_appendB 11 (B := B3) (xs := vs) (ys := [.string (str t.tree.atom), .slice ot t.tree.parts.length ct]) (m := (m.map Ty.tree).length) (c := c3) rfl (by kernel_rfl) rfl (by intro kk; simp) (by rfl) rfl rfl hB3 (by first | exact fun _ h => h | exact fun _ h => h.u1 | exact fun _ h => h.u2 | exact fun _ h => h.u3) (by rfl) (fun a ha => by cases ha; exact reads_ownL (by first | exact m0 | exact m1 | exact m2 | exact m3 | exact m4 | exact m5 | exact m6 | exact List.mem_append_right _ m0 | exact List.mem_append_right _ m1 | exact List.mem_append_right _ m2 | exact List.mem_append_right _ m3 | exact .tail _ (List.mem_append_right _ m0) | exact .tail _ (List.mem_append_right _ m1) | exact .tail _ (List.mem_append_right _ m2) | exact .tail _ (List.mem_append_right _ m3)) (by rfl)) (by simp) (by rfl) (by decide) (by simp; omega) (by decide) .free rfl (fun _ => .inr heldx) ?_
      intro B4 c4 hB4
      refine d_freezeForms (ts := (m ++ [t]).map Ty.tree) (by simpa using hl3.append (.one ht)) hB4 (by simp) (by simp [maxN]; omega) ?_
      intro J2 o2 k2 e2 hbv2 hst2
      have hle0 := e1.trans e2
      refine d_put (t := 18) rfl hbv2 ?_
      refine d_takeA 12 rfl (by kernel_rfl) rfl (.inr heldx) (y_struct rfl rfl rfl) .free rfl ?_
      refine d_st 13 rfl (by kernel_rfl) rfl rfl rfl rfl rfl .free (.inl (by kernel_rfl)) ?_
      refine d_done (by kernel_rfl) ?_
      refine s_ret (.cell rfl (by first | exact loads_still1 (by assumption) rfl | exact loads_ownS (by first | exact m0 | exact m1 | exact m2 | exact m3 | exact m4 | exact m5 | exact m6 | exact List.mem_append_right _ m0 | exact List.mem_append_right _ m1 | exact List.mem_append_right _ m2 | exact List.mem_append_right _ m3 | exact .tail _ (List.mem_append_right _ m0) | exact .tail _ (List.mem_append_right _ m1) | exact .tail _ (List.mem_append_right _ m2) | exact .tail _ (List.mem_append_right _ m3)) (by rfl) | exact loads_own1 (by first | exact m0 | exact m1 | exact m2 | exact m3 | exact m4 | exact m5 | exact m6 | exact List.mem_append_right _ m0 | exact List.mem_append_right _ m1 | exact List.mem_append_right _ m2 | exact List.mem_append_right _ m3 | exact .tail _ (List.mem_append_right _ m0) | exact .tail _ (List.mem_append_right _ m1) | exact .tail _ (List.mem_append_right _ m2) | exact .tail _ (List.mem_append_right _ m3)) (by rfl) rfl | exact loads_stillS (by assumption) (by rfl) | exact loads_stillF (by assumption) (by rfl) rfl) .nil) ?_
      exact ⟨J2, L, e1.trans e2, (by intro _ h; first | exact h | exact dr1 h | exact dr2 h | exact dr3 h | exact dr4 h | exact dr5 h | exact dr6 h | exact dr6 h.drop | exact dr6 h.drop.drop | exact dr6 h.drop.drop.drop), o1, k1, o2, k2, rfl, ⟨hst1.mono e2, hst2, by simp [hlm], h.small.add hts⟩, rfl⟩
    · skip
      refine i_lits 4 rfl rfl rfl rfl (by rfl) (by rfl) (by rfl) (by decide) (by decide) (by rfl) .free rfl (.inr heldx) ?_
      intro b11
      refine d_call 2 rfl (by kernel_rfl) rfl rfl .free rfl (f_slices_CloneS h.names _) ?_
      rintro _ _ _ _ ⟨B1, c1, rfl, hB1, rfl, rfl⟩
      refine ⟨(.inr heldx), ?_⟩
      refine d_appendB 5 (B := B1) (xs := l.map sv) (ys := [sv x]) (m := l.length) (c := c1) rfl (by kernel_rfl) rfl (by intro kk; simp) (by rfl) rfl rfl hB1 (by first | exact fun _ h => h | exact fun _ h => h.u1 | exact fun _ h => h.u2 | exact fun _ h => h.u3) (by rfl) (fun a ha => by cases ha; exact reads_ownL (by first | exact m0 | exact m1 | exact m2 | exact m3 | exact m4 | exact m5 | exact m6 | exact List.mem_append_right _ m0 | exact List.mem_append_right _ m1 | exact List.mem_append_right _ m2 | exact List.mem_append_right _ m3 | exact .tail _ (List.mem_append_right _ m0) | exact .tail _ (List.mem_append_right _ m1) | exact .tail _ (List.mem_append_right _ m2) | exact .tail _ (List.mem_append_right _ m3)) (by rfl)) (by simp) (by rfl) (by decide) (by omega) (by decide) .free rfl (fun _ => .inr heldx) ?_
      intro B2 c2 hB2
      rw [show l.map sv ++ [sv x] = (l ++ [x]).map sv by simp] at hB2 ⊢
      refine d_freezeStrs hB2 (by simp) (by simp [maxN]; omega) (by intro s hs; rcases List.mem_append.1 hs with hs | hs; exact h.names.each s hs; rw [List.mem_singleton.1 hs]; exact hx) ?_
      intro J1 o1 k1 e1 hbv1 hst1
      refine d_put (t := 12) rfl hbv1 ?_
      have h := h.mono e1
      have ht := ht.mono e1
      refine d_call 8 rfl (by kernel_rfl) rfl rfl .free rfl (f_slices_CloneF h.types _) ?_
      rintro _ _ _ _ ⟨vs, B3, c3, hl3, rfl, hB3, rfl, rfl⟩
      refine ⟨(.inr heldx), ?_⟩
      refine d_appendB 11 (B := B3) (xs := vs) (ys := [.string (str t.tree.atom), .slice ot t.tree.parts.length ct]) (m := (m.map Ty.tree).length) (c := c3) rfl (by kernel_rfl) rfl (by intro kk; simp) (by rfl) rfl rfl hB3 (by first | exact fun _ h => h | exact fun _ h => h.u1 | exact fun _ h => h.u2 | exact fun _ h => h.u3) (by rfl) (fun a ha => by cases ha; exact reads_ownL (by first | exact m0 | exact m1 | exact m2 | exact m3 | exact m4 | exact m5 | exact m6 | exact List.mem_append_right _ m0 | exact List.mem_append_right _ m1 | exact List.mem_append_right _ m2 | exact List.mem_append_right _ m3 | exact .tail _ (List.mem_append_right _ m0) | exact .tail _ (List.mem_append_right _ m1) | exact .tail _ (List.mem_append_right _ m2) | exact .tail _ (List.mem_append_right _ m3)) (by rfl)) (by simp) (by rfl) (by decide) (by simp; omega) (by decide) .free rfl (fun _ => .inr heldx) ?_
      intro B4 c4 hB4
      refine d_freezeForms (ts := (m ++ [t]).map Ty.tree) (by simpa using hl3.append (.one ht)) hB4 (by simp) (by simp [maxN]; omega) ?_
      intro J2 o2 k2 e2 hbv2 hst2
      have hle0 := e1.trans e2
      refine d_put (t := 18) rfl hbv2 ?_
      refine d_takeA 12 rfl (by kernel_rfl) rfl (.inr heldx) (y_struct rfl rfl rfl) .free rfl ?_
      refine d_st 13 rfl (by kernel_rfl) rfl rfl rfl rfl rfl .free (.inl (by kernel_rfl)) ?_
      refine d_done (by kernel_rfl) ?_
      refine s_ret (.cell rfl (by first | exact loads_still1 (by assumption) rfl | exact loads_ownS (by first | exact m0 | exact m1 | exact m2 | exact m3 | exact m4 | exact m5 | exact m6 | exact List.mem_append_right _ m0 | exact List.mem_append_right _ m1 | exact List.mem_append_right _ m2 | exact List.mem_append_right _ m3 | exact .tail _ (List.mem_append_right _ m0) | exact .tail _ (List.mem_append_right _ m1) | exact .tail _ (List.mem_append_right _ m2) | exact .tail _ (List.mem_append_right _ m3)) (by rfl) | exact loads_own1 (by first | exact m0 | exact m1 | exact m2 | exact m3 | exact m4 | exact m5 | exact m6 | exact List.mem_append_right _ m0 | exact List.mem_append_right _ m1 | exact List.mem_append_right _ m2 | exact List.mem_append_right _ m3 | exact .tail _ (List.mem_append_right _ m0) | exact .tail _ (List.mem_append_right _ m1) | exact .tail _ (List.mem_append_right _ m2) | exact .tail _ (List.mem_append_right _ m3)) (by rfl) rfl | exact loads_stillS (by assumption) (by rfl) | exact loads_stillF (by assumption) (by rfl) rfl) .nil) ?_
      exact ⟨J2, L, e1.trans e2, (by intro _ h; first | exact h | exact dr1 h | exact dr2 h | exact dr3 h | exact dr4 h | exact dr5 h | exact dr6 h | exact dr6 h.drop | exact dr6 h.drop.drop | exact dr6 h.drop.drop.drop), o1, k1, o2, k2, rfl, ⟨hst1.mono e2, hst2, by simp [hlm], h.small.add hts⟩, rfl⟩
end Go.Proofs.Ytcjonopmnjobeaa

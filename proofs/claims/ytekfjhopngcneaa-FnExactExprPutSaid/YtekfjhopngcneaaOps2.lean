
/- More rules: pointers, texts as sources of 'append', 'make', the end of a body, the library's unsafe conversions. No conditions. -/
import Derived.Test.YtekfjhopngcneaaOps
import Derived.Lib.Builder
import Derived.Lib.UnsafeStr
namespace Go.Proofs.Ytekfjhopngcneaa
set_option linter.unusedVariables false
set_option linter.unusedSimpArgs false

section rules
variable {P : Program} {f : FuncId} {n : Nat} {I₀ : Heap} {Q : Post} {k : List Item} {E : Env} {I : Heap} {L : Own}
variable {ops : Array Oper} {d : Nat} {ty : TypeId} {pos : String} {af : Array Edge} {g : Option (Nat × Bool)} {l : List Oper}

theorem s_end {c : Code} {rs : List ResultVar} {vs : List Value} {m : Nat} [hf : FnIs P f c m rs] (hr : RetOk P E I L rs vs)
    (hp : ∃ I' L', HLe I₀ I' ∧ (∀ w, Mem I L w → Mem I' L' w) ∧ Q (retOne vs) I' L') : RunS P f n I₀ Q [] E I L := by
  obtain ⟨fn, hfn, _, _, hrs, _⟩ := hf.get
  intro a w ha hd he hm cs
  obtain ⟨I', L', hle, hmm, hq⟩ := hp
  refine ⟨.returned (retOne vs), w, _, ⟨_, I', L', rfl, hle, hmm w hm, hq⟩, .one step_end, rfl, rfl, hd, rfl, fn, hfn, ?_⟩
  have h1 := retRun hr he hm
  have h2 : (fn.results.mapM (fun | .tmp t => pure (a.tmps.getD t undef) | .cell b t => do loadVar t (← asAddr (a.tmps.getD b undef)) : ResultVar → Sem Value)).run P w = .ok vs.toArray w := by
    rw [hrs, List.mapM_toArray]
    exact run_bind_ok h1
  unfold results
  rw [show ((base f).at a []).tmps = a.tmps from rfl]
  refine Eq.trans (run_bind_ok h2) ?_
  cases vs with
  | nil => rfl
  | cons v vs =>
    cases vs with
    | nil => rfl
    | cons u us => simp [retOne, run_pure]

theorem y_nilCheck {S : World → Prop} {x : Operand} {a : Addr} (hx : opd E x = some (.pointer (some a))) : Yld P E S ⟨some d, .nilCheck x, ty, pos, af, g⟩ (.pointer (some a)) := fun ac w he _ => by
  simp only [execOp, he.eval hx]; rfl
theorem o_nilCheck {x : Operand} {a : Addr} (hx : opd E x = some (.pointer (some a))) (hg : Wants ops E g) (hdn : Nat.blt d n = true) (h : RunO P f n I₀ Q ops l k ((d, .pointer (some a)) :: E) I L) :
    RunO P f n I₀ Q ops (⟨some d, .nilCheck x, ty, pos, af, g⟩ :: l) k E I L := o_yld (y_nilCheck hx) hg hdn h

theorem run_eqGuard_ptr {op : BinOp} {T : TypeId} {x y : Operand} {a b : Option Addr} (w : World) : (eqGuard op T x y (.pointer a) (.pointer b)).run P w = .ok () w := by
  unfold eqGuard; split <;> rfl
theorem y_eqlnil {S : World → Prop} {T T' e sz bb : Nat} {z : List Value} [ht : TyIs P T (.pointer e) sz bb z] {x y : Operand} {oa : Option Addr} (hx : opd E x = some (.pointer oa)) (hy : opd E y = some (.pointer none)) :
    Yld P E S ⟨some d, .binOp .eql T x y T', ty, pos, af, g⟩ (.bool oa.isNone) := fun ac w he _ => by
  simp only [execOp, he.eval hx, he.eval hy]
  refine run_bind_ok (a := _) (w' := w) ?_ |>.trans rfl
  rw [run_bind_ok (run_eqGuard_ptr w)]
  have h : ∀ d : Nat, (Op.equalIn (d + 1) T (.pointer oa) (.pointer none)).run P w = .ok oa.isNone w := fun d => by
    unfold Op.equalIn
    rw [run_bind_ok (run_underlying ht.und w)]
    cases oa <;> rfl
  simp only [binOp, Op.equal]
  exact run_bind_ok (h 9999) |>.trans rfl
theorem o_eqlnil {T T' e sz bb : Nat} {z : List Value} [ht : TyIs P T (.pointer e) sz bb z] {x y : Operand} {oa : Option Addr} (hx : opd E x = some (.pointer oa)) (hy : opd E y = some (.pointer none)) (hg : Wants ops E g) (hdn : Nat.blt d n = true)
    (h : RunO P f n I₀ Q ops l k ((d, .bool oa.isNone) :: E) I L) : RunO P f n I₀ Q ops (⟨some d, .binOp .eql T x y T', ty, pos, af, g⟩ :: l) k E I L := o_yld (y_eqlnil hx hy) hg hdn h
theorem o_neqself {T T' e sz bb esz ebb : Nat} {z ez : List Value} {dd : TypeDesc} [ht : TyIs P T (.pointer e) sz bb z] [hte : TyIs P e dd esz ebb ez] {x y : Operand} {a : Addr} (hx : opd E x = some (.pointer (some a))) (hy : opd E y = some (.pointer (some a))) (hg : Wants ops E g) (hdn : Nat.blt d n = true)
    (h : RunO P f n I₀ Q ops l k ((d, .bool false) :: E) I L) : RunO P f n I₀ Q ops (⟨some d, .binOp .neq T x y T', ty, pos, af, g⟩ :: l) k E I L :=
  o_pure (fun ac w he => by
    simp only [execOp, he.eval hx, he.eval hy]
    refine run_bind_ok (a := _) (w' := w) ?_ |>.trans rfl
    rw [run_bind_ok (run_eqGuard_ptr w)]
    obtain ⟨i, z, hi, _⟩ := hte.info
    exact Lib.run_neq_ptr_same w a ht.und hi) hg hdn h

theorem shape_own {b : Nat} {c : Array Value} {T : TypeId} {fr : Nat × Nat} {w : World} (hm : (b, Obj.cells c T fr) ∈ L) (hw : Mem I L w) : w.shape? b = some (T, c.size) := by
  simp [World.shape?, (hw.2.1 _ hm).1]
/-- A pointer to a variable of the call's own, to unsafe.Pointer and back. -/
theorem o_toUnsafe {src dst t sz bb sz2 bb2 tsz tbb : Nat} {z z2 tz : List Value} {dd : TypeDesc} [hs : TyIs P src (.pointer t) sz bb z] [hd : TyIs P dst .unsafePointer sz2 bb2 z2] [ht : TyIs P t dd tsz tbb tz] {x : Operand} {b off : Nat} {cs : List Value} {U : TypeId} {fr : Nat × Nat}
    (hx : opd E x = some (.pointer (some ⟨b, off, none⟩))) (hm : (b, Obj.cells cs.toArray U fr) ∈ L) (ht0 : tsz ≠ 0) (ho : off < cs.length) (hg : Wants ops E g) (hdn : Nat.blt d n = true)
    (h : RunO P f n I₀ Q ops l k ((d, .pointer (some ⟨b, off, none⟩)) :: E) I L) : RunO P f n I₀ Q ops (⟨some d, .convert src dst x, ty, pos, af, g⟩ :: l) k E I L :=
  o_yld (fun ac w he hw => by
    obtain ⟨i, z, hi, hsz, _⟩ := ht.info
    simp only [execOp, he.eval hx]
    exact run_bind_ok (Lib.run_to_unsafe w ⟨b, off, none⟩ hs.und hd.und hi (by omega) (shape_own hm hw) (by simpa using ho)) |>.trans rfl) hg hdn h
theorem o_fromUnsafe {src dst u sz bb sz2 bb2 usz ubb : Nat} {z z2 uz : List Value} {dd : TypeDesc} [hs : TyIs P src .unsafePointer sz bb z] [hd : TyIs P dst (.pointer u) sz2 bb2 z2] [hu : TyIs P u dd usz ubb uz] {x : Operand} {b off : Nat} {cs : List Value} {U : TypeId} {fr : Nat × Nat}
    (hx : opd E x = some (.pointer (some ⟨b, off, none⟩))) (hm : (b, Obj.cells cs.toArray U fr) ∈ L) (hl : liesAt P P.depth U (cs.length / P.cellsOf U) off u 1 = true) (hg : Wants ops E g) (hdn : Nat.blt d n = true)
    (h : RunO P f n I₀ Q ops l k ((d, .pointer (some ⟨b, off, none⟩)) :: E) I L) : RunO P f n I₀ Q ops (⟨some d, .convert src dst x, ty, pos, af, g⟩ :: l) k E I L :=
  o_yld (fun ac w he hw => by
    obtain ⟨i, z, hi, _⟩ := hu.info
    simp only [execOp, he.eval hx]
    exact run_bind_ok (Lib.run_from_unsafe w ⟨b, off, none⟩ hs.und hd.und hi (shape_own hm hw) (by simpa using hl)) |>.trans rfl) hg hdn h

/-- A call of a function that the model answers itself. -/
theorem o_extern {kf : FuncId} {args : Array Operand} {tys : Array TypeId} {vs : List Value} {v : Value} {fn : Func} {e : Array Value → Sem Value} (hf : P.funcs[kf]? = some fn) (hb : fn.body = none) (hne : (fn.name == "runtime.NumGoroutine") = false)
    (h1 : (Extern.findNext fn).isNone = true) (h2 : Extern.find fn = some e) (hv : ∀ w, (e vs.toArray).run P w = .ok v w)
    (ha : opds E args.toList = some vs) (hg : Wants ops E g) (hdn : Nat.blt d n = true) (h : RunO P f n I₀ Q ops l k ((d, v) :: E) I L) :
    RunO P f n I₀ Q ops (⟨some d, .call ⟨.value (.func kf), args, tys⟩, ty, pos, af, g⟩ :: l) k E I L :=
  o_pure (fun a w he => by
    have h3 : args.map a.eval = vs.toArray := Array.ext' (by simpa using he.evals ha)
    simp only [execOp, resolve, h3]
    simp only [Act.eval, Deferred.ofValue, pure_bind, invoke]
    unfold callFunc
    rw [run_bind_ok (a := P) (w' := w) rfl]
    have h1' : Extern.findNext fn = none := by simpa using h1
    simp only [hf, hne, hb, Option.isNone_none, if_true, if_false, Bool.false_eq_true, h1', h2]
    rw [run_bind_ok (a := ()) (w' := w) rfl]
    have := hv w
    simp only [Array.append_empty, Array.empty_append]
    exact run_bind_ok this |>.trans rfl) hg hdn h

/-- 'append' of nothing. -/
theorem run_append0 {T e T2 : TypeId} {sz bb esz ebb : Nat} {z ez : List Value} {dd dd2 : TypeDesc} (ht : TyIs P T (.slice e) sz bb z) (hte : TyIs P e dd esz ebb ez) {base : Option Addr} {m c : Nat} {x : Value} (hu2 : P.underlying T2 = some dd2) (hni : ∀ kk, dd2 ≠ .int kk)
    (hmc : m ≤ c) {w : World} (hxl : (Builtin.lenOf x).run P w = .ok 0 w) (hxf : (Builtin.firstCells esz 0 x).run P w = .ok #[] w) :
    (Builtin.append_ #[T, T2] T #[.slice base m c, x]).run P w = .ok (.slice base m c) w := by
  unfold Builtin.append_
  simp only [List.getElem?_toArray, List.getElem?_cons_zero, List.getElem?_cons_succ]
  rw [run_bind_ok (run_underlying ht.und w)]
  simp only []
  rw [run_bind_ok (run_sizeOf hte w)]
  rw [run_bind_ok (run_underlying hu2 w)]
  have hz : (match dd2 with | .int _ => true | _ => false) = false := by
    cases dd2 <;> first | rfl | exact absurd rfl (hni _)
  simp only [hz, pure_bind, Bool.false_eq_true, if_false, Bool.not_false, if_true]
  rw [run_bind_ok hxl]
  simp only [Nat.add_zero, if_pos hmc]
  rw [run_bind_ok hxf]
  cases base <;> rfl

def bv (b : UInt8) : Value := .int .u8 (b.toNat : Nat)
theorem run_firstStr {s : List UInt8} {w : World} : (Builtin.firstCells 1 s.length (.string (str s))).run P w = .ok (s.map bv).toArray w := by
  simp only [Builtin.firstCells, run_pure]
  congr 1
  apply Array.ext'
  simp [str, ByteArray.data_extract, bv]
theorem run_lenStr {s : List UInt8} {w : World} : (Builtin.lenOf (.string (str s))).run P w = .ok s.length w := by
  simp [Builtin.lenOf, run_pure, str, ByteArray.size]
theorem bv_plain (s : List UInt8) : (s.map bv).all plainCell = true := by simp [bv, plainCell]

/-- 'append(bytes, s...)' of a text. -/
theorem o_appendStr {T T2 e : TypeId} {sz bb ebb sz2 bb2 : Nat} {z ez z2 : List Value} {dd : TypeDesc} [ht : TyIs P T (.slice e) sz bb z] [hte : TyIs P e dd 1 ebb ez] [ht2 : TyIs P T2 .string sz2 bb2 z2]
    {x y : Operand} {B : Buf} {xs : List Value} {s : List UInt8} {m c : Nat} {L₀ : Own} (hez : ez.length = 1)
    (hx : opd E x = some (bufVal m c B)) (hy : opd E y = some (.string (str s))) (hB : BufOk 1 m c xs B) (hL : ∀ w, Mem I L w → Mem I (bufOwn e xs B ++ L₀) w)
    (hsize : (m + s.length) ≤ 4294967296) (hbytes : ebb ≤ 1024) (hg : Wants ops E g) (hdn : Nat.blt d n = true)
    (h : ∀ B' c', BufOk 1 (m + s.length) c' (xs ++ s.map bv) B' → (s ≠ [] → B' ≠ none) → (s = [] → B' = B) → RunO P f n I₀ Q ops l k ((d, bufVal (m + s.length) c' B') :: E) I (bufOwn e (xs ++ s.map bv) B' ++ L₀)) :
    RunO P f n I₀ Q ops (⟨some d, .call ⟨.builtin .append, #[x, y], #[T, T2]⟩, T, pos, af, g⟩ :: l) k E I L := by
  refine o_stepX rfl hdn (fun a he => hg.wanted a he) fun a w he hm => ?_
  by_cases hs : s = []
  · subst hs
    have hv : ∃ base cc, bufVal m c B = .slice base m cc ∧ m ≤ cc ∧ cc = c := by
      cases B with
      | none => obtain ⟨h1, h2, h3⟩ := hB; exact ⟨none, 0, by simp [bufVal, h2], by omega, h3.symm⟩
      | some p => exact ⟨_, c, rfl, hB.2.1, rfl⟩
    obtain ⟨base, cc, hbv, hmc, rfl⟩ := hv
    have := run_append0 (P := P) (T2 := T2) (base := base) (x := .string (str [])) (w := w) ht hte ht2.und (by intro kk; simp) hmc run_lenStr run_firstStr
    refine ⟨_, w, I, _, ?_, hL w hm, by simpa using h B cc (by simpa using hB) (by simp) (fun _ => rfl)⟩
    simp only [execOp, resolve, List.map_toArray, List.map, he.eval hx, he.eval hy, pure_bind, invoke, builtin, hbv]
    exact run_bind_ok this |>.trans rfl
  · have hpos := List.length_pos_iff.2 hs
    obtain ⟨w', B', c', hr, hne, hB', hm'⟩ := run_append (x := .string (str s)) (m2 := s.length) (ys := s.map bv) ht hte hez ht2.und (by intro kk; simp) hB (hL w hm) (by simp) (fun _ => run_lenStr) (fun w hw => run_firstStr) (bv_plain s) hpos (by decide) hsize hbytes
    refine ⟨_, w', I, _, ?_, hm', h B' c' hB' (fun _ => hne) (fun hh => absurd hh hs)⟩
    simp only [execOp, resolve, List.map_toArray, List.map, he.eval hx, he.eval hy, pure_bind, invoke, builtin]
    exact run_bind_ok hr |>.trans rfl

theorem Mem.frozen {b m : Nat} {o : Obj} {w : World} (h : Mem I ((b, o) :: L) w) : Mem I L (w.freeze ⟨b, 0, none⟩ m) := by
  obtain ⟨h1, h2, h3⟩ := h
  have hb := h2 (b, o) (.head _)
  have hn : b ∉ L.map (·.1) ∧ (L.map (·.1)).Nodup := List.nodup_cons.1 h3
  unfold World.freeze
  split
  · exact ⟨h1, fun p hp => h2 p (.tail _ hp), hn.2⟩
  · refine ⟨⟨fun c u hc => ?_, h1.2⟩, fun p hp => ⟨?_, (h2 p (.tail _ hp)).2⟩, hn.2⟩
    · have hne : b ≠ c := fun e => by subst e; rw [hb.2] at hc; cases hc
      simp only [Array.getElem?_modify, if_neg hne]
      exact h1.1 c u hc
    · have hne : b ≠ p.1 := fun e => hn.1 (e ▸ List.mem_map.2 ⟨p, hp, rfl⟩)
      simp only [Array.getElem?_modify, if_neg hne]
      exact (h2 p (.tail _ hp)).1


theorem y_sliceData {S : World → Prop} {x : Operand} {a : Addr} {m c : Nat} {tys : Array TypeId} (hx : opd E x = some (.slice (some a) m c)) (hc : c ≠ 0) :
    Yld P E S ⟨some d, .call ⟨.builtin .unsafeSliceData, #[x], tys⟩, ty, pos, af, g⟩ (.pointer (some a)) := fun ac w he _ => by
  simp only [execOp, resolve, List.map_toArray, List.map, he.eval hx, pure_bind, invoke, builtin]
  exact run_bind_ok (Lib.run_unsafeSliceData_row w _ _ _ _ _ hc) |>.trans rfl
theorem y_sliceData0 {S : World → Prop} {x : Operand} {m c : Nat} {tys : Array TypeId} (hx : opd E x = some (.slice none m c)) :
    Yld P E S ⟨some d, .call ⟨.builtin .unsafeSliceData, #[x], tys⟩, ty, pos, af, g⟩ (.pointer none) := fun ac w he _ => by
  simp only [execOp, resolve, List.map_toArray, List.map, he.eval hx, pure_bind, invoke, builtin]
  exact run_bind_ok (Lib.run_unsafeSliceData_nil w _ _ _ _) |>.trans rfl
theorem y_unsafeString0 {S : World → Prop} {x y : Operand} {pt it : TypeId} {oa : Option Addr} (hx : opd E x = some (.pointer oa)) (hy : opd E y = some (.int .i64 0)) :
    Yld P E S ⟨some d, .call ⟨.builtin .unsafeString, #[x, y], #[pt, it]⟩, ty, pos, af, g⟩ (.string (str [])) := fun ac w he _ => by
  simp only [execOp, resolve, List.map_toArray, List.map, he.eval hx, he.eval hy, pure_bind, invoke, builtin]
  exact run_bind_ok (Lib.run_unsafeString_none w _ _ _ _) |>.trans rfl
theorem d_unsafeString {S : World → Prop} {fuel : Nat} {listed listed' : Array Bool} (i : Nat) {x y : Operand} {pt it e sz bb : Nat} {z : List Value} [ht : TyIs P pt (.pointer e) sz bb z] {b : Nat} {xs : List UInt8} {sp : List Value} {fr : Nat × Nat} {L₀ : Own}
    (hi : ops[i]? = some ⟨some d, .call ⟨.builtin .unsafeString, #[x, y], #[pt, it]⟩, ty, pos, af, g⟩) (hc : decide (Region.ready .any ops listed = [i]) = true) (hl : listed' = listed.setIfInBounds i true)
    (hx : opd E x = some (.pointer (some ⟨b, 0, none⟩))) (hy : opd E y = some (.int .i64 (xs.length : Nat))) (he1 : P.cellsOf e = 1) (h0 : xs ≠ []) (hlen : xs.length ≤ 4294967296)
    (hL : ∀ w, Mem I L w → Mem I ((b, .cells (xs.map bv ++ sp).toArray e fr) :: L₀) w) (hS : heldB ops listed' = true ∨ ∀ w, Mem I L₀ w → S w) (hg : Wants ops E g) (hdn : Nat.blt d n = true)
    (h : RunW P f n I₀ Q ops S fuel listed' k ((d, .string (str xs)) :: E) I L₀) : RunW P f n I₀ Q ops S (fuel + 1) listed k E I L := by
  refine d_stepX i hi hc hl rfl hdn (fun a he => hg.wanted a he) fun a w he hm => ?_
  have hm' := hL w hm
  have hb := (hm'.2.1 _ (.head _)).1
  refine ⟨_, _, I, L₀, ?_, hm'.frozen (m := xs.length), hS, h⟩
  simp only [execOp, resolve, List.map_toArray, List.map, he.eval hx, he.eval hy, pure_bind, invoke, builtin]
  refine run_bind_ok (Lib.run_unsafeString_row w pt it ty e ht.und he1 b _ (shape_own (.head _) hm') xs h0 (by simp) (by omega) ?_) |>.trans rfl
  intro j c hj
  rw [cell_at hb]
  have hjl : j < xs.length := by
    rcases Nat.lt_or_ge j xs.length with gg | gg
    · exact gg
    · simp [List.getElem?_eq_none gg] at hj
  simp only [Nat.zero_add, List.getElem?_toArray]
  rw [List.getElem?_append_left (by simpa using hjl), List.getElem?_map, hj]
  rfl

theorem valCells_buf {m c : Nat} {B : Buf} : valCells (bufVal m c B) = some [bufVal m c B] := by cases B <;> rfl

end rules
theorem Mem.bl1 {I : Heap} {a p : Nat × Obj} {X L : Own} {w : World} (h : Mem I (a :: p :: (X ++ L)) w) : Mem I (p :: (X ++ a :: L)) w := h.f1.perm (List.Perm.cons _ (List.perm_append_comm_assoc [a] X L))
theorem Mem.bl2 {I : Heap} {a b p : Nat × Obj} {X L : Own} {w : World} (h : Mem I (a :: b :: p :: (X ++ L)) w) : Mem I (p :: (X ++ a :: b :: L)) w := h.f2.perm (List.Perm.cons _ (List.perm_append_comm_assoc [a, b] X L))
theorem Mem.bl3 {I : Heap} {a b c p : Nat × Obj} {X L : Own} {w : World} (h : Mem I (a :: b :: c :: p :: (X ++ L)) w) : Mem I (p :: (X ++ a :: b :: c :: L)) w := h.f3.perm (List.Perm.cons _ (List.perm_append_comm_assoc [a, b, c] X L))
theorem Mem.br1 {I : Heap} {a p : Nat × Obj} {X L : Own} {w : World} (h : Mem I (p :: (X ++ a :: L)) w) : Mem I (a :: p :: (X ++ L)) w :=
  (h.perm (List.Perm.cons _ (List.perm_append_comm_assoc [a] X L).symm)).f1
end Go.Proofs.Ytekfjhopngcneaa

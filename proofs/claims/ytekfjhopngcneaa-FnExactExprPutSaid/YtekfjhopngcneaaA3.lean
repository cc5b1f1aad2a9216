
/- The library's Index, Contains, Grow, Concat and Clone of slices. No conditions. -/
import Derived.Test.YtekfjhopngcneaaA2
import Derived.Test.YtekfjhopngcneaaOps5
namespace Go.Proofs.Ytekfjhopngcneaa
set_option maxRecDepth 100000
set_option linter.unusedVariables false
set_option linter.unusedSimpArgs false

section rules
variable {P : Program} {f : FuncId} {n : Nat} {I₀ : Heap} {Q : Post} {k : List Item} {E : Env} {I : Heap} {L : Own}
variable {ops : Array Oper} {d : Nat} {ty : TypeId} {pos : String} {af : Array Edge} {g : Option (Nat × Bool)} {l : List Oper}
theorem y_cap_slice {S : World → Prop} {x : Operand} {ad : Option Addr} {m c : Nat} {e T : TypeId} {sz bb : Nat} {z : List Value} [ht : TyIs P T (.slice e) sz bb z] (hx : opd E x = some (.slice ad m c)) : Yld P E S ⟨some d, .call ⟨.builtin .cap, #[x], #[T]⟩, ty, pos, af, g⟩ (.int .i64 (c : Nat)) := fun a w he _ => by
    simp only [execOp, resolve, List.map_toArray, List.map, he.eval hx]
    simp only [pure_bind, invoke, builtin, Builtin.cap_]
    refine run_bind_ok (a := _) (w' := w) ?_ |>.trans rfl
    simp only [List.getElem?_toArray, List.getElem?_cons_zero]
    rw [run_bind_ok (run_underlying ht.und w)]
    rfl
theorem o_cap_slice {x : Operand} {ad : Option Addr} {m c : Nat} {e T : TypeId} {sz bb : Nat} {z : List Value} [ht : TyIs P T (.slice e) sz bb z] (hx : opd E x = some (.slice ad m c)) (hg : Wants ops E g) (hdn : Nat.blt d n = true)
    (h : RunO P f n I₀ Q ops l k ((d, .int .i64 (c : Nat)) :: E) I L) : RunO P f n I₀ Q ops (⟨some d, .call ⟨.builtin .cap, #[x], #[T]⟩, ty, pos, af, g⟩ :: l) k E I L := o_yld (y_cap_slice hx) hg hdn h
theorem y_makeFunc {S : World → Prop} {kf : FuncId} {fst cap : Array Operand} {vs us : List Value} (hf : opds E fst.toList = some vs) (hc : opds E cap.toList = some us) : Yld P E S ⟨some d, .makeFunc (.func kf) fst cap, ty, pos, af, g⟩ (.func (.func kf) vs.toArray us.toArray) := fun a w he _ => by
    have h1 : fst.map a.eval = vs.toArray := Array.ext' (by simpa using he.evals hf)
    have h2 : cap.map a.eval = us.toArray := Array.ext' (by simpa using he.evals hc)
    simp only [execOp, h1, h2]
    rfl
theorem o_makeFunc {kf : FuncId} {fst cap : Array Operand} {vs us : List Value} (hf : opds E fst.toList = some vs) (hc : opds E cap.toList = some us) (hg : Wants ops E g) (hdn : Nat.blt d n = true)
    (h : RunO P f n I₀ Q ops l k ((d, .func (.func kf) vs.toArray us.toArray) :: E) I L) : RunO P f n I₀ Q ops (⟨some d, .makeFunc (.func kf) fst cap, ty, pos, af, g⟩ :: l) k E I L := o_yld (y_makeFunc hf hc) hg hdn h
theorem x_appendB {T T2 e : TypeId} {sz bb esz ebb sz2 bb2 : Nat} {z ez z2 : List Value} {dd dd2 : TypeDesc} [ht : TyIs P T (.slice e) sz bb z] [hte : TyIs P e dd esz ebb ez] [ht2 : TyIs P T2 dd2 sz2 bb2 z2]
    {x y : Operand} {B : Buf} {xs ys : List Value} {m c : Nat} {ad2 : Option Addr} {m2 c2 : Nat} {L₀ : Own} (hni : ∀ kk, dd2 ≠ .int kk) (hez : ez.length = esz)
    (hx : opd E x = some (bufVal m c B)) (hy : opd E y = some (.slice ad2 m2 c2)) (hB : BufOk esz m c xs B) (hL : ∀ w, Mem I L w → Mem I (bufOwn e xs B ++ L₀) w)
    (hyl : ys.length = m2 * esz) (hyr : ∀ a, ad2 = some a → Reads I L₀ a ys) (hyn : ad2 = none → ys = []) (hyp : ys.all plainCell = true) (hesz : 0 < esz)
    (hsize : (m + m2) ≤ 4294967296) (hbytes : ebb ≤ 1024) (a : Act) (w : World) (he : EnvOk E a) (hm : Mem I L w) :
    ∃ w' B' c', (execOp a.eval ⟨some d, .call ⟨.builtin .append, #[x, y], #[T, T2]⟩, T, pos, af, g⟩).run P w = .ok (.value (bufVal (m + m2) c' B')) w' ∧ BufOk esz (m + m2) c' (xs ++ ys) B' ∧ Mem I (bufOwn e (xs ++ ys) B' ++ L₀) w' := by
  by_cases hm2 : 0 < m2
  · obtain ⟨w', B', c', hr, hne, hB', hm'⟩ := run_append (x := .slice ad2 m2 c2) ht hte hez ht2.und hni hB (hL w hm) hyl (fun _ => rfl) (fun w hw => run_firstCells hw hyl hyr hyn) hyp hm2 hesz hsize hbytes
    refine ⟨w', B', c', ?_, hB', hm'⟩
    simp only [execOp, resolve, List.map_toArray, List.map, he.eval hx, he.eval hy, pure_bind, invoke, builtin]
    exact run_bind_ok hr |>.trans rfl
  · obtain rfl : m2 = 0 := by omega
    obtain rfl : ys = [] := List.eq_nil_of_length_eq_zero (by simpa using hyl)
    have hv : ∃ base cc, bufVal m c B = .slice base m cc ∧ m ≤ cc ∧ cc = c := by
      cases B with
      | none => obtain ⟨h1, h2, h3⟩ := hB; exact ⟨none, 0, by simp [bufVal, h2], by omega, h3.symm⟩
      | some p => exact ⟨_, c, rfl, hB.2.1, rfl⟩
    obtain ⟨base, cc, hbv, hmc, rfl⟩ := hv
    have := run_append0 (P := P) (T2 := T2) (base := base) (x := .slice ad2 0 c2) (w := w) ht hte ht2.und hni hmc rfl (run_firstCells (hL w hm) hyl (fun a _ v _ i hi => absurd hi (by simp)) hyn)
    refine ⟨w, B, cc, ?_, by simpa using hB, by simpa using hL w hm⟩
    simp only [execOp, resolve, List.map_toArray, List.map, he.eval hx, he.eval hy, pure_bind, invoke, builtin, hbv, Nat.add_zero]
    exact run_bind_ok this |>.trans rfl
theorem d_appendB {S : World → Prop} {fuel : Nat} {listed listed' : Array Bool} (i : Nat) {T T2 e : TypeId} {sz bb esz ebb sz2 bb2 : Nat} {z ez z2 : List Value} {dd dd2 : TypeDesc} [ht : TyIs P T (.slice e) sz bb z] [hte : TyIs P e dd esz ebb ez] [ht2 : TyIs P T2 dd2 sz2 bb2 z2]
    {x y : Operand} {B : Buf} {xs ys : List Value} {m c : Nat} {ad2 : Option Addr} {m2 c2 : Nat} {L₀ : Own}
    (hi : ops[i]? = some ⟨some d, .call ⟨.builtin .append, #[x, y], #[T, T2]⟩, T, pos, af, g⟩) (hc : decide (Region.ready .any ops listed = [i]) = true) (hl : listed' = listed.setIfInBounds i true) (hni : ∀ kk, dd2 ≠ .int kk) (hez : ez.length = esz)
    (hx : opd E x = some (bufVal m c B)) (hy : opd E y = some (.slice ad2 m2 c2)) (hB : BufOk esz m c xs B) (hL : ∀ w, Mem I L w → Mem I (bufOwn e xs B ++ L₀) w)
    (hyl : ys.length = m2 * esz) (hyr : ∀ a, ad2 = some a → Reads I L₀ a ys) (hyn : ad2 = none → ys = []) (hyp : ys.all plainCell = true) (hesz : 0 < esz)
    (hsize : (m + m2) ≤ 4294967296) (hbytes : ebb ≤ 1024) (hg : Wants ops E g) (hdn : Nat.blt d n = true) (hS : ∀ B', heldB ops listed' = true ∨ ∀ w, Mem I (bufOwn e (xs ++ ys) B' ++ L₀) w → S w)
    (h : ∀ B' c', BufOk esz (m + m2) c' (xs ++ ys) B' → RunW P f n I₀ Q ops S fuel listed' k ((d, bufVal (m + m2) c' B') :: E) I (bufOwn e (xs ++ ys) B' ++ L₀)) : RunW P f n I₀ Q ops S (fuel + 1) listed k E I L := by
  refine d_stepX i hi hc hl rfl hdn (fun a he => hg.wanted a he) fun a w he hm => ?_
  obtain ⟨w', B', c', h1, h2, h3⟩ := x_appendB (P := P) (T := T) (T2 := T2) (e := e) (d := d) (pos := pos) (af := af) (g := g) hni hez hx hy hB hL hyl hyr hyn hyp hesz hsize hbytes a w he hm
  exact ⟨_, w', I, _, h1, h3, hS B', h B' c' h2⟩
theorem d_lits0 {S : World → Prop} {fuel : Nat} {listed listed' : Array Bool} (i : Nat) {T e : TypeId} {sz bb esz ebb : Nat} {z ez : List Value} {dd : TypeDesc} [ht : TyIs P T (.slice e) sz bb z] [hte : TyIs P e dd esz ebb ez]
    (hi : ops[i]? = some ⟨some d, .buildSlice T 0 #[], ty, pos, af, g⟩) (hc : decide (Region.ready .any ops listed = [i]) = true) (hl : listed' = listed.setIfInBounds i true) (hg : Wants ops E g) (hdn : Nat.blt d n = true) (hS : heldB ops listed' = true ∨ ∀ w, Mem I L w → S w)
    (h : ∀ b, RunW P f n I₀ Q ops S fuel listed' k ((d, .slice (some ⟨b, 0, none⟩) 0 0) :: E) I ((b, .cells [].toArray e (0, 0)) :: L)) : RunW P f n I₀ Q ops S (fuel + 1) listed k E I L := by
  refine d_stepX i hi hc hl rfl hdn (fun a he => hg.wanted a he) fun a w he hm => ?_
  refine ⟨.slice (some ⟨w.heap.size, 0, none⟩) 0 0, { w with heap := w.heap.push (.cells [].toArray e (0, 0)) }, I, (w.heap.size, .cells [].toArray e (0, 0)) :: L, ?_, hm.alloc _, hS.imp id fun hS w hw => hS w hw.drop, h _⟩
  simp only [execOp]
  refine run_bind_ok (a := .slice (some ⟨w.heap.size, 0, none⟩) 0 0) (w' := { w with heap := w.heap.push (.cells [].toArray e (0, 0)) }) ?_ |>.trans rfl
  unfold Instr.buildSlice
  rw [run_bind_ok (run_underlying ht.und w)]
  simp only []
  rw [run_bind_ok (run_sizeOf hte w)]
  rw [if_neg (by omega), if_pos (by omega)]
  have e0 : ∀ h : Nat → Value, (Array.range 0).map h = #[] := fun h => by simp
  have e1 : (Array.map (fun x : Nat × Operand => (x.fst, a.eval x.snd)) #[]).toList = [] := by simp
  simp only [pure_bind, Nat.zero_mul, e0, e1]
  rfl
/-- 'append(nil, make([]T, m)...)'. -/
theorem o_appendN {T T2 e : TypeId} {sz bb esz ebb sz2 bb2 : Nat} {z ez z2 : List Value} {dd : TypeDesc} [ht : TyIs P T (.slice e) sz bb z] [hte : TyIs P e dd esz ebb ez] [ht2 : TyIs P T2 (.int .i64) sz2 bb2 z2]
    {x y : Operand} {m : Nat} {ad : Option Addr} (hez : ez.length = esz) (hx : opd E x = some (.slice ad 0 0)) (had : ad = none) (hy : opd E y = some (.int .i64 (m : Nat))) (hm0 : 0 < m) (hesz : 0 < esz) (hsize : m ≤ 4294967296) (hbytes : ebb ≤ 1024) (hg : Wants ops E g) (hdn : Nat.blt d n = true)
    (h : ∀ b Z c', Z.length = c' * esz → m ≤ c' → RunO P f n I₀ Q ops l k ((d, .slice (some ⟨b, 0, none⟩) m c') :: E) I ((b, .cells (List.toArray Z) e (0, 0)) :: L)) :
    RunO P f n I₀ Q ops (⟨some d, .call ⟨.builtin .append, #[x, y], #[T, T2]⟩, T, pos, af, g⟩ :: l) k E I L := by
  subst had
  refine o_stepX rfl hdn (fun a he => hg.wanted a he) fun a w he hm => ?_
  obtain ⟨einf, hein, hebb⟩ := run_bytesOf hte w
  let NC := (Question.appendCap m 0 e).cut (w.tape w.drawn (.appendCap m 0 e))
  let w1 : World := { w with drawn := w.drawn + 1 }
  have hNC : m ≤ NC := by simp [NC, Question.cut]
  obtain ⟨zv1, hz1, hz2⟩ := run_zero hte w1
  have hzs : zv1.cells.size = esz := by rw [← hez, ← hz2]; simp
  refine ⟨.slice (some ⟨w.heap.size, 0, none⟩) m NC, { w1 with heap := w1.heap.push (.cells (Builtin.zeroCells zv1.cells m ++ Builtin.zeroCells zv1.cells (NC - m)) e (0, 0)) }, I, _, ?_, hm.alloc _, h _ (Builtin.zeroCells zv1.cells m ++ Builtin.zeroCells zv1.cells (NC - m)).toList NC ?_ hNC⟩
  · simp only [execOp, resolve, List.map_toArray, List.map, he.eval hx, he.eval hy, pure_bind, invoke, builtin]
    refine run_bind_ok (a := .slice (some ⟨w.heap.size, 0, none⟩) m NC) (w' := { w1 with heap := w1.heap.push (.cells (Builtin.zeroCells zv1.cells m ++ Builtin.zeroCells zv1.cells (NC - m)) e (0, 0)) }) ?_ |>.trans rfl
    unfold Builtin.append_
    simp only [List.getElem?_toArray, List.getElem?_cons_zero, List.getElem?_cons_succ]
    rw [run_bind_ok (run_underlying ht.und w)]
    simp only []
    rw [run_bind_ok (run_sizeOf hte w)]
    rw [run_bind_ok (run_underlying ht2.und w)]
    have hwr : IntKind.i64.wrap (m : Int) = (m : Int) := by simp [IntKind.wrap, IntKind.bits, IntKind.signed]; omega
    simp only [pure_bind, if_true, Bool.not_true, Bool.false_eq_true, if_false, asInt, asIntOf, hwr]
    have hneg : ¬ ((m : Int) < 0) := by omega
    simp only [hwr, if_neg hneg, pure_bind, bind_assoc]
    rw [run_bind_ok hein]
    have hbig : ¬ ((m : Int) * (einf.bytes : Int) > 2 ^ 48) := by
      rw [hebb]
      have : m * ebb ≤ 4294967296 * 1024 := Nat.mul_le_mul hsize hbytes
      rw [← Int.natCast_mul]; omega
    simp only [if_neg hbig, pure_bind, Int.toNat_natCast, Nat.zero_add]
    rw [if_neg (by omega)]
    have hmax : ¬ (((m : Nat) : Int) > IntKind.i64.max) := by simp [IntKind.max, IntKind.bits, IntKind.signed]; omega
    rw [run_bind_ok hein]
    simp only [hmax, false_and, if_false, pure_bind]
    rw [run_bind_ok hein]
    have hcap : ¬ (Builtin.nextslicecap m 0 * einf.bytes > 2 ^ 48) := by
      have h1 := nextcap_le m 0 (by omega)
      have h2 : Builtin.nextslicecap m 0 * einf.bytes ≤ (2 * m + 1000) * 1024 := Nat.mul_le_mul h1 (by omega)
      omega
    simp only [if_neg hcap, pure_bind]
    have hch : (choose (.appendCap m 0 e)).run P w = .ok NC w1 := by simp [choose, Sem.run, Question.forced, NC, w1]
    rw [run_bind_ok hch]
    obtain ⟨einf1, hein1, _⟩ := run_bytesOf hte w1
    rw [run_bind_ok hein1]
    have hroom : (askRoom (NC * einf1.bytes)).run P w1 = .ok () w1 := by unfold askRoom; split <;> rfl
    rw [run_bind_ok hroom]
    have hne : ¬ (m * esz = 0) := by
      have := Nat.mul_pos hm0 hesz; omega
    simp only [Builtin.firstCells, pure_bind, if_neg hne, bind_assoc]
    rw [run_bind_ok hz1]
    rw [run_bind_ok hz1]
    simp only [Array.empty_append]
    rfl
  · simp only [Array.toList_append, List.length_append, Array.length_toList, zeroCells_size, hzs]
    rw [← Nat.add_mul]; congr 1; omega
end rules

/-- A list of texts that can be read where it lies: in still memory, or in a block of the call's own. -/
structure RStrs (I : Heap) (L : Own) (oa : Option Addr) (l : List Txt) : Prop where
  reads : ∀ a, oa = some a → Reads I L a (l.map sv)
  nil : oa = none → l.length = 0
  len : l.length ≤ maxN
theorem Strs.rd {I : Heap} {oa : Option Addr} {l : List Txt} {c : Nat} (h : Strs I oa l c) (L : Own) : RStrs I L oa l := ⟨h.reads, h.nil', h.len⟩
theorem RStrs.st {I : Heap} {L : Own} {oa : Option Addr} {l : List Txt} (h : RStrs I L oa l) (i : Nat) (hi : i < l.length) : Reads I L ((oad oa).add (i * 1)) [.string (str (l.getD i []))] := by
  obtain ⟨x, rfl⟩ : ∃ x, oa = some x := by
    cases oa with
    | none => have := h.nil rfl; omega
    | some x => exact ⟨x, rfl⟩
  intro w hw j hj
  obtain rfl : j = 0 := by simpa using hj
  have h1 := h.reads x rfl w hw i (by simpa using hi)
  have e : ((oad (some x)).add (i * 1)).add 0 = x.add i := by simp [oad, Addr.add]
  rw [e, h1]
  simp [sv, hi]
theorem RStrs.sub {I : Heap} {L L' : Own} {oa : Option Addr} {l : List Txt} (h : RStrs I L oa l) (hs : ∀ w, Mem I L' w → Mem I L w) : RStrs I L' oa l :=
  ⟨fun a ha w hw => h.reads a ha w (hs w hw), h.nil, h.len⟩
theorem buf_rd {I : Heap} {L : Own} {e : TypeId} {l : List Txt} {B : Buf} {m c : Nat} (hB : BufOk 1 m c (l.map sv) B) (hm : m = l.length) (hl : l.length ≤ maxN) :
    ∃ oa c', bufVal m c B = .slice oa l.length c' ∧ RStrs I (bufOwn e (l.map sv) B ++ L) oa l := by
  subst hm
  cases B with
  | none =>
    obtain ⟨h1, h2, h3⟩ := hB
    exact ⟨none, 0, by rw [bufVal, h2], ⟨by simp, fun _ => h2, hl⟩⟩
  | some p =>
    obtain ⟨b, sp⟩ := p
    refine ⟨some ⟨b, 0, none⟩, c, rfl, ⟨?_, by simp, hl⟩⟩
    intro a ha
    cases ha
    intro w hw i hi
    rw [cell_at (hw.2.1 _ (List.mem_append_left _ (List.mem_singleton.2 rfl))).1]
    simp only [Nat.zero_add, List.getElem?_toArray]
    rw [List.getElem?_append_left hi, List.getElem?_eq_getElem hi]
theorem f_slices_Index {I : Heap} {L : Own} {oa : Option Addr} {l : List Txt} (h : RStrs I L oa l) (c : Nat) (s : Txt) : Fun Try.prog 48 [.slice oa l.length c, .string (str s)] I L (fun v I' L' => ∃ i : Int, v = .int .i64 i ∧ (0 ≤ i ↔ s ∈ l) ∧ I = I' ∧ L = L') := by
  have hlen := h.len
  have hnil := h.nil
  unfold maxN at hlen
  refine fun_intro (by simp) ?_
  refine s_seq ?_
  refine o_enter rfl ?_
  refine o_assign rfl .free rfl ?_
  refine o_done ?_
  refine s_seq ?_
  refine s_seq ?_
  refine o_enter rfl ?_
  refine o_move rfl .free rfl ?_
  refine o_len_slice rfl .free rfl ?_
  refine o_move rfl .free rfl ?_
  refine o_done ?_
  refine s_block ?_
  refine s_while (X := Nat) (fun i => l.length - i) (fun i => [(0, .slice oa l.length c), (1, .string (str s)), (7, .int .i64 (l.length : Nat)), (8, .int .i64 (i : Nat))]) (fun _ => I) (fun _ => L) (fun i => i ≤ l.length ∧ s ∉ l.take i) 0 ⟨by simp, by simp⟩ ⟨rfl, rfl, rfl, rfl, trivial⟩ (fun _ h => h) ?_
  rintro i ⟨hi, hs⟩ ih
  refine s_seq ?_
  refine o_enter rfl ?_
  refine o_cmp rfl rfl rfl .free rfl ?_
  refine o_done ?_
  refine s_seq ?_
  refine s_cond rfl ?_ ?_
  · intro c0
    try simp only [Bool.and_eq_true, Bool.or_eq_true, Bool.not_eq_true', Bool.not_eq_false', Bool.and_eq_false_iff, Bool.or_eq_false_iff, decide_eq_true_eq, decide_eq_false_iff_not] at c0
    have hgx : l.getD i [] = l[i] := by simp [show i < l.length by omega]
    have hst := h.st i (by omega)
    refine s_skip ?_
    refine s_seq ?_
    refine s_block ?_
    refine s_seq ?_
    refine o_enter rfl ?_
    refine o_move rfl .free rfl ?_
    refine o_assign rfl .free rfl ?_
    refine o_done ?_
    refine s_seq ?_
    refine o_enter rfl ?_
    iterate 3 refine o_move rfl .free rfl ?_
    first | refine o_indexAddrD rfl rfl _ rfl (by first | omega | exact lt_of (by assumption) (by decide) | (simp; done) | (simp; omega) | decide | (simp at *; omega)) (by first | assumption | exact FormAt.nil (by assumption) | exact Strs.nil' (by assumption) | exact Nums.nil' (by assumption) | exact Raw.nil' (by assumption)) .free rfl ?_ | refine o_indexAddr' rfl rfl _ rfl (by first | omega | exact lt_of (by assumption) (by decide) | (simp; done) | (simp; omega) | decide | (simp at *; omega)) (by first | rfl | assumption) .free rfl ?_
    refine o_load rfl (by first | exact loads_still1 (Nums.st (by assumption) _ (by first | omega | decide | (simp; done) | exact lt_of (by assumption) (by decide))) rfl | exact loads_still1 (Strs.st (by assumption) _ (by first | omega | decide | (simp; done) | exact lt_of (by assumption) (by decide))) rfl | exact loads_still1 (Raw.st (by assumption) _ (by first | omega | decide | (simp; done) | exact lt_of (by assumption) (by decide))) rfl | exact loads_still1 (by assumption) rfl | exact loads_scalar rfl (by assumption)) .free rfl ?_
    refine o_cmps rfl rfl rfl .free rfl ?_
    refine o_done ?_
    refine s_cond rfl ?_ ?_
    · intro c1
      try simp only [Bool.and_eq_true, Bool.or_eq_true, Bool.not_eq_true', Bool.not_eq_false', Bool.and_eq_false_iff, Bool.or_eq_false_iff, decide_eq_true_eq, decide_eq_false_iff_not] at c1
      refine s_seq ?_
      refine o_enter rfl ?_
      refine o_move rfl .free rfl ?_
      refine o_assign rfl .free rfl ?_
      refine o_done ?_
      refine s_ret (.tmp rfl .nil) ?_
      exact ⟨I, L, .refl _, fun _ h => h, _, rfl, ⟨fun _ => by rw [c1, hgx]; exact List.getElem_mem _, fun _ => by omega⟩, rfl, rfl⟩
    · intro c1
      try simp only [Bool.and_eq_true, Bool.or_eq_true, Bool.not_eq_true', Bool.not_eq_false', Bool.and_eq_false_iff, Bool.or_eq_false_iff, decide_eq_true_eq, decide_eq_false_iff_not] at c1
      refine s_skip ?_
      refine s_inBlock ?_
      refine o_enter rfl ?_
      refine o_arith rfl rfl rfl (by omega) .free rfl ?_
      refine o_move rfl .free rfl ?_
      refine o_done ?_
      refine s_env (E' := [(0, .slice oa l.length c), (1, .string (str s)), (7, .int .i64 (l.length : Nat)), (8, .int .i64 ((i + 1 : Nat)))]) ⟨rfl, rfl, rfl, rfl, trivial⟩ (ih (i + 1) ⟨by omega, ?_⟩ (by omega))
      rw [List.take_succ_eq_append_getElem (by omega), List.mem_append]
      rintro (h1 | h1)
      · exact hs h1
      · exact c1 (by rw [hgx]; exact List.mem_singleton.1 h1)
  · intro c0
    try simp only [Bool.and_eq_true, Bool.or_eq_true, Bool.not_eq_true', Bool.not_eq_false', Bool.and_eq_false_iff, Bool.or_eq_false_iff, decide_eq_true_eq, decide_eq_false_iff_not] at c0
    refine s_exit rfl ?_
    refine s_seq ?_
    refine o_enter rfl ?_
    refine o_assign rfl .free rfl ?_
    refine o_done ?_
    refine s_ret (.tmp rfl .nil) ?_
    refine ⟨I, L, .refl _, fun _ h => h, _, rfl, ⟨fun h => by simp at h, fun h => ?_⟩, rfl, rfl⟩
    rw [List.take_of_length_le (by omega)] at hs
    exact absurd h hs
theorem f_slices_Contains {I : Heap} {L : Own} {oa : Option Addr} {l : List Txt} (h : RStrs I L oa l) (c : Nat) (s : Txt) : Fun Try.prog 33 [.slice oa l.length c, .string (str s)] I L (Only (.bool (decide (s ∈ l))) I L) := by
  refine fun_intro (by simp) ?_
  refine s_seq ?_
  refine o_enter rfl ?_
  refine o_assign rfl .free rfl ?_
  refine o_done ?_
  refine s_seq ?_
  refine o_enter rfl ?_
  refine o_move rfl .free rfl ?_
  refine o_move rfl .free rfl ?_
  refine o_call rfl .free rfl (f_slices_Index h c s) ?_
  rintro _ _ _ _ ⟨i, rfl, hi, rfl, rfl⟩
  refine o_cmp rfl rfl rfl .free rfl ?_
  refine o_assign rfl .free rfl ?_
  refine o_done ?_
  refine s_ret (.tmp rfl .nil) ?_
  refine done_only rfl (by intro _ h; first | exact h | exact dr1 h | exact dr2 h | exact dr3 h | exact dr4 h | exact dr5 h | exact dr6 h) ?_
  simp [retOne, hi]
theorem g_l1Has {I : Heap} {L : Own} {oa : Option Addr} {l : List Txt} (h : RStrs I L oa l) (c : Nat) (s : Txt) : Fun Try.prog 24 [.slice oa l.length c, .string (str s)] I L (Only (.bool (decide (s ∈ l))) I L) := by
  have hlen := h.len
  have hnil := h.nil
  unfold maxN at hlen
  refine fun_intro (by simp) ?_
  refine s_seq ?_
  refine o_enter rfl ?_
  refine o_assign rfl .free rfl ?_
  refine o_done ?_
  refine s_seq ?_
  refine s_seq ?_
  refine o_enter rfl ?_
  refine o_assign rfl .free rfl ?_
  refine o_done ?_
  refine s_block ?_
  refine s_while (X := Nat) (fun i => l.length - i) (fun i => [(0, .slice oa l.length c), (1, .string (str s)), (5, .int .i64 (i : Nat))]) (fun _ => I) (fun _ => L) (fun i => i ≤ l.length ∧ s ∉ l.take i) 0 ⟨by simp, by simp⟩ ⟨rfl, rfl, rfl, trivial⟩ (fun _ h => h) ?_
  rintro i ⟨hi, hs⟩ ih
  refine s_seq ?_
  refine s_seq ?_
  refine o_enter rfl ?_
  refine o_move rfl .free rfl ?_
  refine o_move rfl .free rfl ?_
  refine o_len_slice rfl .free rfl ?_
  refine o_cmp rfl rfl rfl .free rfl ?_
  refine o_done ?_
  refine s_cond rfl ?_ ?_
  · intro c0
    try simp only [Bool.and_eq_true, Bool.or_eq_true, Bool.not_eq_true', Bool.not_eq_false', Bool.and_eq_false_iff, Bool.or_eq_false_iff, decide_eq_true_eq, decide_eq_false_iff_not] at c0
    have hgx : l.getD i [] = l[i] := by simp [show i < l.length by omega]
    have hst := h.st i (by omega)
    refine s_skip ?_
    refine s_seq ?_
    refine s_block ?_
    refine s_seq ?_
    refine o_enter rfl ?_
    refine o_move rfl .free rfl ?_
    refine o_move rfl .free rfl ?_
    first | refine o_indexAddrD rfl rfl _ rfl (by first | omega | exact lt_of (by assumption) (by decide) | (simp; done) | (simp; omega) | decide | (simp at *; omega)) (by first | assumption | exact FormAt.nil (by assumption) | exact Strs.nil' (by assumption) | exact Nums.nil' (by assumption) | exact Raw.nil' (by assumption)) .free rfl ?_ | refine o_indexAddr' rfl rfl _ rfl (by first | omega | exact lt_of (by assumption) (by decide) | (simp; done) | (simp; omega) | decide | (simp at *; omega)) (by first | rfl | assumption) .free rfl ?_
    refine o_load rfl (by first | exact loads_still1 (Nums.st (by assumption) _ (by first | omega | decide | (simp; done) | exact lt_of (by assumption) (by decide))) rfl | exact loads_still1 (Strs.st (by assumption) _ (by first | omega | decide | (simp; done) | exact lt_of (by assumption) (by decide))) rfl | exact loads_still1 (Raw.st (by assumption) _ (by first | omega | decide | (simp; done) | exact lt_of (by assumption) (by decide))) rfl | exact loads_still1 (by assumption) rfl | exact loads_scalar rfl (by assumption)) .free rfl ?_
    refine o_move rfl .free rfl ?_
    refine o_cmps rfl rfl rfl .free rfl ?_
    refine o_done ?_
    refine s_cond rfl ?_ ?_
    · intro c1
      try simp only [Bool.and_eq_true, Bool.or_eq_true, Bool.not_eq_true', Bool.not_eq_false', Bool.and_eq_false_iff, Bool.or_eq_false_iff, decide_eq_true_eq, decide_eq_false_iff_not] at c1
      refine s_seq ?_
      refine o_enter rfl ?_
      refine o_assign rfl .free rfl ?_
      refine o_done ?_
      refine s_ret (.tmp rfl .nil) ?_
      refine done_only rfl (by intro _ h; first | exact h | exact dr1 h | exact dr2 h | exact dr3 h | exact dr4 h | exact dr5 h | exact dr6 h) ?_
      have : s ∈ l := by rw [← c1, hgx]; exact List.getElem_mem _
      simp [retOne, this]
    · intro c1
      try simp only [Bool.and_eq_true, Bool.or_eq_true, Bool.not_eq_true', Bool.not_eq_false', Bool.and_eq_false_iff, Bool.or_eq_false_iff, decide_eq_true_eq, decide_eq_false_iff_not] at c1
      refine s_skip ?_
      refine s_inBlock ?_
      refine o_enter rfl ?_
      refine o_move rfl .free rfl ?_
      refine o_arith rfl rfl rfl (by omega) .free rfl ?_
      refine o_assign rfl .free rfl ?_
      refine o_done ?_
      refine s_env (E' := [(0, .slice oa l.length c), (1, .string (str s)), (5, .int .i64 ((i + 1 : Nat)))]) ⟨rfl, rfl, rfl, trivial⟩ (ih (i + 1) ⟨by omega, ?_⟩ (by omega))
      rw [List.take_succ_eq_append_getElem (by omega), List.mem_append]
      rintro (h1 | h1)
      · exact hs h1
      · exact c1 (by rw [hgx]; exact (List.mem_singleton.1 h1).symm)
  · intro c0
    try simp only [Bool.and_eq_true, Bool.or_eq_true, Bool.not_eq_true', Bool.not_eq_false', Bool.and_eq_false_iff, Bool.or_eq_false_iff, decide_eq_true_eq, decide_eq_false_iff_not] at c0
    refine s_exit rfl ?_
    refine s_seq ?_
    refine o_enter rfl ?_
    refine o_assign rfl .free rfl ?_
    refine o_done ?_
    refine s_ret (.tmp rfl .nil) ?_
    refine done_only rfl (by intro _ h; first | exact h | exact dr1 h | exact dr2 h | exact dr3 h | exact dr4 h | exact dr5 h | exact dr6 h) ?_
    have : s ∉ l := by rwa [List.take_of_length_le (by omega)] at hs
    simp [retOne, this]
theorem f_slices_Grow (m : Nat) (hm : m ≤ 4294967296) (I : Heap) (L : Own) : Fun Try.prog 64 [.slice none 0 0, .int .i64 (m : Nat)] I L
    (fun v I' L' => ∃ B c, v = bufVal 0 c B ∧ BufOk 1 0 c [] B ∧ I = I' ∧ L' = bufOwn 9 [] B ++ L) := by
  refine fun_intro (by simp) ?_
  refine s_seq ?_
  refine o_enter rfl ?_
  refine o_assign rfl .free rfl ?_
  refine o_done ?_
  refine s_seq ?_
  refine s_seq ?_
  refine o_enter rfl ?_
  refine o_move rfl .free rfl ?_
  refine o_cmp rfl rfl rfl .free rfl ?_
  refine o_done ?_
  first | refine s_fp rfl (by omega) ?_ | refine s_fn rfl (by omega) ?_ | refine s_false (by simp [look, opd, *]) ?_
  refine s_skip ?_
  refine s_seq ?_
  refine s_seq ?_
  refine o_enter rfl ?_
  refine o_move rfl .free rfl ?_
  refine o_move rfl .free rfl ?_
  refine o_cap_slice rfl .free rfl ?_
  refine o_move rfl .free rfl ?_
  refine o_len_slice rfl .free rfl ?_
  refine o_arith rfl rfl rfl (by omega) .free rfl ?_
  refine o_arith rfl rfl rfl (by omega) .free rfl ?_
  refine o_assign rfl .free rfl ?_
  refine o_done ?_
  refine s_seq ?_
  refine s_put (t := 1) (v' := .int .i64 (m : Nat)) rfl (by congr 1) ?_
  refine o_enter rfl ?_
  refine o_move rfl .free rfl ?_
  refine o_cmp rfl rfl rfl .free rfl ?_
  refine o_done ?_
  refine s_cond rfl ?_ ?_
  · intro c1
    try simp only [Bool.and_eq_true, Bool.or_eq_true, Bool.not_eq_true', Bool.not_eq_false', Bool.and_eq_false_iff, Bool.or_eq_false_iff, decide_eq_true_eq, decide_eq_false_iff_not] at c1
    have hm0 : 0 < m := by omega
    refine o_enter rfl ?_
    refine o_move rfl .free rfl ?_
    refine o_move rfl .free rfl ?_
    refine o_cap_slice rfl .free rfl ?_
    refine o_slice_slice rfl rfl rfl 0 _ rfl rfl (by first | omega | exact lt_of (by assumption) (by decide) | (simp; done) | (simp; omega) | decide | (simp at *; omega)) .free rfl ?_
    refine o_move rfl .free rfl ?_
    refine o_appendN (m := m) (by rfl) rfl rfl rfl (by omega) (by decide) hm (by decide) .free rfl ?_
    intro b Z c' hZ hmc
    refine o_move rfl .free rfl ?_
    refine o_len_slice rfl .free rfl ?_
    refine o_slice_slice rfl rfl rfl 0 _ rfl rfl (by first | omega | exact lt_of (by assumption) (by decide) | (simp; done) | (simp; omega) | decide | (simp at *; omega)) .free rfl ?_
    refine o_assign rfl .free rfl ?_
    refine o_done ?_
    refine s_seq ?_
    refine o_enter rfl ?_
    refine o_move rfl .free rfl ?_
    refine o_assign rfl .free rfl ?_
    refine o_done ?_
    refine s_ret (.tmp rfl .nil) ?_
    first
      | exact ⟨I, _, .refl _, fun _ h => h, some (b, Z), c', by simp [retOne, bufVal, Addr.add], ⟨rfl, Nat.zero_le _, by simpa using hZ⟩, rfl, rfl⟩
      | exact ⟨I, _, .refl _, fun _ h => h, none, 0, rfl, ⟨rfl, rfl, rfl⟩, rfl, rfl⟩
  · intro c1
    try simp only [Bool.and_eq_true, Bool.or_eq_true, Bool.not_eq_true', Bool.not_eq_false', Bool.and_eq_false_iff, Bool.or_eq_false_iff, decide_eq_true_eq, decide_eq_false_iff_not] at c1
    refine s_skip ?_
    refine s_seq ?_
    refine o_enter rfl ?_
    refine o_move rfl .free rfl ?_
    refine o_assign rfl .free rfl ?_
    refine o_done ?_
    refine s_ret (.tmp rfl .nil) ?_
    first
      | exact ⟨I, _, .refl _, fun _ h => h, some (b, Z), c', by simp [retOne, bufVal, Addr.add], ⟨rfl, Nat.zero_le _, by simpa using hZ⟩, rfl, rfl⟩
      | exact ⟨I, _, .refl _, fun _ h => h, none, 0, rfl, ⟨rfl, rfl, rfl⟩, rfl, rfl⟩

/-- What makes a list of texts returns. -/
def SS (l : List Txt) (L : Own) : Post := fun v I' L' => ∃ oa c, v = .slice oa (List.length l) c ∧ Strs I' oa l c ∧ L = L'
theorem Strs.append {I : Heap} {oa ob : Option Addr} {l m : List Txt} {c c' : Nat} (h : Strs I oa l c) (h' : Strs I ob m c') : ∀ s ∈ l ++ m, s.length ≤ maxN := by
  intro s hs
  rcases List.mem_append.1 hs with hs | hs
  · exact h.each s hs
  · exact h'.each s hs
theorem f_slices_Concat {I : Heap} {oa ob : Option Addr} {l m : List Txt} {c c' : Nat} {x : Addr} (hx : Still I x [.slice oa l.length c, .slice ob m.length c']) (h : Strs I oa l c) (h' : Strs I ob m c') (hz : l.length + m.length ≤ maxN) (L : Own) :
    Fun Try.prog 59 [.slice (some x) 2 2] I L (SS (l ++ m) L) := by
  unfold maxN at hz
  have h0 : Still I ((oad (some x)).add (0 * 1)) [.slice oa l.length c] := hx.part (0 * 1) (by intro i hi; obtain rfl : i = 0 := (by simpa using hi); rfl)
  have h1 : Still I ((oad (some x)).add (1 * 1)) [.slice ob m.length c'] := hx.part (1 * 1) (by intro i hi; obtain rfl : i = 0 := (by simpa using hi); rfl)
  have hn : some x = none → 2 = 0 := by intro e; cases e
  refine fun_intro (by simp) ?_
  refine s_seq ?_
  refine o_enter rfl ?_
  refine o_assign rfl .free rfl ?_
  refine o_done ?_
  refine s_seq ?_
  refine o_enter rfl ?_
  refine o_assign rfl .free rfl ?_
  refine o_done ?_
  refine s_seq ?_
  refine s_seq ?_
  refine o_enter rfl ?_
  refine o_move rfl .free rfl ?_
  refine o_len_slice rfl .free rfl ?_
  refine o_move rfl .free rfl ?_
  refine o_done ?_
  refine s_block ?_
  refine s_loop ?_
  refine s_seq ?_
  refine o_enter rfl ?_
  refine o_cmp rfl rfl rfl .free rfl ?_
  refine o_done ?_
  refine s_seq ?_
  refine s_condT rfl (by first | rfl | decide | (simp; done) | omega) ?_
  refine s_skip ?_
  refine s_seq ?_
  refine s_block ?_
  refine s_seq ?_
  refine o_enter rfl ?_
  first | refine o_indexAddrD rfl rfl _ rfl (by first | omega | exact lt_of (by assumption) (by decide) | (simp; done) | (simp; omega) | decide | (simp at *; omega)) (by first | assumption | exact FormAt.nil (by assumption) | exact Strs.nil' (by assumption) | exact Nums.nil' (by assumption) | exact Raw.nil' (by assumption)) .free rfl ?_ | refine o_indexAddr' rfl rfl _ rfl (by first | omega | exact lt_of (by assumption) (by decide) | (simp; done) | (simp; omega) | decide | (simp at *; omega)) (by first | rfl | assumption) .free rfl ?_
  refine o_load rfl (by first | exact loads_still1 (Nums.st (by assumption) _ (by first | omega | decide | (simp; done) | exact lt_of (by assumption) (by decide))) rfl | exact loads_still1 (Strs.st (by assumption) _ (by first | omega | decide | (simp; done) | exact lt_of (by assumption) (by decide))) rfl | exact loads_still1 (Raw.st (by assumption) _ (by first | omega | decide | (simp; done) | exact lt_of (by assumption) (by decide))) rfl | exact loads_still1 (by assumption) rfl | exact loads_scalar rfl (by assumption)) .free rfl ?_
  refine o_assign rfl .free rfl ?_
  refine o_done ?_
  refine s_seq ?_
  refine o_enter rfl ?_
  refine o_move rfl .free rfl ?_
  refine o_move rfl .free rfl ?_
  refine o_len_slice rfl .free rfl ?_
  refine o_arith rfl rfl rfl (by omega) .free rfl ?_
  refine o_assign rfl .free rfl ?_
  refine o_done ?_
  refine s_seq ?_
  refine o_enter rfl ?_
  refine o_move rfl .free rfl ?_
  refine o_cmp rfl rfl rfl .free rfl ?_
  refine o_done ?_
  first | refine s_fp rfl (by omega) ?_ | refine s_fn rfl (by omega) ?_ | refine s_false (by simp [look, opd, *]) ?_
  refine s_skip ?_
  refine s_inBlock ?_
  refine o_enter rfl ?_
  refine o_arith rfl rfl rfl (by omega) .free rfl ?_
  refine o_move rfl .free rfl ?_
  refine o_done ?_
  refine s_round ?_
  refine s_seq ?_
  refine o_enter rfl ?_
  refine o_cmp rfl rfl rfl .free rfl ?_
  refine o_done ?_
  refine s_seq ?_
  refine s_condT rfl (by first | rfl | decide | (simp; done) | omega) ?_
  refine s_skip ?_
  refine s_seq ?_
  refine s_block ?_
  refine s_seq ?_
  refine o_enter rfl ?_
  first | refine o_indexAddrD rfl rfl _ rfl (by first | omega | exact lt_of (by assumption) (by decide) | (simp; done) | (simp; omega) | decide | (simp at *; omega)) (by first | assumption | exact FormAt.nil (by assumption) | exact Strs.nil' (by assumption) | exact Nums.nil' (by assumption) | exact Raw.nil' (by assumption)) .free rfl ?_ | refine o_indexAddr' rfl rfl _ rfl (by first | omega | exact lt_of (by assumption) (by decide) | (simp; done) | (simp; omega) | decide | (simp at *; omega)) (by first | rfl | assumption) .free rfl ?_
  refine o_load rfl (by first | exact loads_still1 (Nums.st (by assumption) _ (by first | omega | decide | (simp; done) | exact lt_of (by assumption) (by decide))) rfl | exact loads_still1 (Strs.st (by assumption) _ (by first | omega | decide | (simp; done) | exact lt_of (by assumption) (by decide))) rfl | exact loads_still1 (Raw.st (by assumption) _ (by first | omega | decide | (simp; done) | exact lt_of (by assumption) (by decide))) rfl | exact loads_still1 (by assumption) rfl | exact loads_scalar rfl (by assumption)) .free rfl ?_
  refine o_assign rfl .free rfl ?_
  refine o_done ?_
  refine s_seq ?_
  refine o_enter rfl ?_
  refine o_move rfl .free rfl ?_
  refine o_move rfl .free rfl ?_
  refine o_len_slice rfl .free rfl ?_
  refine o_arith rfl rfl rfl (by omega) .free rfl ?_
  refine o_assign rfl .free rfl ?_
  refine o_done ?_
  refine s_seq ?_
  refine o_enter rfl ?_
  refine o_move rfl .free rfl ?_
  refine o_cmp rfl rfl rfl .free rfl ?_
  refine o_done ?_
  first | refine s_fp rfl (by omega) ?_ | refine s_fn rfl (by omega) ?_ | refine s_false (by simp [look, opd, *]) ?_
  refine s_skip ?_
  refine s_inBlock ?_
  refine o_enter rfl ?_
  refine o_arith rfl rfl rfl (by omega) .free rfl ?_
  refine o_move rfl .free rfl ?_
  refine o_done ?_
  refine s_round ?_
  refine s_seq ?_
  refine o_enter rfl ?_
  refine o_cmp rfl rfl rfl .free rfl ?_
  refine o_done ?_
  refine s_seq ?_
  refine s_condF rfl (by first | rfl | decide | (simp; done) | omega) ?_
  refine s_exit rfl ?_
  refine s_seq ?_
  refine s_put (t := 3) (v' := .int .i64 ((l.length + m.length : Nat))) rfl (by congr 1; omega) ?_
  refine o_enter rfl ?_
  refine o_move rfl .free rfl ?_
  refine o_call rfl .free rfl (f_slices_Grow (l.length + m.length) hz _ _) ?_
  rintro _ _ _ _ ⟨B, c0, rfl, hB0, rfl, rfl⟩
  refine o_assign rfl .free rfl ?_
  refine o_done ?_
  refine s_seq ?_
  refine s_seq ?_
  refine o_enter rfl ?_
  refine o_move rfl .free rfl ?_
  refine o_len_slice rfl .free rfl ?_
  refine o_move rfl .free rfl ?_
  refine o_done ?_
  refine s_block ?_
  refine s_loop ?_
  refine s_seq ?_
  refine o_enter rfl ?_
  refine o_cmp rfl rfl rfl .free rfl ?_
  refine o_done ?_
  refine s_seq ?_
  refine s_condT rfl (by first | rfl | decide | (simp; done) | omega) ?_
  refine s_skip ?_
  refine s_seq ?_
  refine s_block ?_
  refine s_seq ?_
  refine o_enter rfl ?_
  first | refine o_indexAddrD rfl rfl _ rfl (by first | omega | exact lt_of (by assumption) (by decide) | (simp; done) | (simp; omega) | decide | (simp at *; omega)) (by first | assumption | exact FormAt.nil (by assumption) | exact Strs.nil' (by assumption) | exact Nums.nil' (by assumption) | exact Raw.nil' (by assumption)) .free rfl ?_ | refine o_indexAddr' rfl rfl _ rfl (by first | omega | exact lt_of (by assumption) (by decide) | (simp; done) | (simp; omega) | decide | (simp at *; omega)) (by first | rfl | assumption) .free rfl ?_
  refine o_load rfl (by first | exact loads_still1 (Nums.st (by assumption) _ (by first | omega | decide | (simp; done) | exact lt_of (by assumption) (by decide))) rfl | exact loads_still1 (Strs.st (by assumption) _ (by first | omega | decide | (simp; done) | exact lt_of (by assumption) (by decide))) rfl | exact loads_still1 (Raw.st (by assumption) _ (by first | omega | decide | (simp; done) | exact lt_of (by assumption) (by decide))) rfl | exact loads_still1 (by assumption) rfl | exact loads_scalar rfl (by assumption)) .free rfl ?_
  refine o_assign rfl .free rfl ?_
  refine o_done ?_
  refine o_enter rfl ?_
  refine o_move rfl .free rfl ?_
  refine o_move rfl .free rfl ?_
  refine o_appendB (B := B) (xs := []) (ys := l.map sv) (m := 0) (c := c0) (L₀ := L) (by intro kk; simp) (by rfl) rfl rfl hB0 (fun _ h => h) (by simp) h.reads h.none (sv_plain l) (by decide) (by omega) (by decide) .free rfl ?_
  intro B1 c1 hB1
  refine o_assign rfl .free rfl ?_
  refine o_done ?_
  refine s_inBlock ?_
  refine o_enter rfl ?_
  refine o_arith rfl rfl rfl (by omega) .free rfl ?_
  refine o_move rfl .free rfl ?_
  refine o_done ?_
  refine s_round ?_
  refine s_seq ?_
  refine o_enter rfl ?_
  refine o_cmp rfl rfl rfl .free rfl ?_
  refine o_done ?_
  refine s_seq ?_
  refine s_condT rfl (by first | rfl | decide | (simp; done) | omega) ?_
  refine s_skip ?_
  refine s_seq ?_
  refine s_block ?_
  refine s_seq ?_
  refine o_enter rfl ?_
  first | refine o_indexAddrD rfl rfl _ rfl (by first | omega | exact lt_of (by assumption) (by decide) | (simp; done) | (simp; omega) | decide | (simp at *; omega)) (by first | assumption | exact FormAt.nil (by assumption) | exact Strs.nil' (by assumption) | exact Nums.nil' (by assumption) | exact Raw.nil' (by assumption)) .free rfl ?_ | refine o_indexAddr' rfl rfl _ rfl (by first | omega | exact lt_of (by assumption) (by decide) | (simp; done) | (simp; omega) | decide | (simp at *; omega)) (by first | rfl | assumption) .free rfl ?_
  refine o_load rfl (by first | exact loads_still1 (Nums.st (by assumption) _ (by first | omega | decide | (simp; done) | exact lt_of (by assumption) (by decide))) rfl | exact loads_still1 (Strs.st (by assumption) _ (by first | omega | decide | (simp; done) | exact lt_of (by assumption) (by decide))) rfl | exact loads_still1 (Raw.st (by assumption) _ (by first | omega | decide | (simp; done) | exact lt_of (by assumption) (by decide))) rfl | exact loads_still1 (by assumption) rfl | exact loads_scalar rfl (by assumption)) .free rfl ?_
  refine o_assign rfl .free rfl ?_
  refine o_done ?_
  refine o_enter rfl ?_
  refine o_move rfl .free rfl ?_
  refine o_move rfl .free rfl ?_
  refine o_appendB (B := B1) (xs := l.map sv) (ys := m.map sv) (m := 0 + l.length) (c := c1) (L₀ := L) (by intro kk; simp) (by rfl) rfl rfl hB1 (fun _ h => h) (by simp) h'.reads h'.none (sv_plain m) (by decide) (by omega) (by decide) .free rfl ?_
  intro B2 c2 hB2
  refine o_assign rfl .free rfl ?_
  refine o_done ?_
  refine s_inBlock ?_
  refine o_enter rfl ?_
  refine o_arith rfl rfl rfl (by omega) .free rfl ?_
  refine o_move rfl .free rfl ?_
  refine o_done ?_
  refine s_round ?_
  refine s_seq ?_
  refine o_enter rfl ?_
  refine o_cmp rfl rfl rfl .free rfl ?_
  refine o_done ?_
  refine s_seq ?_
  refine s_condF rfl (by first | rfl | decide | (simp; done) | omega) ?_
  refine s_exit rfl ?_
  refine s_seq ?_
  have hB3 : BufOk 1 (0 + l.length + m.length) c2 ((l ++ m).map sv) B2 := by simpa using hB2
  rw [← List.map_append]
  refine s_freezeStrs hB3 (by simp) (by simp [maxN]; omega) (h.append h') ?_
  intro I' oc c3 hle hbv hst
  refine s_put (t := 6) (v' := .slice oc (l ++ m).length c3) rfl hbv ?_
  refine o_enter rfl ?_
  refine o_move rfl .free rfl ?_
  refine o_assign rfl .free rfl ?_
  refine o_done ?_
  refine s_ret (.tmp rfl .nil) ?_
  exact ⟨I', L, hle, fun _ h => h, oc, c3, rfl, hst, rfl⟩
end Go.Proofs.Ytekfjhopngcneaa


/- Environments: reading one, and looking up a name. No conditions. -/
import Derived.Test.YthfkmfacmijbpaaW7
namespace Go.Proofs.Ythfkmfacmijbpaa
set_option maxRecDepth 100000
set_option linter.unusedVariables false
set_option linter.unusedSimpArgs false

theorem typeOf_true {s : Txt} {t : Tree} {ok : Bool} (h : match parse s with | some t0 => ok = t0.typed ∧ t = t0 | none => ok = false) : typeOf s = bif ok then some t else none := by
  unfold typeOf
  cases hp : parse s with
  | none => rw [hp] at h; simp only at h; subst h; rfl
  | some t0 => rw [hp] at h; obtain ⟨rfl, rfl⟩ := h; rfl
theorem typeOf_text {s : Txt} {t : Tree} (h : typeOf s = some t) : t.text = s := by
  unfold typeOf at h
  cases hp : parse s with
  | none => rw [hp] at h; cases h
  | some t0 => rw [hp] at h; cases ht : t0.typed <;> simp [ht] at h; subst h; exact parse_text hp

structure ES where
  I : Heap
  i : Nat
  ts : List Tree
  B : Buf
  c : Nat
  xs : List Value
structure ESInv (I : Heap) (l m : List Txt) (x : ES) : Prop where
  hle : HLe I x.I
  hrl : RepL x.I x.ts x.xs
  hB : BufOk 2 x.i x.c x.xs x.B
  hlen : x.i = x.ts.length
  hi : x.i ≤ m.length
  hts : (m.take x.i).map typeOf = x.ts.map some
  hall : (l.take x.i).all isName = true

/-- What 'readEnv' returns. -/
def RE (oa : Option Addr) (l m : List Txt) (c : Nat) (L : Own) : Post := fun v I' L' => ∃ oa' n c2 ob' ts c3, v = .tuple #[.agg [.slice oa' n c2, .slice ob' (List.length ts) c3].toArray, .bool (isEnv l m)] ∧ L = L' ∧
  Rep I' (.node [] ts) [.string (str []), .slice ob' ts.length c3] ∧ (isEnv l m = true → oa' = oa ∧ n = l.length ∧ c2 = c ∧ m.map typeOf = ts.map some)
theorem RE_no {oa : Option Addr} {l m : List Txt} {c : Nat} {L : Own} {I : Heap} (h : isEnv l m = false) : RE oa l m c L (retOne [.agg #[.slice none 0 0, .slice none 0 0], .bool false]) I L :=
  ⟨none, 0, 0, none, [], 0, by rw [h]; rfl, rfl, Rep.empty I, by rw [h]; intro e; cases e⟩
theorem isEnv_len {l m : List Txt} (h : isEnv l m = true) : l.length ≤ 8 ∧ l.length = m.length ∧ l.all isName = true ∧ ∀ s ∈ m, (typeOf s).isSome = true := by
  simpa [isEnv, and_assoc] using h

theorem f_readEnv {I : Heap} {oa ob : Option Addr} {l m : List Txt} {c c' : Nat} (h : Strs I oa l c) (h' : Strs I ob m c') (L : Own) :
    Fun Try.prog 11 [.slice oa l.length c, .slice ob m.length c'] I L (RE oa l m c L) := by
  have hlen := h.len
  have hlen' := h'.len
  unfold maxN at hlen hlen'
  refine fun_intro (by simp) ?_
  refine s_seq ?_
  refine o_enter rfl ?_
  refine o_alloc .free rfl ?_
  intro b4
  refine o_assign rfl .free rfl ?_
  refine o_done ?_
  refine s_seq ?_
  refine s_seq ?_
  refine o_enter rfl ?_
  refine o_move rfl .free rfl ?_
  refine o_len_slice rfl .free rfl ?_
  refine o_cmp rfl rfl rfl .free rfl ?_
  refine o_move rfl .free rfl ?_
  first | refine g_if rfl rfl ?_ ?_ | refine g_ifn rfl rfl ?_ ?_ | refine g_b rfl rfl ?_ ?_
  · intro g1_4
    refine o_skip rfl rfl rfl ?_
    refine o_skip rfl rfl rfl ?_
    refine o_skip rfl rfl rfl ?_
    refine o_skip rfl rfl rfl ?_
    refine o_skip rfl rfl rfl ?_
    refine o_pick_true rfl rfl .free rfl ?_
    refine o_done ?_
    refine s_true rfl ?_
    refine s_seq ?_
    refine o_enter rfl ?_
    refine o_struct rfl rfl rfl .free rfl ?_
    refine o_store rfl rfl rfl rfl (by first | rfl | (simp only [List.toList_toArray, List.all_cons, List.all_nil, plainCell_buf, Bool.and_true, Bool.true_and] <;> rfl)) (by first | exact .here | exact .there .here | exact .there (.there .here) | exact .there (.there (.there .here)) | exact .there (.there (.there (.there .here))) | exact .there (.there (.there (.there (.there .here)))) | exact .there (.there (.there (.there (.there (.there .here)))))) (by rfl) .free ?_
    refine o_assign rfl .free rfl ?_
    refine o_done ?_
    refine s_ret (.cell rfl (by first | exact loads_still1 (by assumption) rfl | exact loads_ownS (by first | exact .head _ | exact .tail _ (.head _) | exact .tail _ (.tail _ (.head _)) | exact .tail _ (.tail _ (.tail _ (.head _))) | exact .tail _ (.tail _ (.tail _ (.tail _ (.head _)))) | exact .tail _ (.tail _ (.tail _ (.tail _ (.tail _ (.head _))))) | exact .tail _ (.tail _ (.tail _ (.tail _ (.tail _ (.tail _ (.head _))))))) (by rfl) | exact loads_own1 (by first | exact .head _ | exact .tail _ (.head _) | exact .tail _ (.tail _ (.head _)) | exact .tail _ (.tail _ (.tail _ (.head _))) | exact .tail _ (.tail _ (.tail _ (.tail _ (.head _)))) | exact .tail _ (.tail _ (.tail _ (.tail _ (.tail _ (.head _))))) | exact .tail _ (.tail _ (.tail _ (.tail _ (.tail _ (.tail _ (.head _))))))) (by rfl) rfl | exact loads_stillS (by assumption) (by rfl) | exact loads_stillF (by assumption) (by rfl) rfl) (.tmp rfl .nil)) ?_
    refine ⟨I, L, .refl _, fun _ h => h.drop, RE_no ?_⟩
    first | (have hn : ¬ l.length ≤ 8 := by omega
             simp [isEnv, hn]) | (have hn : ¬ l.length = m.length := by omega
                                  simp [isEnv, hn])
  · intro g1_4
    refine o_move rfl (.met rfl rfl) rfl ?_
    refine o_len_slice rfl (.met rfl rfl) rfl ?_
    refine o_move rfl (.met rfl rfl) rfl ?_
    refine o_len_slice rfl (.met rfl rfl) rfl ?_
    refine o_cmp rfl rfl rfl (.met rfl rfl) rfl ?_
    refine o_pick_false rfl rfl .free rfl ?_
    refine o_done ?_
    first | refine s_if rfl ?_ ?_ | refine s_ifn rfl ?_ ?_ | refine s_cond rfl ?_ ?_
    · intro c0
      refine s_seq ?_
      refine o_enter rfl ?_
      refine o_struct rfl rfl rfl .free rfl ?_
      refine o_store rfl rfl rfl rfl (by first | rfl | (simp only [List.toList_toArray, List.all_cons, List.all_nil, plainCell_buf, Bool.and_true, Bool.true_and] <;> rfl)) (by first | exact .here | exact .there .here | exact .there (.there .here) | exact .there (.there (.there .here)) | exact .there (.there (.there (.there .here))) | exact .there (.there (.there (.there (.there .here)))) | exact .there (.there (.there (.there (.there (.there .here)))))) (by rfl) .free ?_
      refine o_assign rfl .free rfl ?_
      refine o_done ?_
      refine s_ret (.cell rfl (by first | exact loads_still1 (by assumption) rfl | exact loads_ownS (by first | exact .head _ | exact .tail _ (.head _) | exact .tail _ (.tail _ (.head _)) | exact .tail _ (.tail _ (.tail _ (.head _))) | exact .tail _ (.tail _ (.tail _ (.tail _ (.head _)))) | exact .tail _ (.tail _ (.tail _ (.tail _ (.tail _ (.head _))))) | exact .tail _ (.tail _ (.tail _ (.tail _ (.tail _ (.tail _ (.head _))))))) (by rfl) | exact loads_own1 (by first | exact .head _ | exact .tail _ (.head _) | exact .tail _ (.tail _ (.head _)) | exact .tail _ (.tail _ (.tail _ (.head _))) | exact .tail _ (.tail _ (.tail _ (.tail _ (.head _)))) | exact .tail _ (.tail _ (.tail _ (.tail _ (.tail _ (.head _))))) | exact .tail _ (.tail _ (.tail _ (.tail _ (.tail _ (.tail _ (.head _))))))) (by rfl) rfl | exact loads_stillS (by assumption) (by rfl) | exact loads_stillF (by assumption) (by rfl) rfl) (.tmp rfl .nil)) ?_
      refine ⟨I, L, .refl _, fun _ h => h.drop, RE_no ?_⟩
      first | (have hn : ¬ l.length ≤ 8 := by omega
               simp [isEnv, hn]) | (have hn : ¬ l.length = m.length := by omega
                                    simp [isEnv, hn])
    · intro c0
      refine s_skip ?_
      refine s_seq ?_
      refine o_enter rfl ?_
      refine o_move rfl .free rfl ?_
      refine o_struct rfl rfl rfl .free rfl ?_
      refine o_alloc .free rfl ?_
      intro b6
      refine o_store rfl rfl rfl rfl (by first | rfl | (simp only [List.toList_toArray, List.all_cons, List.all_nil, plainCell_buf, Bool.and_true, Bool.true_and] <;> rfl)) (by first | exact .here | exact .there .here | exact .there (.there .here) | exact .there (.there (.there .here)) | exact .there (.there (.there (.there .here))) | exact .there (.there (.there (.there (.there .here)))) | exact .there (.there (.there (.there (.there (.there .here)))))) (by rfl) .free ?_
      refine o_done ?_
      refine s_seq ?_
      refine s_seq ?_
      refine o_enter rfl ?_
      refine o_move rfl .free rfl ?_
      refine o_len_slice rfl .free rfl ?_
      refine o_move rfl .free rfl ?_
      refine o_done ?_
      refine s_block ?_
      refine s_while (X := ES) (fun x => m.length - x.i) (fun x => [(0, .slice oa l.length c), (4, .pointer (some ⟨b4, 0, none⟩)), (6, .pointer (some ⟨b6, 0, none⟩)), (24, .slice ob m.length c'), (25, .int .i64 (m.length : Nat)), (26, .int .i64 (x.i : Nat))]) (fun x => x.I)
          (fun x => (b6, .cells [.slice oa l.length c, bufVal x.i x.c x.B].toArray 36 (0, 0)) :: (b4, .cells [.slice none 0 0, .slice none 0 0].toArray 36 (0, 0)) :: (bufOwn 41 x.xs x.B ++ L)) (ESInv I l m) ⟨I, 0, [], none, 0, []⟩
          ⟨.refl _, .nil, ⟨rfl, rfl, rfl⟩, rfl, Nat.zero_le _, rfl, rfl⟩ ⟨rfl, rfl, rfl, rfl, rfl, rfl, trivial⟩ (fun _ h => h) ?_
      rintro x ⟨hle, hrl, hB, hxl, hxi, hts, hall⟩ ih
      refine s_seq ?_
      refine o_enter rfl ?_
      refine o_cmp rfl rfl rfl .free rfl ?_
      refine o_done ?_
      refine s_seq ?_
      first | refine s_if rfl ?_ ?_ | refine s_ifn rfl ?_ ?_ | refine s_cond rfl ?_ ?_
      · intro c1
        obtain ⟨y, hy, hst⟩ := (h'.mono hle).at x.i (by omega)
        have hey := h'.each _ (List.getElem_mem (show x.i < m.length by omega))
        refine s_skip ?_
        refine s_seq ?_
        refine s_block ?_
        refine s_seq ?_
        refine o_enter rfl ?_
        refine o_move rfl .free rfl ?_
        refine o_indexAddr' rfl rfl _ rfl (by first | omega | (simp; done) | (simp; omega) | (simp at *; omega)) (by first | rfl | assumption) .free rfl ?_
        refine o_load rfl (by first | exact loads_still1 (by assumption) rfl | exact loads_ownS (by first | exact .head _ | exact .tail _ (.head _) | exact .tail _ (.tail _ (.head _)) | exact .tail _ (.tail _ (.tail _ (.head _))) | exact .tail _ (.tail _ (.tail _ (.tail _ (.head _)))) | exact .tail _ (.tail _ (.tail _ (.tail _ (.tail _ (.head _))))) | exact .tail _ (.tail _ (.tail _ (.tail _ (.tail _ (.tail _ (.head _))))))) (by rfl) | exact loads_own1 (by first | exact .head _ | exact .tail _ (.head _) | exact .tail _ (.tail _ (.head _)) | exact .tail _ (.tail _ (.tail _ (.head _))) | exact .tail _ (.tail _ (.tail _ (.tail _ (.head _)))) | exact .tail _ (.tail _ (.tail _ (.tail _ (.tail _ (.head _))))) | exact .tail _ (.tail _ (.tail _ (.tail _ (.tail _ (.tail _ (.head _))))))) (by rfl) rfl | exact loads_stillS (by assumption) (by rfl) | exact loads_stillF (by assumption) (by rfl) rfl) .free rfl ?_
        refine o_assign rfl .free rfl ?_
        refine o_assign rfl .free rfl ?_
        refine o_done ?_
        refine s_seq ?_
        refine o_enter rfl ?_
        refine o_move rfl .free rfl ?_
        refine o_call rfl .free rfl (f_readType m[x.i] hey _ _) ?_
        rintro _ J _ hleJ ⟨t, cs, ok, rfl, hrep, rfl, hpf⟩
        obtain ⟨oq, cq, vs, rfl, -⟩ := hrep.open
        have htO := typeOf_true hpf
        obtain ⟨z, hz, hst2⟩ := ((h.mono hle).mono hleJ).at x.i (by omega)
        have hez := h.each _ (List.getElem_mem (show x.i < l.length by omega))
        refine o_move rfl .free rfl ?_
        refine o_extract rfl rfl .free rfl ?_
        refine o_extract rfl rfl .free rfl ?_
        refine o_alloc .free rfl ?_
        intro b9
        refine o_store rfl rfl rfl rfl (by first | rfl | (simp only [List.toList_toArray, List.all_cons, List.all_nil, plainCell_buf, Bool.and_true, Bool.true_and] <;> rfl)) (by first | exact .here | exact .there .here | exact .there (.there .here) | exact .there (.there (.there .here)) | exact .there (.there (.there (.there .here))) | exact .there (.there (.there (.there (.there .here)))) | exact .there (.there (.there (.there (.there (.there .here)))))) (by rfl) .free ?_
        refine o_assign rfl .free rfl ?_
        refine o_done ?_
        refine s_seq ?_
        refine s_seq ?_
        refine o_enter rfl ?_
        refine o_move rfl .free rfl ?_
        refine o_not rfl .free rfl ?_
        refine o_move rfl .free rfl ?_
        first | refine g_if rfl rfl ?_ ?_ | refine g_ifn rfl rfl ?_ ?_ | refine g_b rfl rfl ?_ ?_
        · intro g8_3
          refine o_skip rfl rfl rfl ?_
          refine o_skip rfl rfl rfl ?_
          refine o_skip rfl rfl rfl ?_
          refine o_skip rfl rfl rfl ?_
          refine o_skip rfl rfl rfl ?_
          refine o_skip rfl rfl rfl ?_
          refine o_pick_true rfl rfl .free rfl ?_
          refine o_done ?_
          refine s_true rfl ?_
          refine s_seq ?_
          refine o_enter rfl ?_
          refine o_struct rfl rfl rfl .free rfl ?_
          refine o_store rfl rfl rfl rfl (by first | rfl | (simp only [List.toList_toArray, List.all_cons, List.all_nil, plainCell_buf, Bool.and_true, Bool.true_and] <;> rfl)) (by first | exact .here | exact .there .here | exact .there (.there .here) | exact .there (.there (.there .here)) | exact .there (.there (.there (.there .here))) | exact .there (.there (.there (.there (.there .here)))) | exact .there (.there (.there (.there (.there (.there .here)))))) (by rfl) .free ?_
          refine o_assign rfl .free rfl ?_
          refine o_done ?_
          refine s_ret (.cell rfl (by first | exact loads_still1 (by assumption) rfl | exact loads_ownS (by first | exact .head _ | exact .tail _ (.head _) | exact .tail _ (.tail _ (.head _)) | exact .tail _ (.tail _ (.tail _ (.head _))) | exact .tail _ (.tail _ (.tail _ (.tail _ (.head _)))) | exact .tail _ (.tail _ (.tail _ (.tail _ (.tail _ (.head _))))) | exact .tail _ (.tail _ (.tail _ (.tail _ (.tail _ (.tail _ (.head _))))))) (by rfl) | exact loads_own1 (by first | exact .head _ | exact .tail _ (.head _) | exact .tail _ (.tail _ (.head _)) | exact .tail _ (.tail _ (.tail _ (.head _))) | exact .tail _ (.tail _ (.tail _ (.tail _ (.head _)))) | exact .tail _ (.tail _ (.tail _ (.tail _ (.tail _ (.head _))))) | exact .tail _ (.tail _ (.tail _ (.tail _ (.tail _ (.tail _ (.head _))))))) (by rfl) rfl | exact loads_stillS (by assumption) (by rfl) | exact loads_stillF (by assumption) (by rfl) rfl) (.tmp rfl .nil)) ?_
          refine ⟨J, L, hle.trans hleJ, fun w h => h.sub ((((List.sublist_append_right _ _).cons _).cons _).cons _), RE_no ?_⟩
          first
            | (have hnt : typeOf m[x.i] = none := by rw [htO]; simp_all
               have := all_not (p := fun s => (typeOf s).isSome) (show x.i < m.length by omega) (by simp [hnt])
               simp [isEnv, this]; done)
            | (have hnn : isName l[x.i] = false := by simp_all
               have := all_not (p := isName) (show x.i < l.length by omega) hnn
               simp [isEnv, this]; done)
        · intro g8_3
          refine o_move rfl (.met rfl rfl) rfl ?_
          refine o_move rfl (.met rfl rfl) rfl ?_
          refine o_indexAddr' rfl rfl _ rfl (by first | omega | (simp; done) | (simp; omega) | (simp at *; omega)) (by first | rfl | assumption) (.met rfl rfl) rfl ?_
          refine o_load rfl (by first | exact loads_still1 (by assumption) rfl | exact loads_ownS (by first | exact .head _ | exact .tail _ (.head _) | exact .tail _ (.tail _ (.head _)) | exact .tail _ (.tail _ (.tail _ (.head _))) | exact .tail _ (.tail _ (.tail _ (.tail _ (.head _)))) | exact .tail _ (.tail _ (.tail _ (.tail _ (.tail _ (.head _))))) | exact .tail _ (.tail _ (.tail _ (.tail _ (.tail _ (.tail _ (.head _))))))) (by rfl) | exact loads_own1 (by first | exact .head _ | exact .tail _ (.head _) | exact .tail _ (.tail _ (.head _)) | exact .tail _ (.tail _ (.tail _ (.head _))) | exact .tail _ (.tail _ (.tail _ (.tail _ (.head _)))) | exact .tail _ (.tail _ (.tail _ (.tail _ (.tail _ (.head _))))) | exact .tail _ (.tail _ (.tail _ (.tail _ (.tail _ (.tail _ (.head _))))))) (by rfl) rfl | exact loads_stillS (by assumption) (by rfl) | exact loads_stillF (by assumption) (by rfl) rfl) (.met rfl rfl) rfl ?_
          refine o_call rfl (.met rfl rfl) rfl (f_isName l[x.i] hez _ _) ?_
          rintro _ _ _ _ ⟨rfl, rfl, rfl⟩
          refine o_not rfl (.met rfl rfl) rfl ?_
          refine o_pick_false rfl rfl .free rfl ?_
          refine o_done ?_
          first | refine s_if rfl ?_ ?_ | refine s_ifn rfl ?_ ?_ | refine s_cond rfl ?_ ?_
          · intro c2
            refine s_seq ?_
            refine o_enter rfl ?_
            refine o_struct rfl rfl rfl .free rfl ?_
            refine o_store rfl rfl rfl rfl (by first | rfl | (simp only [List.toList_toArray, List.all_cons, List.all_nil, plainCell_buf, Bool.and_true, Bool.true_and] <;> rfl)) (by first | exact .here | exact .there .here | exact .there (.there .here) | exact .there (.there (.there .here)) | exact .there (.there (.there (.there .here))) | exact .there (.there (.there (.there (.there .here)))) | exact .there (.there (.there (.there (.there (.there .here)))))) (by rfl) .free ?_
            refine o_assign rfl .free rfl ?_
            refine o_done ?_
            refine s_ret (.cell rfl (by first | exact loads_still1 (by assumption) rfl | exact loads_ownS (by first | exact .head _ | exact .tail _ (.head _) | exact .tail _ (.tail _ (.head _)) | exact .tail _ (.tail _ (.tail _ (.head _))) | exact .tail _ (.tail _ (.tail _ (.tail _ (.head _)))) | exact .tail _ (.tail _ (.tail _ (.tail _ (.tail _ (.head _))))) | exact .tail _ (.tail _ (.tail _ (.tail _ (.tail _ (.tail _ (.head _))))))) (by rfl) | exact loads_own1 (by first | exact .head _ | exact .tail _ (.head _) | exact .tail _ (.tail _ (.head _)) | exact .tail _ (.tail _ (.tail _ (.head _))) | exact .tail _ (.tail _ (.tail _ (.tail _ (.head _)))) | exact .tail _ (.tail _ (.tail _ (.tail _ (.tail _ (.head _))))) | exact .tail _ (.tail _ (.tail _ (.tail _ (.tail _ (.tail _ (.head _))))))) (by rfl) rfl | exact loads_stillS (by assumption) (by rfl) | exact loads_stillF (by assumption) (by rfl) rfl) (.tmp rfl .nil)) ?_
            refine ⟨J, L, hle.trans hleJ, fun w h => h.sub ((((List.sublist_append_right _ _).cons _).cons _).cons _), RE_no ?_⟩
            first
              | (have hnt : typeOf m[x.i] = none := by rw [htO]; simp_all
                 have := all_not (p := fun s => (typeOf s).isSome) (show x.i < m.length by omega) (by simp [hnt])
                 simp [isEnv, this]; done)
              | (have hnn : isName l[x.i] = false := by simp_all
                 have := all_not (p := isName) (show x.i < l.length by omega) hnn
                 simp [isEnv, this]; done)
          · intro c2
            refine s_skip ?_
            refine o_enter rfl ?_
            first | refine o_fieldAddr rfl .free rfl ?_ | refine o_fieldAddr' rfl .free rfl ?_
            refine o_load rfl (by first | exact loads_still1 (by assumption) rfl | exact loads_ownS (by first | exact .head _ | exact .tail _ (.head _) | exact .tail _ (.tail _ (.head _)) | exact .tail _ (.tail _ (.tail _ (.head _))) | exact .tail _ (.tail _ (.tail _ (.tail _ (.head _)))) | exact .tail _ (.tail _ (.tail _ (.tail _ (.tail _ (.head _))))) | exact .tail _ (.tail _ (.tail _ (.tail _ (.tail _ (.tail _ (.head _))))))) (by rfl) | exact loads_own1 (by first | exact .head _ | exact .tail _ (.head _) | exact .tail _ (.tail _ (.head _)) | exact .tail _ (.tail _ (.tail _ (.head _))) | exact .tail _ (.tail _ (.tail _ (.tail _ (.head _)))) | exact .tail _ (.tail _ (.tail _ (.tail _ (.tail _ (.head _))))) | exact .tail _ (.tail _ (.tail _ (.tail _ (.tail _ (.tail _ (.head _))))))) (by rfl) rfl | exact loads_stillS (by assumption) (by rfl) | exact loads_stillF (by assumption) (by rfl) rfl) .free rfl ?_
            refine o_load rfl (by first | exact loads_still1 (by assumption) rfl | exact loads_ownS (by first | exact .head _ | exact .tail _ (.head _) | exact .tail _ (.tail _ (.head _)) | exact .tail _ (.tail _ (.tail _ (.head _))) | exact .tail _ (.tail _ (.tail _ (.tail _ (.head _)))) | exact .tail _ (.tail _ (.tail _ (.tail _ (.tail _ (.head _))))) | exact .tail _ (.tail _ (.tail _ (.tail _ (.tail _ (.tail _ (.head _))))))) (by rfl) | exact loads_own1 (by first | exact .head _ | exact .tail _ (.head _) | exact .tail _ (.tail _ (.head _)) | exact .tail _ (.tail _ (.tail _ (.head _))) | exact .tail _ (.tail _ (.tail _ (.tail _ (.head _)))) | exact .tail _ (.tail _ (.tail _ (.tail _ (.tail _ (.head _))))) | exact .tail _ (.tail _ (.tail _ (.tail _ (.tail _ (.tail _ (.head _))))))) (by rfl) rfl | exact loads_stillS (by assumption) (by rfl) | exact loads_stillF (by assumption) (by rfl) rfl) .free rfl ?_
            refine o_lits rfl rfl (by rfl) (by rfl) (by rfl) (by decide) (by decide) (by rfl) .free rfl ?_
            intro b50
            refine o_append (B := x.B) (xs := x.xs) (ys := [.string (str t.atom), .slice oq t.parts.length cq]) (m := x.i) (c := x.c) (by intro kk; simp) (by rfl) rfl rfl hB (fun _ h => h.u4) (by rfl) (fun a ha => by cases ha; exact reads_ownL (.head _) (by rfl)) (by simp) (by rfl) (by decide) (by decide) (by omega) (by decide) .free rfl ?_
            intro bb sp c2 hB'
            first | refine o_fieldAddr rfl .free rfl ?_ | refine o_fieldAddr' rfl .free rfl ?_
            refine o_store rfl rfl rfl rfl (by first | rfl | (simp only [List.toList_toArray, List.all_cons, List.all_nil, plainCell_buf, Bool.and_true, Bool.true_and] <;> rfl)) (by first | exact .here | exact .there .here | exact .there (.there .here) | exact .there (.there (.there .here)) | exact .there (.there (.there (.there .here))) | exact .there (.there (.there (.there (.there .here)))) | exact .there (.there (.there (.there (.there (.there .here)))))) (by rfl) .free ?_
            refine o_done ?_
            refine s_inBlock ?_
            refine o_enter rfl ?_
            refine o_arith rfl rfl rfl (by omega) .free rfl ?_
            refine o_move rfl .free rfl ?_
            refine o_done ?_
            refine s_mem (fun w h => Mem.sub (L' := (b6, _) :: (b4, _) :: (bb, _) :: L) (by repeat (first | exact List.Sublist.refl _ | apply List.Sublist.cons_cons | apply List.Sublist.cons)) h.f4.f4) (s_env (E' := [(0, .slice oa l.length c), (4, .pointer (some ⟨b4, 0, none⟩)), (6, .pointer (some ⟨b6, 0, none⟩)), (24, .slice ob m.length c'), (25, .int .i64 (m.length : Nat)), (26, .int .i64 ((x.i + 1 : Nat)))]) ⟨rfl, rfl, rfl, rfl, rfl, rfl, trivial⟩ (ih ⟨J, x.i + 1, x.ts ++ [t], some (bb, sp), c2, _⟩ ⟨hle.trans hleJ, (hrl.mono hleJ).append (.cons hrep .nil), hB', by simp [hxl], by simp only; omega, ?_, all_take hall (by omega) (by simp_all)⟩ (by simp only; omega)))
            simp only [List.map_append, List.map_cons, List.map_nil]
            rw [List.take_succ_eq_append_getElem (by omega), List.map_append, hts, List.map_cons, List.map_nil, htO]
            simp_all
      · intro c1
        obtain ⟨J, i, ts, B, cc, xs⟩ := x
        simp only at hle hrl hB hxl hxi hts hall c1
        obtain rfl : i = m.length := by omega
        rw [List.take_length] at hts
        rw [List.take_of_length_le (by omega)] at hall
        refine s_exit rfl ?_
        refine s_seq ?_
        refine s_mem (fun w h => h.u2) (s_freezeBuf (a := []) hrl hB hxl (by simp [maxN]) (by unfold maxN; omega) ?_)
        intro J2 hle2 hrep2
        refine o_enter rfl ?_
        refine o_load rfl (by first | exact loads_still1 (by assumption) rfl | exact loads_ownS (by first | exact .head _ | exact .tail _ (.head _) | exact .tail _ (.tail _ (.head _)) | exact .tail _ (.tail _ (.tail _ (.head _))) | exact .tail _ (.tail _ (.tail _ (.tail _ (.head _)))) | exact .tail _ (.tail _ (.tail _ (.tail _ (.tail _ (.head _))))) | exact .tail _ (.tail _ (.tail _ (.tail _ (.tail _ (.tail _ (.head _))))))) (by rfl) | exact loads_own1 (by first | exact .head _ | exact .tail _ (.head _) | exact .tail _ (.tail _ (.head _)) | exact .tail _ (.tail _ (.tail _ (.head _))) | exact .tail _ (.tail _ (.tail _ (.tail _ (.head _)))) | exact .tail _ (.tail _ (.tail _ (.tail _ (.tail _ (.head _))))) | exact .tail _ (.tail _ (.tail _ (.tail _ (.tail _ (.tail _ (.head _))))))) (by rfl) rfl | exact loads_stillS (by assumption) (by rfl) | exact loads_stillF (by assumption) (by rfl) rfl) .free rfl ?_
        refine o_store rfl rfl rfl rfl (by first | rfl | (simp only [List.toList_toArray, List.all_cons, List.all_nil, plainCell_buf, Bool.and_true, Bool.true_and] <;> rfl)) (by first | exact .here | exact .there .here | exact .there (.there .here) | exact .there (.there (.there .here)) | exact .there (.there (.there (.there .here))) | exact .there (.there (.there (.there (.there .here)))) | exact .there (.there (.there (.there (.there (.there .here)))))) (by rfl) .free ?_
        refine o_assign rfl .free rfl ?_
        refine o_done ?_
        refine s_ret (.cell rfl (by first | exact loads_still1 (by assumption) rfl | exact loads_ownS (by first | exact .head _ | exact .tail _ (.head _) | exact .tail _ (.tail _ (.head _)) | exact .tail _ (.tail _ (.tail _ (.head _))) | exact .tail _ (.tail _ (.tail _ (.tail _ (.head _)))) | exact .tail _ (.tail _ (.tail _ (.tail _ (.tail _ (.head _))))) | exact .tail _ (.tail _ (.tail _ (.tail _ (.tail _ (.tail _ (.head _))))))) (by rfl) | exact loads_own1 (by first | exact .head _ | exact .tail _ (.head _) | exact .tail _ (.tail _ (.head _)) | exact .tail _ (.tail _ (.tail _ (.head _))) | exact .tail _ (.tail _ (.tail _ (.tail _ (.head _)))) | exact .tail _ (.tail _ (.tail _ (.tail _ (.tail _ (.head _))))) | exact .tail _ (.tail _ (.tail _ (.tail _ (.tail _ (.tail _ (.head _))))))) (by rfl) rfl | exact loads_stillS (by assumption) (by rfl) | exact loads_stillF (by assumption) (by rfl) rfl) (.tmp rfl .nil)) ?_
        have he : isEnv l m = true := by
          have h1 : ∀ s ∈ m, (typeOf s).isSome = true := by
            intro s hs
            have h2 : typeOf s ∈ m.map typeOf := List.mem_map.2 ⟨s, hs, rfl⟩
            rw [hts] at h2
            obtain ⟨t, _, ht⟩ := List.mem_map.1 h2
            rw [← ht]; rfl
          simp only [isEnv, hall, List.all_eq_true.2 h1]
          simp; omega
        obtain ⟨o3, c3, _, h3, -⟩ := hrep2.open
        simp only [List.cons.injEq, and_true, Tree.parts, Tree.atom] at h3
        rw [h3.2] at hrep2
        exact ⟨J2, L, hle.trans hle2, fun _ h => h.drop.drop, oa, _, _, o3, ts, c3, by rw [he, h3.2]; rfl, rfl, hrep2, fun _ => ⟨rfl, rfl, rfl, hts⟩⟩

/-- What 'env.look' returns. -/
def LK (o : Option Nat) (ts : List Tree) (I : Heap) (L : Own) : Post := fun v I' L' => ∃ t cs ok, v = .tuple #[.agg cs.toArray, .bool ok] ∧ I = I' ∧ L = L' ∧ Rep I t cs ∧ ok = o.isSome ∧ ∀ i, o = some i → ts[i]? = some t
theorem f_env_look {I : Heap} {oa ob : Option Addr} {l : List Txt} {ts : List Tree} {c c' : Nat} (h : Strs I oa l c) (h' : Rep I (.node [] ts) [.string (str []), .slice ob ts.length c']) (hlt : l.length = ts.length) (s : Txt) (L : Own) :
    Fun Try.prog 14 [.agg [.slice oa l.length c, .slice ob ts.length c'].toArray, .string (str s)] I L (LK (lastIdx l s) ts I L) := by
  have hlen := h.len
  unfold maxN at hlen
  refine fun_intro (by simp) ?_
  refine s_seq ?_
  refine o_enter rfl ?_
  refine o_box rfl rfl .free rfl ?_
  intro b2
  refine o_alloc .free rfl ?_
  intro b4
  refine o_assign rfl .free rfl ?_
  refine o_done ?_
  refine s_seq ?_
  refine o_enter rfl ?_
  first | refine o_fieldAddr rfl .free rfl ?_ | refine o_fieldAddr' rfl .free rfl ?_
  refine o_load rfl (by first | exact loads_still1 (by assumption) rfl | exact loads_ownS (by first | exact .head _ | exact .tail _ (.head _) | exact .tail _ (.tail _ (.head _)) | exact .tail _ (.tail _ (.tail _ (.head _))) | exact .tail _ (.tail _ (.tail _ (.tail _ (.head _)))) | exact .tail _ (.tail _ (.tail _ (.tail _ (.tail _ (.head _))))) | exact .tail _ (.tail _ (.tail _ (.tail _ (.tail _ (.tail _ (.head _))))))) (by rfl) | exact loads_own1 (by first | exact .head _ | exact .tail _ (.head _) | exact .tail _ (.tail _ (.head _)) | exact .tail _ (.tail _ (.tail _ (.head _))) | exact .tail _ (.tail _ (.tail _ (.tail _ (.head _)))) | exact .tail _ (.tail _ (.tail _ (.tail _ (.tail _ (.head _))))) | exact .tail _ (.tail _ (.tail _ (.tail _ (.tail _ (.tail _ (.head _))))))) (by rfl) rfl | exact loads_stillS (by assumption) (by rfl) | exact loads_stillF (by assumption) (by rfl) rfl) .free rfl ?_
  refine o_move rfl .free rfl ?_
  refine o_call rfl .free rfl (f_lastIndex h s _) ?_
  rintro _ _ _ _ ⟨rfl, rfl, rfl⟩
  refine o_assign rfl .free rfl ?_
  refine o_done ?_
  refine s_seq ?_
  refine s_seq ?_
  refine o_enter rfl ?_
  refine o_move rfl .free rfl ?_
  refine o_cmp rfl rfl rfl .free rfl ?_
  refine o_done ?_
  first | refine s_if rfl ?_ ?_ | refine s_ifn rfl ?_ ?_ | refine s_cond rfl ?_ ?_
  · intro c0
    have hn : lastIdx l s = none := by
      cases hp : lastIdx l s with
      | none => rfl
      | some i => rw [hp] at c0; simp [idxVal] at c0; omega
    refine s_seq ?_
    refine o_enter rfl ?_
    refine o_struct rfl rfl rfl .free rfl ?_
    refine o_store rfl rfl rfl rfl (by first | rfl | (simp only [List.toList_toArray, List.all_cons, List.all_nil, plainCell_buf, Bool.and_true, Bool.true_and] <;> rfl)) (by first | exact .here | exact .there .here | exact .there (.there .here) | exact .there (.there (.there .here)) | exact .there (.there (.there (.there .here))) | exact .there (.there (.there (.there (.there .here)))) | exact .there (.there (.there (.there (.there (.there .here)))))) (by rfl) .free ?_
    refine o_assign rfl .free rfl ?_
    refine o_done ?_
    refine s_ret (.cell rfl (by first | exact loads_still1 (by assumption) rfl | exact loads_ownS (by first | exact .head _ | exact .tail _ (.head _) | exact .tail _ (.tail _ (.head _)) | exact .tail _ (.tail _ (.tail _ (.head _))) | exact .tail _ (.tail _ (.tail _ (.tail _ (.head _)))) | exact .tail _ (.tail _ (.tail _ (.tail _ (.tail _ (.head _))))) | exact .tail _ (.tail _ (.tail _ (.tail _ (.tail _ (.tail _ (.head _))))))) (by rfl) | exact loads_own1 (by first | exact .head _ | exact .tail _ (.head _) | exact .tail _ (.tail _ (.head _)) | exact .tail _ (.tail _ (.tail _ (.head _))) | exact .tail _ (.tail _ (.tail _ (.tail _ (.head _)))) | exact .tail _ (.tail _ (.tail _ (.tail _ (.tail _ (.head _))))) | exact .tail _ (.tail _ (.tail _ (.tail _ (.tail _ (.tail _ (.head _))))))) (by rfl) rfl | exact loads_stillS (by assumption) (by rfl) | exact loads_stillF (by assumption) (by rfl) rfl) (.tmp rfl .nil)) ?_
    exact ⟨I, L, .refl _, fun _ h => h.drop.drop, _, _, false, rfl, rfl, rfl, Rep.empty I, by rw [hn]; rfl, by rw [hn]; intro i h; cases h⟩
  · intro c0
    obtain ⟨i, hp⟩ : ∃ i, lastIdx l s = some i := by
      cases hp : lastIdx l s with
      | none => rw [hp] at c0; simp [idxVal] at c0
      | some i => exact ⟨i, rfl⟩
    have hil : i < ts.length := by rw [← hlt]; exact (lastAt_lt hp).1
    obtain ⟨o3, c3, vs, h3, hrl, hs, hn, -⟩ := h'.open
    simp only [List.cons.injEq, and_true, Tree.parts, Tree.atom] at h3
    obtain ⟨-, h3⟩ := h3
    simp only [Value.slice.injEq, true_and] at h3
    obtain ⟨rfl, rfl⟩ := h3
    obtain ⟨x, hx, oq, cq, hr, hst⟩ := Rep.at hrl hs hn i hil
    rw [hp]
    simp only [idxVal, Tree.parts] at hr hst ⊢
    refine s_skip ?_
    refine s_seq ?_
    refine o_enter rfl ?_
    first | refine o_fieldAddr rfl .free rfl ?_ | refine o_fieldAddr' rfl .free rfl ?_
    refine o_load rfl (by first | exact loads_still1 (by assumption) rfl | exact loads_ownS (by first | exact .head _ | exact .tail _ (.head _) | exact .tail _ (.tail _ (.head _)) | exact .tail _ (.tail _ (.tail _ (.head _))) | exact .tail _ (.tail _ (.tail _ (.tail _ (.head _)))) | exact .tail _ (.tail _ (.tail _ (.tail _ (.tail _ (.head _))))) | exact .tail _ (.tail _ (.tail _ (.tail _ (.tail _ (.tail _ (.head _))))))) (by rfl) | exact loads_own1 (by first | exact .head _ | exact .tail _ (.head _) | exact .tail _ (.tail _ (.head _)) | exact .tail _ (.tail _ (.tail _ (.head _))) | exact .tail _ (.tail _ (.tail _ (.tail _ (.head _)))) | exact .tail _ (.tail _ (.tail _ (.tail _ (.tail _ (.head _))))) | exact .tail _ (.tail _ (.tail _ (.tail _ (.tail _ (.tail _ (.head _))))))) (by rfl) rfl | exact loads_stillS (by assumption) (by rfl) | exact loads_stillF (by assumption) (by rfl) rfl) .free rfl ?_
    refine o_move rfl .free rfl ?_
    refine o_indexAddr' rfl rfl _ rfl (by first | omega | (simp; done) | (simp; omega) | (simp at *; omega)) (by first | rfl | assumption) .free rfl ?_
    refine o_load rfl (by first | exact loads_still1 (by assumption) rfl | exact loads_ownS (by first | exact .head _ | exact .tail _ (.head _) | exact .tail _ (.tail _ (.head _)) | exact .tail _ (.tail _ (.tail _ (.head _))) | exact .tail _ (.tail _ (.tail _ (.tail _ (.head _)))) | exact .tail _ (.tail _ (.tail _ (.tail _ (.tail _ (.head _))))) | exact .tail _ (.tail _ (.tail _ (.tail _ (.tail _ (.tail _ (.head _))))))) (by rfl) | exact loads_own1 (by first | exact .head _ | exact .tail _ (.head _) | exact .tail _ (.tail _ (.head _)) | exact .tail _ (.tail _ (.tail _ (.head _))) | exact .tail _ (.tail _ (.tail _ (.tail _ (.head _)))) | exact .tail _ (.tail _ (.tail _ (.tail _ (.tail _ (.head _))))) | exact .tail _ (.tail _ (.tail _ (.tail _ (.tail _ (.tail _ (.head _))))))) (by rfl) rfl | exact loads_stillS (by assumption) (by rfl) | exact loads_stillF (by assumption) (by rfl) rfl) .free rfl ?_
    refine o_store rfl rfl rfl rfl (by first | rfl | (simp only [List.toList_toArray, List.all_cons, List.all_nil, plainCell_buf, Bool.and_true, Bool.true_and] <;> rfl)) (by first | exact .here | exact .there .here | exact .there (.there .here) | exact .there (.there (.there .here)) | exact .there (.there (.there (.there .here))) | exact .there (.there (.there (.there (.there .here)))) | exact .there (.there (.there (.there (.there (.there .here)))))) (by rfl) .free ?_
    refine o_assign rfl .free rfl ?_
    refine o_done ?_
    refine s_ret (.cell rfl (by first | exact loads_still1 (by assumption) rfl | exact loads_ownS (by first | exact .head _ | exact .tail _ (.head _) | exact .tail _ (.tail _ (.head _)) | exact .tail _ (.tail _ (.tail _ (.head _))) | exact .tail _ (.tail _ (.tail _ (.tail _ (.head _)))) | exact .tail _ (.tail _ (.tail _ (.tail _ (.tail _ (.head _))))) | exact .tail _ (.tail _ (.tail _ (.tail _ (.tail _ (.tail _ (.head _))))))) (by rfl) | exact loads_own1 (by first | exact .head _ | exact .tail _ (.head _) | exact .tail _ (.tail _ (.head _)) | exact .tail _ (.tail _ (.tail _ (.head _))) | exact .tail _ (.tail _ (.tail _ (.tail _ (.head _)))) | exact .tail _ (.tail _ (.tail _ (.tail _ (.tail _ (.head _))))) | exact .tail _ (.tail _ (.tail _ (.tail _ (.tail _ (.tail _ (.head _))))))) (by rfl) rfl | exact loads_stillS (by assumption) (by rfl) | exact loads_stillF (by assumption) (by rfl) rfl) (.tmp rfl .nil)) ?_
    exact ⟨I, L, .refl _, fun _ h => h.drop.drop, _, _, true, rfl, rfl, rfl, hr, rfl, by rintro _ ⟨⟩; exact List.getElem?_eq_getElem hil⟩

/-- The type of a name in an environment. -/
def envLook (l m : List Txt) (s : Txt) : Option Txt := bif isEnv l m then (lastIdx l s).map fun i => m.getD i [] else none
def EL (o : Option Txt) (L : Own) : Post := fun v I' L' => v = .tuple #[.string (str (o.getD [])), .bool o.isSome] ∧ L = L'
theorem f_EnvLook {I : Heap} {oa ob : Option Addr} {l m : List Txt} {c c' : Nat} (h : Strs I oa l c) (h' : Strs I ob m c') (s : Txt) (L : Own) :
    Fun Try.prog 7 [.slice oa l.length c, .slice ob m.length c', .string (str s)] I L (EL (envLook l m s) L) := by
  refine fun_intro (by simp) ?_
  refine s_seq ?_
  refine o_enter rfl ?_
  refine o_assign rfl .free rfl ?_
  refine o_assign rfl .free rfl ?_
  refine o_done ?_
  refine s_seq ?_
  refine o_enter rfl ?_
  refine o_move rfl .free rfl ?_
  refine o_move rfl .free rfl ?_
  refine o_call rfl .free rfl (f_readEnv h h' _) ?_
  rintro _ J _ hleJ ⟨oa', n, c2, ob', ts, c3, rfl, rfl, hrep, hE⟩
  refine o_move rfl .free rfl ?_
  refine o_extract rfl rfl .free rfl ?_
  refine o_extract rfl rfl .free rfl ?_
  refine o_alloc .free rfl ?_
  intro b8
  refine o_store rfl rfl rfl rfl (by first | rfl | (simp only [List.toList_toArray, List.all_cons, List.all_nil, plainCell_buf, Bool.and_true, Bool.true_and] <;> rfl)) (by first | exact .here | exact .there .here | exact .there (.there .here) | exact .there (.there (.there .here)) | exact .there (.there (.there (.there .here))) | exact .there (.there (.there (.there (.there .here)))) | exact .there (.there (.there (.there (.there (.there .here)))))) (by rfl) .free ?_
  refine o_assign rfl .free rfl ?_
  refine o_done ?_
  refine s_seq ?_
  refine s_seq ?_
  refine o_enter rfl ?_
  refine o_move rfl .free rfl ?_
  refine o_not rfl .free rfl ?_
  refine o_done ?_
  first | refine s_if rfl ?_ ?_ | refine s_ifn rfl ?_ ?_ | refine s_cond rfl ?_ ?_
  · intro c0
    have he : isEnv l m = false := by simpa using c0
    refine s_seq ?_
    refine o_enter rfl ?_
    refine o_assign rfl .free rfl ?_
    refine o_assign rfl .free rfl ?_
    refine o_done ?_
    refine s_ret (.tmp rfl (.tmp rfl .nil)) ?_
    exact ⟨J, L, hleJ, fun _ h => h.drop, by rw [envLook, he]; rfl, rfl⟩
  · intro c0
    have he : isEnv l m = true := by simpa using c0
    obtain ⟨rfl, rfl, rfl, hts⟩ := hE he
    have hlt : l.length = ts.length := by
      have := congrArg List.length hts
      simp at this
      rw [← this]; exact (isEnv_len he).2.1
    refine s_skip ?_
    refine s_seq ?_
    refine o_enter rfl ?_
    refine o_load rfl (by first | exact loads_still1 (by assumption) rfl | exact loads_ownS (by first | exact .head _ | exact .tail _ (.head _) | exact .tail _ (.tail _ (.head _)) | exact .tail _ (.tail _ (.tail _ (.head _))) | exact .tail _ (.tail _ (.tail _ (.tail _ (.head _)))) | exact .tail _ (.tail _ (.tail _ (.tail _ (.tail _ (.head _))))) | exact .tail _ (.tail _ (.tail _ (.tail _ (.tail _ (.tail _ (.head _))))))) (by rfl) | exact loads_own1 (by first | exact .head _ | exact .tail _ (.head _) | exact .tail _ (.tail _ (.head _)) | exact .tail _ (.tail _ (.tail _ (.head _))) | exact .tail _ (.tail _ (.tail _ (.tail _ (.head _)))) | exact .tail _ (.tail _ (.tail _ (.tail _ (.tail _ (.head _))))) | exact .tail _ (.tail _ (.tail _ (.tail _ (.tail _ (.tail _ (.head _))))))) (by rfl) rfl | exact loads_stillS (by assumption) (by rfl) | exact loads_stillF (by assumption) (by rfl) rfl) .free rfl ?_
    refine o_move rfl .free rfl ?_
    refine o_call rfl .free rfl (f_env_look (h.mono hleJ) hrep hlt s _) ?_
    rintro _ _ _ _ ⟨t, cs, ok, rfl, rfl, rfl, hrt, hok, hcs⟩
    obtain ⟨oq, cq, vs, rfl, -⟩ := hrt.open
    refine o_move rfl .free rfl ?_
    refine o_extract rfl rfl .free rfl ?_
    refine o_extract rfl rfl .free rfl ?_
    refine o_alloc .free rfl ?_
    intro b10
    refine o_store rfl rfl rfl rfl (by first | rfl | (simp only [List.toList_toArray, List.all_cons, List.all_nil, plainCell_buf, Bool.and_true, Bool.true_and] <;> rfl)) (by first | exact .here | exact .there .here | exact .there (.there .here) | exact .there (.there (.there .here)) | exact .there (.there (.there (.there .here))) | exact .there (.there (.there (.there (.there .here)))) | exact .there (.there (.there (.there (.there (.there .here)))))) (by rfl) .free ?_
    refine o_assign rfl .free rfl ?_
    refine o_done ?_
    refine s_seq ?_
    refine s_seq ?_
    refine o_enter rfl ?_
    refine o_move rfl .free rfl ?_
    refine o_not rfl .free rfl ?_
    refine o_done ?_
    first | refine s_if rfl ?_ ?_ | refine s_ifn rfl ?_ ?_ | refine s_cond rfl ?_ ?_
    · intro c1
      have hn : lastIdx l s = none := by
        cases hp : lastIdx l s with
        | none => rfl
        | some i => rw [hp] at hok; rw [hok] at c1; cases c1
      refine s_seq ?_
      refine o_enter rfl ?_
      refine o_assign rfl .free rfl ?_
      refine o_assign rfl .free rfl ?_
      refine o_done ?_
      refine s_ret (.tmp rfl (.tmp rfl .nil)) ?_
      exact ⟨J, L, hleJ, fun _ h => h.drop.drop, by rw [envLook, he, hn]; rfl, rfl⟩
    · intro c1
      obtain ⟨i, hp⟩ : ∃ i, lastIdx l s = some i := by
        cases hp : lastIdx l s with
        | none => rw [hp] at hok; rw [hok] at c1; cases c1
        | some i => exact ⟨i, rfl⟩
      have hti := hcs i hp
      have him : i < m.length := by have := (lastAt_lt hp).1; have := (isEnv_len he).2.1; omega
      have hty : typeOf m[i] = some t := by
        have := congrArg (·[i]?) hts
        simpa [him, hti] using this
      have htx := typeOf_text hty
      have hem := h'.each _ (List.getElem_mem him)
      refine s_skip ?_
      refine s_seq ?_
      refine o_enter rfl ?_
      refine o_load rfl (by first | exact loads_still1 (by assumption) rfl | exact loads_ownS (by first | exact .head _ | exact .tail _ (.head _) | exact .tail _ (.tail _ (.head _)) | exact .tail _ (.tail _ (.tail _ (.head _))) | exact .tail _ (.tail _ (.tail _ (.tail _ (.head _)))) | exact .tail _ (.tail _ (.tail _ (.tail _ (.tail _ (.head _))))) | exact .tail _ (.tail _ (.tail _ (.tail _ (.tail _ (.tail _ (.head _))))))) (by rfl) | exact loads_own1 (by first | exact .head _ | exact .tail _ (.head _) | exact .tail _ (.tail _ (.head _)) | exact .tail _ (.tail _ (.tail _ (.head _))) | exact .tail _ (.tail _ (.tail _ (.tail _ (.head _)))) | exact .tail _ (.tail _ (.tail _ (.tail _ (.tail _ (.head _))))) | exact .tail _ (.tail _ (.tail _ (.tail _ (.tail _ (.tail _ (.head _))))))) (by rfl) rfl | exact loads_stillS (by assumption) (by rfl) | exact loads_stillF (by assumption) (by rfl) rfl) .free rfl ?_
      refine o_call rfl .free rfl (f_form_text hrt (by rw [htx]; exact hem) _) ?_
      rintro _ _ _ _ ⟨rfl, rfl, rfl⟩
      refine o_assign rfl .free rfl ?_
      refine o_assign rfl .free rfl ?_
      refine o_done ?_
      refine s_ret (.tmp rfl (.tmp rfl .nil)) ?_
      refine ⟨J, L, hleJ, fun _ h => h.drop.drop, ?_, rfl⟩
      rw [htx]
      simp [retOne, envLook, he, hp, him]

theorem typeOf_nil : typeOf [] = none := by rfl
end Go.Proofs.Ythfkmfacmijbpaa

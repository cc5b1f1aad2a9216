/- What makes expressions normal, by the program: its maker, fresh names. No conditions. -/
import Derived.Test.YtdgpnibnogdllaaGreatDoorG12
import Derived.LaidSub
import Derived.Lib.LaidTab
namespace Go.Proofs.YtdgpnibnogdllaaGreatDoor
set_option maxRecDepth 100000
set_option linter.unusedVariables false
set_option linter.unusedSimpArgs false

theorem intT_nat (n : Nat) : intT (n : Nat) = decT n := by unfold intT; rw [if_neg (by omega)]; rfl
/-- The program's maker. -/
def nz (b bq g n : Nat) : Nat × Obj := (b, .cells [.map (some bq), .int .i64 (g : Nat), .int .i64 (n : Nat)].toArray 51 (0, 0))
/-- The bindings that it has noted. -/
structure NZ where
 ns : Bds
 B : Buf
 c : Nat
 xs : List Value
structure NZ.ok (I : Heap) (x : NZ) : Prop where
 buf : BufOk 3 x.ns.length x.c x.xs x.B
 rep : BindL I x.ns x.xs
theorem NZ.ok.mono {I I' : Heap} {x : NZ} (hle : HLe I I') (h : x.ok I) : x.ok I' := ⟨h.buf, h.rep.mono hle⟩
def NZ.own (b bq : Nat) (tk : List Txt) (g n bn : Nat) (x : NZ) (L : Own) : Own :=
 nz b bq g n :: (bq, metObj tk) :: (bn, .cells [bufVal x.ns.length x.c x.B].toArray 82 (0, 0)) :: (bufOwn 107 x.xs x.B ++ L)
def NP (b bq : Nat) (tk : List Txt) (g bn : Nat) (x : NZ) (p : MK) (L : Own) : Post := fun v I' L' => ∃ cs y, v = .agg (List.toArray cs) ∧ Rep I' p.e.tree cs ∧ NZ.ok I' y ∧ y.ns = x.ns ++ p.ns ∧ L' = y.own b bq tk (g + p.g) p.n bn L
theorem f_normalizing_name {I : Heap} (ht : Tab I) (tk : List Txt) (b bq g n : Nat) (hn : n + tk.length ≤ 1000 + hits 121 tk n) (h3 : n ≤ 1000) (hg : g ≤ 1000) (L : Own) :
  Fun Tryz.prog 87 [.pointer (some ⟨b, 0, none⟩)] I (nz b bq g n :: (bq, metObj tk) :: L) (fun v I' L' => v = .string (str (nm 121 (fr 121 tk n))) ∧ I = I' ∧ L' = nz b bq (g + 1) (fr 121 tk n + 1) :: (bq, metObj tk) :: L) := by
 obtain ⟨f1, f2, f3⟩ := fr_facts 121 tk n
 have f4 := hits_le 121 tk (fr 121 tk n)
 refine fun_intro (by simp) ?_
 refine Se rfl ?_
 refine Oa rfl ?_
 refine o_done ?_
 refine s_block ?_
 refine s_while (X := Nat) (fun m => fr 121 tk n + 1 - m) (fun m => [(0, .pointer (some ⟨b, 0, none⟩))]) (fun _ => I) (fun m => nz b bq g m :: (bq, metObj tk) :: L) (fun m => n ≤ m ∧ m ≤ fr 121 tk n ∧ ∀ j, n ≤ j → j < m → nm 121 j ∈ tk) n ⟨Nat.le_refl _, f2, fun j h1 h2 => absurd h2 (by omega)⟩ ⟨rfl, trivial⟩ (fun _ h => h) ?_
 rintro m ⟨hm1, hm2, hm3⟩ ih
 unfold nz
 have hdl := decT_le (n := m) (by omega)
 refine s_block ?_
 refine Se rfl ?_
 refine Om rfl ?_
 refine o_nilCheck rfl .free rfl ?_
 first | refine o_fieldAddr rfl .free rfl ?_ | refine o_fieldAddr' rfl .free rfl ?_
 refine o_lJ rfl .free rfl ?_
 refine o_call rfl .free rfl (f_strconv_ItoaT ht (m : Nat) (by omega) (by omega) _) ?_
 rintro _ _ _ _ ⟨rfl, rfl, rfl⟩
 rw [intT_nat]
 refine o_concat rfl rfl (by first | omega | (simp only [List.length_append, List.length_cons, List.length_nil]; omega) | (simp; omega)) .free rfl ?_
 refine Oa rfl ?_
 refine o_done ?_
 refine Se rfl ?_
 refine Om rfl ?_
 refine o_nilCheck rfl .free rfl ?_
 first | refine o_fieldAddr rfl .free rfl ?_ | refine o_fieldAddr' rfl .free rfl ?_
 refine o_lJ rfl .free rfl ?_
 refine o_arith rfl rfl rfl (by omega) .free rfl ?_
 refine o_nilCheck rfl .free rfl ?_
 first | refine o_fieldAddr rfl .free rfl ?_ | refine o_fieldAddr' rfl .free rfl ?_
 refine o_st rfl rfl rfl rfl .free ?_
 refine o_done ?_
 refine Se rfl ?_
 refine Om rfl ?_
 refine o_nilCheck rfl .free rfl ?_
 first | refine o_fieldAddr rfl .free rfl ?_ | refine o_fieldAddr' rfl .free rfl ?_
 refine o_load rfl (loads_own1 (cs := [.map (some bq), .int .i64 (g : Nat), .int .i64 ((m : Int) + 1)]) m0 (by rfl) rfl) .free rfl ?_
 refine Om rfl ?_
 refine o_lookup (s := nm 121 m) (m := tk) rfl rfl ⟨_, rfl, rfl⟩ (fun w h => (h.2.1 _ m1).1) .free rfl ?_
 refine o_not rfl .free rfl ?_
 refine o_done ?_
 refine s_cond rfl ?_ ?_
 ·intro c0
  try simp only [nb] at c0
  refine Se rfl ?_
  refine Om rfl ?_
  refine o_nilCheck rfl .free rfl ?_
  first | refine o_fieldAddr rfl .free rfl ?_ | refine o_fieldAddr' rfl .free rfl ?_
  refine o_lJ rfl .free rfl ?_
  refine o_arith rfl rfl rfl (by omega) .free rfl ?_
  refine o_nilCheck rfl .free rfl ?_
  first | refine o_fieldAddr rfl .free rfl ?_ | refine o_fieldAddr' rfl .free rfl ?_
  refine o_st rfl rfl rfl rfl .free ?_
  refine o_done ?_
  refine Se rfl ?_
  refine Om rfl ?_
  refine Oa rfl ?_
  refine o_done ?_
  refine s_ret (.tmp rfl .nil) ?_
  have hfm : fr 121 tk n = m := fr_stop hm3 hm1 c0
  exact ⟨I, _, .refl _, fun _ h => h, by rw [hfm]; rfl, rfl, by rw [hfm]; rfl⟩
 intro c0
 try simp only [nb] at c0
 refine s_skip ?_
 refine s_inBlock ?_
 have hne : m ≠ fr 121 tk n := fun e => f1 (e ▸ c0)
 refine s_env (E' := [(0, .pointer (some ⟨b, 0, none⟩))]) ⟨rfl, trivial⟩ (ih (m + 1) ⟨by omega, by omega, fun j h1 h2 => ?_⟩ (by omega))
 by_cases hj : j = m
 ·subst hj; exact c0
 ·exact hm3 j h1 (by omega)
def NMakeH (N : Nat) : Prop := ∀ {I : Heap} (_ : Tab I) {e : Ex} {cs : List Value} (_ : SizeOf.sizeOf e < N) (_ : Rep I e.tree cs) (_ : e.ok = true) (tk : List Txt) (b bq bn g n : Nat) (_ : n + e.size + tk.length ≤ 900 + hits 121 tk n) (_ : g + e.size ≤ 1000) (x : NZ) (_ : x.ok I) (_ : x.ns.length + e.size ≤ 100000) (L : Own),
 Fun Tryz.prog 45 [.pointer (some ⟨b, 0, none⟩), .agg cs.toArray, .pointer (some ⟨bn, 0, none⟩)] I (x.own b bq tk g n bn L) (NP b bq tk g bn x (e.mk tk n) L)
theorem nbare_of {N : Nat} (ih : NMakeH N) {I : Heap} (ht : Tab I) {e : Ex} {cs : List Value} (hlt : SizeOf.sizeOf e < N) (h : Rep I e.tree cs) (hok : e.ok = true) (tk : List Txt) (b bq bn g n : Nat) (hn : n + e.size + tk.length ≤ 900 + hits 121 tk n) (hg : g + e.size ≤ 1000) (x : NZ) (hx : x.ok I) (hxl : x.ns.length + e.size ≤ 100000) (L : Own) :
  Fun Tryz.prog 74 [.pointer (some ⟨b, 0, none⟩), .agg cs.toArray, .pointer (some ⟨bn, 0, none⟩)] I (x.own b bq tk g n bn L) (NP b bq tk g bn x ((e.mk tk n).pt tk) L) := by
 obtain ⟨oa, c, oaf, cf, rfl, hf⟩ := h.at'
 have hmo := Ex.mk_ok (tk := tk) (n := n) hok hn
 have hmh := e.mk_hits tk n
 have hmg := e.mk_g tk n
 have hml := e.mk_len tk n
 have hh0 := hits_le 121 tk n
 have hh1 := hits_le 121 tk (e.mk tk n).n
 generalize hp : e.mk tk n = p at *
 unfold NZ.own
 refine fun_intro (by simp) ?_
 refine Se rfl ?_
 refine o_box rfl rfl .free rfl ?_
 intro b4
 refine o_alloc .free rfl ?_
 intro b6
 refine o_done ?_
 refine Se rfl ?_
 refine Om rfl ?_
 refine o_lOS rfl .free rfl ?_
 refine Om rfl ?_
 refine o_mem (fun w h => Mem.kv2 h) ?_
 refine o_call rfl .free rfl (ih ht hlt hf.rep hok tk b bq bn g n hn hg x hx hxl _) ?_
 rw [hp]; rintro _ J1 _ e1 ⟨cs1, y, rfl, hr, hy, hyn, rfl⟩
 obtain ⟨o1, k1, _, rfl, -⟩ := hr.open
 have hyl : y.ns.length = x.ns.length + p.ns.length := by rw [hyn]; simp
 obtain ⟨a1, k2, hu1⟩ := bufIs hy.buf
 unfold NZ.own
 refine o_mem (fun w h => Mem.vk2 h) ?_
 rw [hu1]
 refine o_alloc .free rfl ?_
 intro b7
 refine o_st rfl rfl rfl rfl .free ?_
 refine o_done ?_
 refine s_seq ?_
 refine Se rfl ?_
 refine o_lOS rfl .free rfl ?_
 refine o_call rfl .free rfl (f_form_isAtom hr _) ?_
 rintro _ _ _ _ ⟨rfl, rfl, rfl⟩
 refine o_done ?_
 refine s_cond rfl ?_ ?_
 ·intro c0
  try simp only [nb] at c0
  have hb : p.e.bare = true := by rw [Ex.bare_parts]; simpa using c0
  refine Se rfl ?_
  refine o_lOS rfl .free rfl ?_
  refine o_st rfl rfl rfl rfl .free ?_
  refine o_done ?_
  refine s_ret (.c rfl .nil) ?_
  refine ⟨J1, _, e1, fun w h => Mem.sub (L' := nz _ _ _ _ :: _ :: _ :: (bufOwn 107 y.xs y.B ++ L)) (by repeat (first | exact List.Sublist.refl _ | apply List.Sublist.cons_cons | apply List.Sublist.cons)) h, _, y, rfl, by unfold MK.pt; rw [if_pos hb]; exact hr, hy, by unfold MK.pt; rw [if_pos hb]; exact hyn, ?_⟩
  unfold MK.pt NZ.own; rw [if_pos hb, hu1]
 intro c0
 try simp only [nb] at c0
 have hb : p.e.bare = false := by rw [Ex.bare_parts]; simpa using c0
 have ht := ht.mono e1
 refine s_skip ?_
 refine Se rfl ?_
 refine Om rfl ?_
 refine o_mem (fun w h => Mem.nq3 h) ?_
 refine o_call rfl .free rfl (f_normalizing_name ht tk b bq (g + p.g) p.n (by omega) (by omega) (by omega) _) ?_
 rintro _ _ _ _ ⟨rfl, rfl, rfl⟩
 have hfr := fr_facts 121 tk p.n
 have hfr2 := hits_le 121 tk (fr 121 tk p.n)
 have hnl : (nm 121 (fr 121 tk p.n)).length ≤ maxN := Ex.name_len (nm_name (by decide) (by omega))
 generalize hn1e : nm 121 (fr 121 tk p.n) = n1 at hnl ⊢
 have hpt : p.pt tk = ⟨.name n1, p.ns ++ [(n1, p.e)], fr 121 tk p.n + 1, p.g + 1⟩ := by unfold MK.pt; rw [if_neg (by rw [hb]; simp), hn1e]
 rw [hpt]
 refine Oa rfl ?_
 refine o_done ?_
 refine s_seq ?_
 refine d_o6 11 rfl rfl ?_
 refine Da 0 rfl (y_move rfl) ?_
 refine Da 1 rfl (y_move rfl) ?_
 refine Da 2 rfl (y_nilCheck rfl) ?_
 refine Dt 3 [10] rfl (y_lJ rfl) ?_
 refine Da 4 rfl (y_move rfl) ?_
 refine Dt 5 [10] rfl (y_lOS rfl) ?_
 refine Da 6 rfl (y_struct rfl rfl rfl) ?_
 refine d_lits 7 rfl (by kernel_rfl) rfl rfl rfl (by rfl) (by rfl) (by rfl) (by decide) (by decide) (by rfl) .free rfl (.inr heldx) ?_
 intro b25
 refine d_appendB 8 (B := y.B) (xs := y.xs) (ys := [.string (str n1), .string (str p.e.tree.atom), .slice o1 p.e.tree.parts.length k1]) (m := y.ns.length) (c := y.c) rfl (by kernel_rfl) rfl (by intro kk; simp) (by rfl) (by rw [hu1]; rfl) rfl hy.buf (fun _ h => h.uu7) (by rfl) (fun a ha => by cases ha; exact reads_ownL (.head _) (by rfl)) (by simp) (by rfl) (by decide) (by omega) (by decide) .free rfl (fun _ => .inr heldx) ?_
 intro B2 c3 hB2
 obtain ⟨bq2, sq, rfl⟩ : ∃ bq sq, B2 = some (bq, sq) := by
  cases B2 with
  | none => exact absurd hB2.1 (by simp)
  | some z => exact ⟨z.1, z.2, rfl⟩
 simp only [bufOwn, List.cons_append, List.nil_append]
 refine Da 9 rfl (y_nilCheck rfl) ?_
 refine d_st 10 rfl (by kernel_rfl) rfl rfl rfl rfl rfl .free (.inl (by kernel_rfl)) ?_ (hu := upd7)
 refine d_done (by kernel_rfl) ?_
 refine Se rfl ?_
 refine Om rfl ?_
 refine o_call rfl .free rfl (f_atom n1 hnl _ _) ?_
 rintro _ _ _ _ ⟨rfl, rfl, rfl⟩
 refine o_st rfl rfl rfl rfl .free ?_
 refine o_done ?_
 refine s_ret (.c rfl .nil) ?_
 refine ⟨J1, _, e1, fun w h => Mem.w3 (Mem.sub (L' := (bq2, _) :: nz _ _ _ _ :: _ :: (bn, _) :: L) (by repeat (first | exact List.Sublist.refl _ | apply List.Sublist.cons_cons | apply List.Sublist.cons)) h), _, ⟨y.ns ++ [(n1, p.e)], some (bq2, sq), c3, y.xs ++ [.string (str n1), .string (str p.e.tree.atom), .slice o1 p.e.tree.parts.length k1]⟩, rfl, .ofAtom hnl, ⟨by simpa using hB2, hy.rep.append (.cons hnl hr .nil)⟩, ?_, ?_⟩
 ·simp only [hyn, List.append_assoc]
 ·simp only [NZ.own, nz, bufOwn, bufVal, List.append_assoc, List.length_append, List.length_cons, List.length_nil, List.cons_append, List.nil_append, Nat.add_assoc]
end Go.Proofs.YtdgpnibnogdllaaGreatDoor


/- Expressions made simple and normal, by the program. No conditions. -/
namespace Go.Proofs.YtdgpnibnogdllaaGreatDoor
set_option maxRecDepth 100000
set_option linter.unusedVariables false
set_option linter.unusedSimpArgs false

section
variable {I : Heap} {a b c d q s x u v : Nat × Obj} {X L R : Own} {w : World}
theorem Mem.let5 (h : Mem I (q :: s :: x :: u :: v :: a :: b :: c :: L) w) : Mem I (a :: b :: c :: q :: s :: x :: u :: v :: L) w := h.perm (List.perm_append_comm_assoc [q, s, x, u, v] [a, b, c] L)
theorem Mem.uu4 (h : Mem I (a :: b :: c :: d :: (X ++ L)) w) : Mem I (X ++ a :: b :: c :: d :: L) w := h.perm (List.perm_append_comm_assoc [a, b, c, d] X L)
end
/-- What makes a whole expression normal leaves. -/
def NW (b bq : Nat) (tk : List Txt) (g : Nat) (p : MK) (L : Own) : Post := fun v I' L' => ∃ cs, v = .agg (List.toArray cs) ∧ Rep I' p.all.tree cs ∧ L' = nz b bq (g + p.g) p.n :: (bq, metObj tk) :: L
theorem nnormal_of {N : Nat} (ih : NMakeH N) {I : Heap} (ht : Tab I) {e : Ex} {cs : List Value} (hlt : SizeOf.sizeOf e < N) (h : Rep I e.tree cs) (hok : e.ok = true) (tk : List Txt) (b bq g n : Nat) (hn : n + e.size + tk.length ≤ 900 + hits 121 tk n) (hg : g + e.size ≤ 1000) (hz : e.size ≤ 1000) (L : Own) :
  Fun Tryz.prog 24 [.pointer (some ⟨b, 0, none⟩), .agg cs.toArray] I (nz b bq g n :: (bq, metObj tk) :: L) (NW b bq tk g (e.mk tk n) L) := by
 obtain ⟨oa, c, oaf, cf, rfl, hf⟩ := h.at'
 have hml := e.mk_len tk n
 refine fun_intro (by simp) ?_
 refine Se rfl ?_
 refine o_box rfl rfl .free rfl ?_
 intro b3
 refine o_alloc .free rfl ?_
 intro b4
 refine o_done ?_
 refine Se rfl ?_
 refine o_alloc .free rfl ?_
 intro b5
 refine o_done ?_
 refine Se rfl ?_
 refine Om rfl ?_
 refine o_lOS rfl .free rfl ?_
 refine o_mem (fun w h => Mem.nq3 h) ?_
 refine o_call rfl .free rfl (ih ht hlt hf.rep hok tk b bq b5 g n hn hg ⟨[], none, 0, []⟩ ⟨⟨rfl, rfl, rfl⟩, .nil⟩ (by simp only [List.length_nil]; omega) (_ :: _ :: L)) ?_
 rintro _ J1 _ e1 ⟨cs1, y, rfl, hr, hy, hyn, rfl⟩
 obtain ⟨o1, k1, _, rfl, -⟩ := hr.open
 rw [List.nil_append] at hyn
 unfold NZ.own
 refine o_alloc .free rfl ?_
 intro b6
 refine o_st rfl rfl rfl rfl .free ?_
 refine o_done ?_
 refine s_seq ?_
 refine s_mem (fun w h => Mem.uu4 h) (s_freezeBinds hy.rep hy.buf rfl (by rw [hyn]; unfold maxN; omega) ?_)
 intro J2 ob cb e2 hbv hbs
 rw [hbv]
 refine o_enter rfl ?_
 refine o_lO1 rfl .free rfl ?_
 refine o_lOS rfl .free rfl ?_
 refine o_call rfl .free rfl (f_bindAll hbs (hr.mono e2) _) ?_
 rintro _ J3 _ e3 ⟨cs3, rfl, hr3, rfl⟩
 obtain ⟨o3, k3, _, rfl, -⟩ := hr3.open
 refine o_st rfl rfl rfl rfl .free ?_
 refine o_done ?_
 refine s_ret (.c rfl .nil) ?_
 refine ⟨J3, _, (e1.trans e2).trans e3, fun w h => Mem.sub (L' := nz _ _ _ _ :: _ :: L) (by repeat (first | exact List.Sublist.refl _ | apply List.Sublist.cons_cons | apply List.Sublist.cons)) h, _, rfl, ?_, rfl⟩
 show Rep J3 (lets (e.mk tk n).ns (e.mk tk n).e).tree _
 rw [← hyn]; exact hr3
set_option maxHeartbeats 1000000 in
theorem nmake_bin {N : Nat} (ihn : NMakeH N) {o : B5} {a b : Ex} {I : Heap} (ht : Tab I) {cs : List Value} (hlt : SizeOf.sizeOf (Ex.bin o a b) < N + 1) (h : Rep I (Ex.bin o a b).tree cs) (hok : (Ex.bin o a b).ok = true) (tk : List Txt) (b0 bq bn g n : Nat) (hn : n + (Ex.bin o a b).size + tk.length ≤ 900 + hits 121 tk n) (hg : g + (Ex.bin o a b).size ≤ 1000) (x : NZ) (hx : x.ok I) (hxl : x.ns.length + (Ex.bin o a b).size ≤ 100000) (L : Own) :
  Fun Tryz.prog 45 [.pointer (some ⟨b0, 0, none⟩), .agg cs.toArray, .pointer (some ⟨bn, 0, none⟩)] I (x.own b0 bq tk g n bn L) (NP b0 bq tk g bn x ((Ex.bin o a b).mk tk n) L) := by
 obtain ⟨oa, c, oaf, cf1, rfl, hf, hcl, hcs⟩ := h.cells
 have hle : HLe I I := .refl _
 have hh0 := hits_le 121 tk n
 have hpos : 0 < (Ex.bin o a b).tree.parts.length := by show 0 < 3; decide
 obtain ⟨xa, rfl⟩ : ∃ xa, oa = some xa := ⟨_, some_oad hf.nil hpos⟩
 have hlen : (Ex.bin o a b).tree.parts.length = 3 := rfl
 have hp := hf.len
 have hpe : (Ex.bin o a b).tree.parts.isEmpty = false := rfl
 have hpe2 : ¬ (Ex.bin o a b).tree.parts = [] := fun e => by rw [e] at hlen; cases hlen
 have hki := kids_bin o a b
 have hhd : (Ex.bin o a b).tree.head = o.txt := rfl
 have hxl2 : ¬ (Ex.bin o a b).tree.head = [108, 101, 116] := o.txt_ne.2.1
 have hxl2d : ¬ o.txt = [108, 101, 116] := o.txt_ne.2.1
 have hxf : ¬ (Ex.bin o a b).tree.head = [102, 117, 110] := o.txt_ne.2.2.1
 have hxfd : ¬ o.txt = [102, 117, 110] := o.txt_ne.2.2.1
 have hxi : ¬ (Ex.bin o a b).tree.head = [105, 102] := o.txt_ne.1
 have hxid : ¬ o.txt = [105, 102] := o.txt_ne.1
 simp only [Ex.bin.sizeOf_spec] at hlt
 simp only [Ex.ok, Bool.and_eq_true, decide_eq_true_eq] at hok
 simp only [Ex.size] at hn hg hxl
 simp only [Ex.mk]
 unfold NZ.own
 refine fun_intro (by simp) ?_
 refine Se rfl ?_
 refine o_box rfl rfl .free rfl ?_
 intro b4
 refine o_alloc .free rfl ?_
 intro b6
 refine o_done ?_
 refine s_seq ?_
 refine Se rfl ?_
 refine o_lOS rfl .free rfl ?_
 refine o_call rfl .free rfl (f_form_isAtom hf.rep _) ?_
 rintro _ _ _ _ ⟨rfl, rfl, rfl⟩
 refine o_done ?_
 first | refine s_fp rfl (hpe) ?_ | refine s_fn rfl (hpe) ?_ | refine s_false (by simp [look, opd, *]) ?_
 refine s_skip ?_
 refine s_seq ?_
 refine Se rfl ?_
 refine o_lOS rfl .free rfl ?_
 refine o_call rfl .free rfl (f_form_head hf.rep _) ?_
 rintro _ _ _ _ ⟨rfl, rfl, rfl⟩
 refine o_cmps rfl rfl rfl .free rfl ?_
 refine o_done ?_
 first | refine s_fp rfl hxl2 ?_ | refine s_fn rfl hxl2 ?_ | refine s_false (by simp [look, opd, *]) ?_
 refine s_skip ?_
 refine Se rfl ?_
 refine o_fieldAddr rfl .free rfl ?_
 refine o_lO1 rfl .free rfl ?_
 refine o_call rfl .free rfl (f_slices_Clone (hcs _ rfl) (by have := hcl.length; omega) hcl.plain hpos hp _) ?_
 rintro _ _ _ _ ⟨bc, sp, cc, rfl, hcc, rfl, rfl⟩
 simp only [show (Ex.bin o a b).tree.parts = [.node o.txt [], a.tree, b.tree] from rfl, cellsF, List.cons_append, List.nil_append]
 refine o_struct rfl rfl rfl .free rfl ?_
 refine o_alloc .free rfl ?_
 intro b8
 refine o_st rfl rfl rfl rfl .free ?_
 refine o_done ?_
 refine s_seq ?_
 refine Se rfl ?_
 refine o_lOS rfl .free rfl ?_
 refine o_call rfl .free rfl (f_form_kids hf.rep _) ?_
 rintro _ J _ e0 ⟨ok, ck, rfl, hk1, rfl⟩
 have hf := hf.mono e0
 have ht := ht.mono e0
 have hx := hx.mono e0
 have hle := hle.trans e0
 rw [hki] at hk1
 rw [hki]
 refine o_len_slice rfl .free rfl ?_
 refine Om rfl ?_
 refine o_done ?_
 refine s_block ?_
 refine s_loop ?_
 refine Se rfl ?_
 refine o_cmp rfl rfl rfl .free rfl ?_
 refine o_done ?_
 refine s_seq ?_
 refine s_condT rfl (by first | rfl | decide | (simp; done) | omega) ?_
 refine s_skip ?_
 refine s_seq ?_
 refine s_block ?_
 refine Se rfl ?_
 first | refine o_ixD rfl rfl _ rfl .free rfl ?_ | refine o_ixP rfl rfl _ rfl .free rfl ?_
 refine o_lI1 rfl .free rfl ?_
 refine Oa rfl ?_
 refine o_done ?_
 refine Se rfl ?_
 refine o_lOS rfl .free rfl ?_
 refine o_call rfl .free rfl (f_form_head hf.rep _) ?_
 rintro _ _ _ _ ⟨rfl, rfl, rfl⟩
 refine o_cmps rfl rfl rfl .free rfl ?_
 refine Om rfl ?_
 apply o_or 59 67 rfl
 ·intro g11_4 hk
  try simp only [nb] at g11_4
  refine o_lOS rfl (.met rfl rfl) rfl ?_
  refine o_call rfl (.met rfl rfl) rfl (f_form_head hf.rep _) ?_
  rintro _ _ _ _ ⟨rfl, rfl, rfl⟩
  refine o_cmps rfl rfl rfl (.met rfl rfl) rfl ?_
  refine o_move rfl (.met rfl rfl) rfl ?_
  apply o_and 63 66 rfl
  ·intro g11_8 hk
   try simp only [nb] at g11_8
   refine o_move rfl (.met rfl rfl) rfl ?_
   refine o_cmp rfl rfl rfl (.met rfl rfl) rfl ?_
   refine o_pick_true rfl rfl (.met rfl rfl) rfl ?_
   exact o_fin 2 rfl rfl hk
  ·intro _ hk
   refine o_skips 2 rfl ?_
   refine o_pick_false rfl rfl (.met rfl rfl) rfl ?_
   exact o_fin 2 rfl rfl hk
  refine o_pick_false rfl rfl .free rfl ?_
  exact o_fin 5 rfl rfl hk
 ·intro _ hk
  refine o_skips 7 rfl ?_
  refine o_pick_true rfl rfl .free rfl ?_
  exact o_fin 7 rfl rfl hk
 refine o_done ?_
 first | refine s_fp rfl (by simp [hxf, hxi, hxfd, hxid]) ?_ | refine s_fn rfl (by simp [hxf, hxi, hxfd, hxid]) ?_ | refine s_false (by simp [look, opd, *]) ?_
 refine s_here fun hlr => ?_
 have g1 := a.mk_g tk n
 have mh1 := a.mk_hits tk n
 have gp1 := MK.pt_g tk _ g1.1 g1.2
 have mp1 := MK.pt_hits tk _ mh1
 have lp1 := MK.pt_len tk _ (a.mk_len tk n)
 have hz1 := hits_le 121 tk n
 refine d_q4 13 rfl rfl ?_
 refine Da 0 rfl (y_fieldAddr rfl) ?_
 refine Dt 1 [12] rfl (y_lO1 rfl) ?_
 refine Da 2 rfl (y_move rfl) ?_
 refine Da 3 rfl (y_move rfl) ?_
 refine Da 4 rfl (y_fieldAddr rfl) ?_
 refine Dt 5 [12] rfl (y_lO1 rfl) ?_
 refine Da 6 rfl (y_move rfl) ?_
 first | refine Da 7 rfl (y_ixD rfl rfl _ rfl) ?_ | refine Da 7 rfl (y_ixP rfl rfl _ rfl) ?_
 refine Dt 8 [12] rfl (y_lIS rfl) ?_
 refine Da 9 rfl (y_move rfl) ?_
 refine d_mem (fun w h => Mem.kv4 h) ?_
 refine d_call 10 rfl (by kernel_rfl) rfl rfl .free rfl (nbare_of ihn ht (by omega) (hf.as 1 a.tree (by omega) rfl) hok.1 tk b0 bq bn (g) n (by omega) (by omega) x hx (by omega) _) ?_
 rintro _ J1 _ e1 ⟨cs1, y1, rfl, hr_1, hy1, hy1n, rfl⟩
 obtain ⟨o1, k1, _, rfl, -⟩ := hr_1.open
 have hy1l : y1.ns.length = x.ns.length + ((a.mk tk n).pt tk).ns.length := by rw [hy1n]; simp
 have hlr := hlr.trans e1
 have hf := hf.mono e1
 have ht := ht.mono e1
 have hle := hle.trans e1
 have hk1 := hk1.mono e1
 unfold NZ.own
 refine ⟨(.inr heldx), ?_⟩
 refine d_mem (fun w h => Mem.vk4 h) ?_
 first | refine Da 11 rfl (y_ixD rfl rfl _ rfl) ?_ | refine Da 11 rfl (y_ixP rfl rfl _ rfl) ?_
 refine d_st 12 rfl (by kernel_rfl) rfl rfl rfl rfl rfl .free (.inl (by kernel_rfl)) ?_
 refine d_done (by kernel_rfl) ?_
 refine s_inBlock ?_
 refine o_enter rfl ?_
 refine o_arith rfl rfl rfl (by omega) .free rfl ?_
 refine Om rfl ?_
 refine o_done ?_
 refine s_round ?_
 refine Se rfl ?_
 refine o_cmp rfl rfl rfl .free rfl ?_
 refine o_done ?_
 refine s_seq ?_
 refine s_condT rfl (by first | rfl | decide | (simp; done) | omega) ?_
 refine s_skip ?_
 refine s_seq ?_
 refine s_block ?_
 refine Se rfl ?_
 first | refine o_ixD rfl rfl _ rfl .free rfl ?_ | refine o_ixP rfl rfl _ rfl .free rfl ?_
 refine o_lI1 rfl .free rfl ?_
 refine Oa rfl ?_
 refine o_done ?_
 refine Se rfl ?_
 refine o_lOS rfl .free rfl ?_
 refine o_call rfl .free rfl (f_form_head hf.rep _) ?_
 rintro _ _ _ _ ⟨rfl, rfl, rfl⟩
 refine o_cmps rfl rfl rfl .free rfl ?_
 refine Om rfl ?_
 apply o_or 59 67 rfl
 ·intro g11_4 hk
  try simp only [nb] at g11_4
  refine o_lOS rfl (.met rfl rfl) rfl ?_
  refine o_call rfl (.met rfl rfl) rfl (f_form_head hf.rep _) ?_
  rintro _ _ _ _ ⟨rfl, rfl, rfl⟩
  refine o_cmps rfl rfl rfl (.met rfl rfl) rfl ?_
  refine o_move rfl (.met rfl rfl) rfl ?_
  apply o_and 63 66 rfl
  ·intro g11_8 hk
   try simp only [nb] at g11_8
   refine o_move rfl (.met rfl rfl) rfl ?_
   refine o_cmp rfl rfl rfl (.met rfl rfl) rfl ?_
   refine o_pick_true rfl rfl (.met rfl rfl) rfl ?_
   exact o_fin 2 rfl rfl hk
  ·intro _ hk
   refine o_skips 2 rfl ?_
   refine o_pick_false rfl rfl (.met rfl rfl) rfl ?_
   exact o_fin 2 rfl rfl hk
  refine o_pick_false rfl rfl .free rfl ?_
  exact o_fin 5 rfl rfl hk
 ·intro _ hk
  refine o_skips 7 rfl ?_
  refine o_pick_true rfl rfl .free rfl ?_
  exact o_fin 7 rfl rfl hk
 refine o_done ?_
 first | refine s_fp rfl (by simp [hxf, hxi, hxfd, hxid]) ?_ | refine s_fn rfl (by simp [hxf, hxi, hxfd, hxid]) ?_ | refine s_false (by simp [look, opd, *]) ?_
 refine s_here fun hlr => ?_
 have g2 := b.mk_g tk ((a.mk tk n).pt tk).n
 have mh2 := b.mk_hits tk ((a.mk tk n).pt tk).n
 have gp2 := MK.pt_g tk _ g2.1 g2.2
 have mp2 := MK.pt_hits tk _ mh2
 have lp2 := MK.pt_len tk _ (b.mk_len tk ((a.mk tk n).pt tk).n)
 have hz2 := hits_le 121 tk ((a.mk tk n).pt tk).n
 refine d_q4 13 rfl rfl ?_
 refine Da 0 rfl (y_fieldAddr rfl) ?_
 refine Dt 1 [12] rfl (y_lO1 rfl) ?_
 refine Da 2 rfl (y_move rfl) ?_
 refine Da 3 rfl (y_move rfl) ?_
 refine Da 4 rfl (y_fieldAddr rfl) ?_
 refine Dt 5 [12] rfl (y_lO1 rfl) ?_
 refine Da 6 rfl (y_move rfl) ?_
 first | refine Da 7 rfl (y_ixD rfl rfl _ rfl) ?_ | refine Da 7 rfl (y_ixP rfl rfl _ rfl) ?_
 refine Dt 8 [12] rfl (y_lIS rfl) ?_
 refine Da 9 rfl (y_move rfl) ?_
 refine d_mem (fun w h => Mem.kv4 h) ?_
 refine d_call 10 rfl (by kernel_rfl) rfl rfl .free rfl (nbare_of ihn ht (by omega) (hf.as 2 b.tree (by omega) rfl) hok.2 tk b0 bq bn (g + ((a.mk tk n).pt tk).g) ((a.mk tk n).pt tk).n (by omega) (by omega) y1 hy1 (by omega) _) ?_
 rintro _ J2 _ e2 ⟨cs2, y2, rfl, hr_2, hy2, hy2n, rfl⟩
 obtain ⟨o2, k2, _, rfl, -⟩ := hr_2.open
 have hy2l : y2.ns.length = y1.ns.length + ((b.mk tk ((a.mk tk n).pt tk).n).pt tk).ns.length := by rw [hy2n]; simp
 have hlr := hlr.trans e2
 have hf := hf.mono e2
 have ht := ht.mono e2
 have hle := hle.trans e2
 have hk1 := hk1.mono e2
 have hr_1 := hr_1.mono e2
 unfold NZ.own
 refine ⟨(.inr heldx), ?_⟩
 refine d_mem (fun w h => Mem.vk4 h) ?_
 first | refine Da 11 rfl (y_ixD rfl rfl _ rfl) ?_ | refine Da 11 rfl (y_ixP rfl rfl _ rfl) ?_
 refine d_st 12 rfl (by kernel_rfl) rfl rfl rfl rfl rfl .free (.inl (by kernel_rfl)) ?_
 refine d_done (by kernel_rfl) ?_
 refine s_inBlock ?_
 refine o_enter rfl ?_
 refine o_arith rfl rfl rfl (by omega) .free rfl ?_
 refine Om rfl ?_
 refine o_done ?_
 refine s_round ?_
 refine Se rfl ?_
 refine o_cmp rfl rfl rfl .free rfl ?_
 refine o_done ?_
 refine s_seq ?_
 refine s_condF rfl (by first | rfl | decide | (simp; done) | omega) ?_
 refine s_exit rfl ?_
 refine Se rfl ?_
 refine o_lOS rfl .free rfl ?_
 refine o_st rfl rfl rfl rfl .free ?_
 refine o_done ?_
 refine s_mem (fun w h => h.f1) (s_freeze ?_)
 intro hz
 have hf := hf.mono hz
 refine s_ret (.c rfl .nil) ?_
 refine ⟨_, _, hle.trans hz, fun w h => h.drop.drop.drop, _, y2, rfl, .mk' rfl (.cons (hf.as 0 (.node o.txt []) (by omega) rfl) (.cons (hr_1.mono hz) (.cons (hr_2.mono hz) (.nil)))) (fun y hy => by cases hy; exact still_set (xs := [_, _, _, _, _, _])) (by simp) hcc (by simp [maxN]) (by simp [maxN]), hy2.mono hz, by simp only [hy2n, hy1n, List.append_assoc], ?_⟩
 simp only [NZ.own, Nat.add_assoc]
set_option maxHeartbeats 1000000 in
theorem nmake_ite {N : Nat} (ihn : NMakeH N) {a b d : Ex} {I : Heap} (ht : Tab I) {cs : List Value} (hlt : SizeOf.sizeOf (Ex.ite a b d) < N + 1) (h : Rep I (Ex.ite a b d).tree cs) (hok : (Ex.ite a b d).ok = true) (tk : List Txt) (b0 bq bn g n : Nat) (hn : n + (Ex.ite a b d).size + tk.length ≤ 900 + hits 121 tk n) (hg : g + (Ex.ite a b d).size ≤ 1000) (x : NZ) (hx : x.ok I) (hxl : x.ns.length + (Ex.ite a b d).size ≤ 100000) (L : Own) :
  Fun Tryz.prog 45 [.pointer (some ⟨b0, 0, none⟩), .agg cs.toArray, .pointer (some ⟨bn, 0, none⟩)] I (x.own b0 bq tk g n bn L) (NP b0 bq tk g bn x ((Ex.ite a b d).mk tk n) L) := by
 obtain ⟨oa, c, oaf, cf1, rfl, hf, hcl, hcs⟩ := h.cells
 have hle : HLe I I := .refl _
 have hh0 := hits_le 121 tk n
 have hpos : 0 < (Ex.ite a b d).tree.parts.length := by show 0 < 4; decide
 obtain ⟨xa, rfl⟩ : ∃ xa, oa = some xa := ⟨_, some_oad hf.nil hpos⟩
 have hlen : (Ex.ite a b d).tree.parts.length = 4 := rfl
 have hp := hf.len
 have hpe : (Ex.ite a b d).tree.parts.isEmpty = false := rfl
 have hpe2 : ¬ (Ex.ite a b d).tree.parts = [] := fun e => by rw [e] at hlen; cases hlen
 have hki := kids_ite a b d
 have hhd : (Ex.ite a b d).tree.head = tIf := rfl
 have hxl2 : ¬ (Ex.ite a b d).tree.head = [108, 101, 116] := (by decide : ¬ tIf = tLet)
 have hxl2d : ¬ tIf = [108, 101, 116] := (by decide : ¬ tIf = tLet)
 have hxf : ¬ (Ex.ite a b d).tree.head = [102, 117, 110] := (by decide : ¬ tIf = tFun)
 have hxfd : ¬ tIf = [102, 117, 110] := (by decide : ¬ tIf = tFun)
 have hxi :  (Ex.ite a b d).tree.head = [105, 102] := rfl
 have hxid :  tIf = [105, 102] := rfl
 simp only [Ex.ite.sizeOf_spec] at hlt
 simp only [Ex.ok, Bool.and_eq_true, decide_eq_true_eq] at hok
 simp only [Ex.size] at hn hg hxl
 simp only [Ex.mk]
 unfold NZ.own
 refine fun_intro (by simp) ?_
 refine Se rfl ?_
 refine o_box rfl rfl .free rfl ?_
 intro b4
 refine o_alloc .free rfl ?_
 intro b6
 refine o_done ?_
 refine s_seq ?_
 refine Se rfl ?_
 refine o_lOS rfl .free rfl ?_
 refine o_call rfl .free rfl (f_form_isAtom hf.rep _) ?_
 rintro _ _ _ _ ⟨rfl, rfl, rfl⟩
 refine o_done ?_
 first | refine s_fp rfl (hpe) ?_ | refine s_fn rfl (hpe) ?_ | refine s_false (by simp [look, opd, *]) ?_
 refine s_skip ?_
 refine s_seq ?_
 refine Se rfl ?_
 refine o_lOS rfl .free rfl ?_
 refine o_call rfl .free rfl (f_form_head hf.rep _) ?_
 rintro _ _ _ _ ⟨rfl, rfl, rfl⟩
 refine o_cmps rfl rfl rfl .free rfl ?_
 refine o_done ?_
 first | refine s_fp rfl hxl2 ?_ | refine s_fn rfl hxl2 ?_ | refine s_false (by simp [look, opd, *]) ?_
 refine s_skip ?_
 refine Se rfl ?_
 refine o_fieldAddr rfl .free rfl ?_
 refine o_lO1 rfl .free rfl ?_
 refine o_call rfl .free rfl (f_slices_Clone (hcs _ rfl) (by have := hcl.length; omega) hcl.plain hpos hp _) ?_
 rintro _ _ _ _ ⟨bc, sp, cc, rfl, hcc, rfl, rfl⟩
 simp only [show (Ex.ite a b d).tree.parts = [.node tIf [], a.tree, b.tree, d.tree] from rfl, cellsF, List.cons_append, List.nil_append]
 refine o_struct rfl rfl rfl .free rfl ?_
 refine o_alloc .free rfl ?_
 intro b8
 refine o_st rfl rfl rfl rfl .free ?_
 refine o_done ?_
 refine s_seq ?_
 refine Se rfl ?_
 refine o_lOS rfl .free rfl ?_
 refine o_call rfl .free rfl (f_form_kids hf.rep _) ?_
 rintro _ J _ e0 ⟨ok, ck, rfl, hk1, rfl⟩
 have hf := hf.mono e0
 have ht := ht.mono e0
 have hx := hx.mono e0
 have hle := hle.trans e0
 rw [hki] at hk1
 rw [hki]
 refine o_len_slice rfl .free rfl ?_
 refine Om rfl ?_
 refine o_done ?_
 refine s_block ?_
 refine s_loop ?_
 refine Se rfl ?_
 refine o_cmp rfl rfl rfl .free rfl ?_
 refine o_done ?_
 refine s_seq ?_
 refine s_condT rfl (by first | rfl | decide | (simp; done) | omega) ?_
 refine s_skip ?_
 refine s_seq ?_
 refine s_block ?_
 refine Se rfl ?_
 first | refine o_ixD rfl rfl _ rfl .free rfl ?_ | refine o_ixP rfl rfl _ rfl .free rfl ?_
 refine o_lI1 rfl .free rfl ?_
 refine Oa rfl ?_
 refine o_done ?_
 refine Se rfl ?_
 refine o_lOS rfl .free rfl ?_
 refine o_call rfl .free rfl (f_form_head hf.rep _) ?_
 rintro _ _ _ _ ⟨rfl, rfl, rfl⟩
 refine o_cmps rfl rfl rfl .free rfl ?_
 refine Om rfl ?_
 apply o_or 59 67 rfl
 ·intro g11_4 hk
  try simp only [nb] at g11_4
  refine o_lOS rfl (.met rfl rfl) rfl ?_
  refine o_call rfl (.met rfl rfl) rfl (f_form_head hf.rep _) ?_
  rintro _ _ _ _ ⟨rfl, rfl, rfl⟩
  refine o_cmps rfl rfl rfl (.met rfl rfl) rfl ?_
  refine o_move rfl (.met rfl rfl) rfl ?_
  apply o_and 63 66 rfl
  ·intro g11_8 hk
   try simp only [nb] at g11_8
   refine o_move rfl (.met rfl rfl) rfl ?_
   refine o_cmp rfl rfl rfl (.met rfl rfl) rfl ?_
   refine o_pick_true rfl rfl (.met rfl rfl) rfl ?_
   exact o_fin 2 rfl rfl hk
  ·intro _ hk
   refine o_skips 2 rfl ?_
   refine o_pick_false rfl rfl (.met rfl rfl) rfl ?_
   exact o_fin 2 rfl rfl hk
  refine o_pick_false rfl rfl .free rfl ?_
  exact o_fin 5 rfl rfl hk
 ·intro _ hk
  refine o_skips 7 rfl ?_
  refine o_pick_true rfl rfl .free rfl ?_
  exact o_fin 7 rfl rfl hk
 refine o_done ?_
 first | refine s_fp rfl (by simp [hxf, hxi, hxfd, hxid]) ?_ | refine s_fn rfl (by simp [hxf, hxi, hxfd, hxid]) ?_ | refine s_false (by simp [look, opd, *]) ?_
 refine s_here fun hlr => ?_
 have g1 := a.mk_g tk n
 have mh1 := a.mk_hits tk n
 have gp1 := MK.pt_g tk _ g1.1 g1.2
 have mp1 := MK.pt_hits tk _ mh1
 have lp1 := MK.pt_len tk _ (a.mk_len tk n)
 have hz1 := hits_le 121 tk n
 refine d_q4 13 rfl rfl ?_
 refine Da 0 rfl (y_fieldAddr rfl) ?_
 refine Dt 1 [12] rfl (y_lO1 rfl) ?_
 refine Da 2 rfl (y_move rfl) ?_
 refine Da 3 rfl (y_move rfl) ?_
 refine Da 4 rfl (y_fieldAddr rfl) ?_
 refine Dt 5 [12] rfl (y_lO1 rfl) ?_
 refine Da 6 rfl (y_move rfl) ?_
 first | refine Da 7 rfl (y_ixD rfl rfl _ rfl) ?_ | refine Da 7 rfl (y_ixP rfl rfl _ rfl) ?_
 refine Dt 8 [12] rfl (y_lIS rfl) ?_
 refine Da 9 rfl (y_move rfl) ?_
 refine d_mem (fun w h => Mem.kv4 h) ?_
 refine d_call 10 rfl (by kernel_rfl) rfl rfl .free rfl (nbare_of ihn ht (by omega) (hf.as 1 a.tree (by omega) rfl) hok.1.1 tk b0 bq bn (g) n (by omega) (by omega) x hx (by omega) _) ?_
 rintro _ J1 _ e1 ⟨cs1, y1, rfl, hr_1, hy1, hy1n, rfl⟩
 obtain ⟨o1, k1, _, rfl, -⟩ := hr_1.open
 have hy1l : y1.ns.length = x.ns.length + ((a.mk tk n).pt tk).ns.length := by rw [hy1n]; simp
 have hlr := hlr.trans e1
 have hf := hf.mono e1
 have ht := ht.mono e1
 have hle := hle.trans e1
 have hk1 := hk1.mono e1
 unfold NZ.own
 refine ⟨(.inr heldx), ?_⟩
 refine d_mem (fun w h => Mem.vk4 h) ?_
 first | refine Da 11 rfl (y_ixD rfl rfl _ rfl) ?_ | refine Da 11 rfl (y_ixP rfl rfl _ rfl) ?_
 refine d_st 12 rfl (by kernel_rfl) rfl rfl rfl rfl rfl .free (.inl (by kernel_rfl)) ?_
 refine d_done (by kernel_rfl) ?_
 refine s_inBlock ?_
 refine o_enter rfl ?_
 refine o_arith rfl rfl rfl (by omega) .free rfl ?_
 refine Om rfl ?_
 refine o_done ?_
 refine s_round ?_
 refine Se rfl ?_
 refine o_cmp rfl rfl rfl .free rfl ?_
 refine o_done ?_
 refine s_seq ?_
 refine s_condT rfl (by first | rfl | decide | (simp; done) | omega) ?_
 refine s_skip ?_
 refine s_seq ?_
 refine s_block ?_
 refine Se rfl ?_
 first | refine o_ixD rfl rfl _ rfl .free rfl ?_ | refine o_ixP rfl rfl _ rfl .free rfl ?_
 refine o_lI1 rfl .free rfl ?_
 refine Oa rfl ?_
 refine o_done ?_
 refine Se rfl ?_
 refine o_lOS rfl .free rfl ?_
 refine o_call rfl .free rfl (f_form_head hf.rep _) ?_
 rintro _ _ _ _ ⟨rfl, rfl, rfl⟩
 refine o_cmps rfl rfl rfl .free rfl ?_
 refine Om rfl ?_
 apply o_or 59 67 rfl
 ·intro g11_4 hk
  try simp only [nb] at g11_4
  refine o_lOS rfl (.met rfl rfl) rfl ?_
  refine o_call rfl (.met rfl rfl) rfl (f_form_head hf.rep _) ?_
  rintro _ _ _ _ ⟨rfl, rfl, rfl⟩
  refine o_cmps rfl rfl rfl (.met rfl rfl) rfl ?_
  refine o_move rfl (.met rfl rfl) rfl ?_
  apply o_and 63 66 rfl
  ·intro g11_8 hk
   try simp only [nb] at g11_8
   refine o_move rfl (.met rfl rfl) rfl ?_
   refine o_cmp rfl rfl rfl (.met rfl rfl) rfl ?_
   refine o_pick_true rfl rfl (.met rfl rfl) rfl ?_
   exact o_fin 2 rfl rfl hk
  ·intro _ hk
   refine o_skips 2 rfl ?_
   refine o_pick_false rfl rfl (.met rfl rfl) rfl ?_
   exact o_fin 2 rfl rfl hk
  refine o_pick_false rfl rfl .free rfl ?_
  exact o_fin 5 rfl rfl hk
 ·intro _ hk
  refine o_skips 7 rfl ?_
  refine o_pick_true rfl rfl .free rfl ?_
  exact o_fin 7 rfl rfl hk
 refine o_done ?_
 first | refine s_tp rfl (by simp [hxi, hxid]) ?_ | refine s_tn rfl (by simp [hxi, hxid]) ?_ | refine s_true (by simp [look, opd, *]) ?_
 refine s_here fun hlr => ?_
 have g2 := b.mk_g tk ((a.mk tk n).pt tk).n
 have mh2 := b.mk_hits tk ((a.mk tk n).pt tk).n
 have hz2 := hits_le 121 tk ((a.mk tk n).pt tk).n
 refine d_o4 12 rfl rfl ?_
 refine Da 0 rfl (y_fieldAddr rfl) ?_
 refine Dt 1 [11] rfl (y_lO1 rfl) ?_
 refine Da 2 rfl (y_move rfl) ?_
 refine Da 3 rfl (y_move rfl) ?_
 refine Da 4 rfl (y_fieldAddr rfl) ?_
 refine Dt 5 [11] rfl (y_lO1 rfl) ?_
 refine Da 6 rfl (y_move rfl) ?_
 first | refine Da 7 rfl (y_ixD rfl rfl _ rfl) ?_ | refine Da 7 rfl (y_ixP rfl rfl _ rfl) ?_
 refine Dt 8 [11] rfl (y_lIS rfl) ?_
 refine d_mem (fun w h => Mem.nq4 h) ?_
 refine d_call 9 rfl (by kernel_rfl) rfl rfl .free rfl (nnormal_of ihn ht (by omega) (hf.as 2 b.tree (by omega) rfl) hok.1.2 tk b0 bq (g + ((a.mk tk n).pt tk).g) ((a.mk tk n).pt tk).n (by omega) (by omega) (by omega) _) ?_
 rintro _ J2 _ e2 ⟨cs2, rfl, hr_2, rfl⟩
 obtain ⟨o2, k2, _, rfl, -⟩ := hr_2.open
 have hlr := hlr.trans e2
 have hf := hf.mono e2
 have ht := ht.mono e2
 have hle := hle.trans e2
 have hk1 := hk1.mono e2
 have hy1 := hy1.mono e2
 have hr_1 := hr_1.mono e2
 refine ⟨(.inr heldx), ?_⟩
 refine d_mem (fun w h => Mem.qn4 h) ?_
 first | refine Da 10 rfl (y_ixD rfl rfl _ rfl) ?_ | refine Da 10 rfl (y_ixP rfl rfl _ rfl) ?_
 refine d_st 11 rfl (by kernel_rfl) rfl rfl rfl rfl rfl .free (.inl (by kernel_rfl)) ?_
 refine d_done (by kernel_rfl) ?_
 refine s_inBlock ?_
 refine o_enter rfl ?_
 refine o_arith rfl rfl rfl (by omega) .free rfl ?_
 refine Om rfl ?_
 refine o_done ?_
 refine s_round ?_
 refine Se rfl ?_
 refine o_cmp rfl rfl rfl .free rfl ?_
 refine o_done ?_
 refine s_seq ?_
 refine s_condT rfl (by first | rfl | decide | (simp; done) | omega) ?_
 refine s_skip ?_
 refine s_seq ?_
 refine s_block ?_
 refine Se rfl ?_
 first | refine o_ixD rfl rfl _ rfl .free rfl ?_ | refine o_ixP rfl rfl _ rfl .free rfl ?_
 refine o_lI1 rfl .free rfl ?_
 refine Oa rfl ?_
 refine o_done ?_
 refine Se rfl ?_
 refine o_lOS rfl .free rfl ?_
 refine o_call rfl .free rfl (f_form_head hf.rep _) ?_
 rintro _ _ _ _ ⟨rfl, rfl, rfl⟩
 refine o_cmps rfl rfl rfl .free rfl ?_
 refine Om rfl ?_
 apply o_or 59 67 rfl
 ·intro g11_4 hk
  try simp only [nb] at g11_4
  refine o_lOS rfl (.met rfl rfl) rfl ?_
  refine o_call rfl (.met rfl rfl) rfl (f_form_head hf.rep _) ?_
  rintro _ _ _ _ ⟨rfl, rfl, rfl⟩
  refine o_cmps rfl rfl rfl (.met rfl rfl) rfl ?_
  refine o_move rfl (.met rfl rfl) rfl ?_
  apply o_and 63 66 rfl
  ·intro g11_8 hk
   try simp only [nb] at g11_8
   refine o_move rfl (.met rfl rfl) rfl ?_
   refine o_cmp rfl rfl rfl (.met rfl rfl) rfl ?_
   refine o_pick_true rfl rfl (.met rfl rfl) rfl ?_
   exact o_fin 2 rfl rfl hk
  ·intro _ hk
   refine o_skips 2 rfl ?_
   refine o_pick_false rfl rfl (.met rfl rfl) rfl ?_
   exact o_fin 2 rfl rfl hk
  refine o_pick_false rfl rfl .free rfl ?_
  exact o_fin 5 rfl rfl hk
 ·intro _ hk
  refine o_skips 7 rfl ?_
  refine o_pick_true rfl rfl .free rfl ?_
  exact o_fin 7 rfl rfl hk
 refine o_done ?_
 first | refine s_tp rfl (by simp [hxi, hxid]) ?_ | refine s_tn rfl (by simp [hxi, hxid]) ?_ | refine s_true (by simp [look, opd, *]) ?_
 refine s_here fun hlr => ?_
 have g3 := d.mk_g tk (b.mk tk ((a.mk tk n).pt tk).n).n
 have mh3 := d.mk_hits tk (b.mk tk ((a.mk tk n).pt tk).n).n
 have hz3 := hits_le 121 tk (b.mk tk ((a.mk tk n).pt tk).n).n
 refine d_o4 12 rfl rfl ?_
 refine Da 0 rfl (y_fieldAddr rfl) ?_
 refine Dt 1 [11] rfl (y_lO1 rfl) ?_
 refine Da 2 rfl (y_move rfl) ?_
 refine Da 3 rfl (y_move rfl) ?_
 refine Da 4 rfl (y_fieldAddr rfl) ?_
 refine Dt 5 [11] rfl (y_lO1 rfl) ?_
 refine Da 6 rfl (y_move rfl) ?_
 first | refine Da 7 rfl (y_ixD rfl rfl _ rfl) ?_ | refine Da 7 rfl (y_ixP rfl rfl _ rfl) ?_
 refine Dt 8 [11] rfl (y_lIS rfl) ?_
 refine d_mem (fun w h => Mem.nq4 h) ?_
 refine d_call 9 rfl (by kernel_rfl) rfl rfl .free rfl (nnormal_of ihn ht (by omega) (hf.as 3 d.tree (by omega) rfl) hok.2 tk b0 bq (g + ((a.mk tk n).pt tk).g + (b.mk tk ((a.mk tk n).pt tk).n).g) (b.mk tk ((a.mk tk n).pt tk).n).n (by omega) (by omega) (by omega) _) ?_
 rintro _ J3 _ e3 ⟨cs3, rfl, hr_3, rfl⟩
 obtain ⟨o3, k3, _, rfl, -⟩ := hr_3.open
 have hlr := hlr.trans e3
 have hf := hf.mono e3
 have ht := ht.mono e3
 have hle := hle.trans e3
 have hk1 := hk1.mono e3
 have hy1 := hy1.mono e3
 have hr_1 := hr_1.mono e3
 have hr_2 := hr_2.mono e3
 refine ⟨(.inr heldx), ?_⟩
 refine d_mem (fun w h => Mem.qn4 h) ?_
 first | refine Da 10 rfl (y_ixD rfl rfl _ rfl) ?_ | refine Da 10 rfl (y_ixP rfl rfl _ rfl) ?_
 refine d_st 11 rfl (by kernel_rfl) rfl rfl rfl rfl rfl .free (.inl (by kernel_rfl)) ?_
 refine d_done (by kernel_rfl) ?_
 refine s_inBlock ?_
 refine o_enter rfl ?_
 refine o_arith rfl rfl rfl (by omega) .free rfl ?_
 refine Om rfl ?_
 refine o_done ?_
 refine s_round ?_
 refine Se rfl ?_
 refine o_cmp rfl rfl rfl .free rfl ?_
 refine o_done ?_
 refine s_seq ?_
 refine s_condF rfl (by first | rfl | decide | (simp; done) | omega) ?_
 refine s_exit rfl ?_
 refine Se rfl ?_
 refine o_lOS rfl .free rfl ?_
 refine o_st rfl rfl rfl rfl .free ?_
 refine o_done ?_
 refine s_mem (fun w h => h.f1) (s_freeze ?_)
 intro hz
 have hf := hf.mono hz
 refine s_ret (.c rfl .nil) ?_
 refine ⟨_, _, hle.trans hz, fun w h => h.drop.drop.drop, _, y1, rfl, .mk' rfl (.cons (hf.as 0 (.node tIf []) (by omega) rfl) (.cons (hr_1.mono hz) (.cons (hr_2.mono hz) (.cons (hr_3.mono hz) (.nil))))) (fun y hy => by cases hy; exact still_set (xs := [_, _, _, _, _, _, _, _])) (by simp) hcc (by simp [maxN]) (by simp [maxN]), hy1.mono hz, by simp only [hy1n], ?_⟩
 simp only [NZ.own, Nat.add_assoc]
set_option maxHeartbeats 1000000 in
theorem nmake_lt {N : Nat} (ihn : NMakeH N) {z : Txt} {a b : Ex} {I : Heap} (ht : Tab I) {cs : List Value} (hlt : SizeOf.sizeOf (Ex.lt z a b) < N + 1) (h : Rep I (Ex.lt z a b).tree cs) (hok : (Ex.lt z a b).ok = true) (tk : List Txt) (b0 bq bn g n : Nat) (hn : n + (Ex.lt z a b).size + tk.length ≤ 900 + hits 121 tk n) (hg : g + (Ex.lt z a b).size ≤ 1000) (x : NZ) (hx : x.ok I) (hxl : x.ns.length + (Ex.lt z a b).size ≤ 100000) (L : Own) :
  Fun Tryz.prog 45 [.pointer (some ⟨b0, 0, none⟩), .agg cs.toArray, .pointer (some ⟨bn, 0, none⟩)] I (x.own b0 bq tk g n bn L) (NP b0 bq tk g bn x ((Ex.lt z a b).mk tk n) L) := by
 obtain ⟨oa, c, oaf, cf1, rfl, hf, hcl, hcs⟩ := h.cells
 have hle : HLe I I := .refl _
 have hh0 := hits_le 121 tk n
 have hpos : 0 < (Ex.lt z a b).tree.parts.length := by show 0 < 4; decide
 obtain ⟨xa, rfl⟩ : ∃ xa, oa = some xa := ⟨_, some_oad hf.nil hpos⟩
 have hlen : (Ex.lt z a b).tree.parts.length = 4 := rfl
 have hp := hf.len
 have hpe : (Ex.lt z a b).tree.parts.isEmpty = false := rfl
 have hpe2 : ¬ (Ex.lt z a b).tree.parts = [] := fun e => by rw [e] at hlen; cases hlen
 have hki := kids_lt' z a b
 have hhd : (Ex.lt z a b).tree.head = tLet := rfl
 have hxl2 :  (Ex.lt z a b).tree.head = [108, 101, 116] := rfl
 have hxl2d :  tLet = [108, 101, 116] := rfl
 have hxf : ¬ (Ex.lt z a b).tree.head = [102, 117, 110] := (by decide : ¬ tLet = tFun)
 have hxfd : ¬ tLet = [102, 117, 110] := (by decide : ¬ tLet = tFun)
 have hxi : ¬ (Ex.lt z a b).tree.head = [105, 102] := (by decide : ¬ tLet = tIf)
 have hxid : ¬ tLet = [105, 102] := (by decide : ¬ tLet = tIf)
 simp only [Ex.lt.sizeOf_spec] at hlt
 simp only [Ex.ok, Bool.and_eq_true, decide_eq_true_eq] at hok
 simp only [Ex.size] at hn hg hxl
 simp only [Ex.mk]
 unfold NZ.own
 refine fun_intro (by simp) ?_
 refine Se rfl ?_
 refine o_box rfl rfl .free rfl ?_
 intro b4
 refine o_alloc .free rfl ?_
 intro b6
 refine o_done ?_
 refine s_seq ?_
 refine Se rfl ?_
 refine o_lOS rfl .free rfl ?_
 refine o_call rfl .free rfl (f_form_isAtom hf.rep _) ?_
 rintro _ _ _ _ ⟨rfl, rfl, rfl⟩
 refine o_done ?_
 first | refine s_fp rfl (hpe) ?_ | refine s_fn rfl (hpe) ?_ | refine s_false (by simp [look, opd, *]) ?_
 refine s_skip ?_
 refine s_seq ?_
 refine Se rfl ?_
 refine o_lOS rfl .free rfl ?_
 refine o_call rfl .free rfl (f_form_head hf.rep _) ?_
 rintro _ _ _ _ ⟨rfl, rfl, rfl⟩
 refine o_cmps rfl rfl rfl .free rfl ?_
 refine o_done ?_
 first | refine s_tp rfl hxl2 ?_ | refine s_tn rfl hxl2 ?_ | refine s_true (by simp [look, opd, *]) ?_
 refine s_seq ?_
 refine s_here fun hlr => ?_
 have g1 := a.mk_g tk n
 have mh1 := a.mk_hits tk n
 have lp1 := a.mk_len tk n
 have hzl : z.length ≤ maxN := Ex.name_len hok.1.1
 refine o_enter rfl ?_
 refine Om rfl ?_
 refine o_fieldAddr rfl .free rfl ?_
 refine o_lO1 rfl .free rfl ?_
 first | refine o_ixD rfl rfl 2 rfl .free rfl ?_ | refine o_ixP rfl rfl 2 rfl .free rfl ?_
 refine o_lIS rfl .free rfl ?_
 refine Om rfl ?_
 refine o_mem (fun w h => Mem.kv2 h) ?_
 refine o_call rfl .free rfl (ihn ht (by omega) (hf.as 2 a.tree (by omega) rfl) hok.1.2 tk b0 bq bn g n (by omega) (by omega) x hx (by omega) _) ?_
 rintro _ J1 _ e1 ⟨cs1, y, rfl, hr, hy, hyn, rfl⟩
 obtain ⟨o1, k1, _, rfl, -⟩ := hr.open
 have hyl : y.ns.length = x.ns.length + (a.mk tk n).ns.length := by rw [hyn]; simp
 obtain ⟨a1, k2, hu1⟩ := bufIs hy.buf
 have hz1 := hits_le 121 tk (a.mk tk n).n
 have hf := hf.mono e1
 have ht := ht.mono e1
 unfold NZ.own
 refine o_mem (fun w h => Mem.vk2 h) ?_
 rw [hu1]
 refine o_alloc .free rfl ?_
 intro b7
 refine o_st rfl rfl rfl rfl .free ?_
 refine o_done ?_
 refine s_seq ?_
 refine d_o6 15 rfl rfl ?_
 refine Da 0 rfl (y_move rfl) ?_
 refine Da 1 rfl (y_move rfl) ?_
 refine Da 2 rfl (y_nilCheck rfl) ?_
 refine Dt 3 [14] rfl (y_lJ rfl) ?_
 refine Da 4 rfl (y_fieldAddr rfl) ?_
 refine Dt 5 [14] rfl (y_lO1 rfl) ?_
 first | refine Da 6 rfl (y_ixD rfl rfl 1 rfl) ?_ | refine Da 6 rfl (y_ixP rfl rfl 1 rfl) ?_
 refine Da 7 rfl (y_fieldAddr' rfl) ?_
 refine Dt 8 [14] rfl (y_lIF rfl) ?_
 refine Dt 9 [14] rfl (y_lOS rfl) ?_
 refine Da 10 rfl (y_struct rfl rfl rfl) ?_
 refine d_lits 11 rfl (by kernel_rfl) rfl rfl rfl (by rfl) (by rfl) (by rfl) (by decide) (by decide) (by rfl) .free rfl (.inr heldx) ?_
 intro b35
 refine d_appendB 12 (B := y.B) (xs := y.xs) (ys := [.string (str z), .string (str (a.mk tk n).e.tree.atom), .slice o1 (a.mk tk n).e.tree.parts.length k1]) (m := y.ns.length) (c := y.c) rfl (by kernel_rfl) rfl (by intro kk; simp) (by rfl) (by rw [hu1]; rfl) rfl hy.buf (fun _ h => h.uu7) (by rfl) (fun a ha => by cases ha; exact reads_ownL (.head _) (by rfl)) (by simp) (by rfl) (by decide) (by omega) (by decide) .free rfl (fun _ => .inr heldx) ?_
 intro B2 c3 hB2
 obtain ⟨bq2, sq, rfl⟩ : ∃ bq sq, B2 = some (bq, sq) := by
  cases B2 with
  | none => exact absurd hB2.1 (by simp)
  | some z => exact ⟨z.1, z.2, rfl⟩
 simp only [bufOwn, List.cons_append, List.nil_append]
 refine Da 13 rfl (y_nilCheck rfl) ?_
 refine d_st 14 rfl (by kernel_rfl) rfl rfl rfl rfl rfl .free (.inl (by kernel_rfl)) ?_ (hu := upd7)
 refine d_done (by kernel_rfl) ?_
 refine s_seq ?_
 have g2 := b.mk_g tk (a.mk tk n).n
 have mh2 := b.mk_hits tk (a.mk tk n).n
 have lp2 := b.mk_len tk (a.mk tk n).n
 have hln : y.ns.length + 1 = (y.ns ++ [(z, (a.mk tk n).e)]).length := by simp
 have hlx : (y.ns ++ [(z, (a.mk tk n).e)]).length + b.size ≤ 100000 := by rw [← hln]; omega
 have hBx : BufOk 3 (y.ns ++ [(z, (a.mk tk n).e)]).length c3 _ (some (bq2, sq)) := hln ▸ hB2
 refine o_enter rfl ?_
 refine Om rfl ?_
 refine o_fieldAddr rfl .free rfl ?_
 refine o_lO1 rfl .free rfl ?_
 first | refine o_ixD rfl rfl 3 rfl .free rfl ?_ | refine o_ixP rfl rfl 3 rfl .free rfl ?_
 refine o_lIS rfl .free rfl ?_
 refine Om rfl ?_
 rw [show y.ns.length + 1 = (y.ns ++ [(z, (a.mk tk n).e)]).length from hln]
 refine o_mem (L' := NZ.own b0 bq tk (g + (a.mk tk n).g) (a.mk tk n).n bn (NZ.mk (y.ns ++ [(z, (a.mk tk n).e)]) (some (bq2, sq)) c3 (y.xs ++ [Value.string (str z), Value.string (str (a.mk tk n).e.tree.atom), Value.slice o1 (a.mk tk n).e.tree.parts.length k1])) ((b35, _) :: (b7, _) :: (b6, _) :: (b4, _) :: L)) (fun w h => Mem.let5 h) ?_
 refine o_call rfl .free rfl (ihn ht (by omega) (hf.as 3 b.tree (by omega) rfl) hok.2 tk b0 bq bn (g + (a.mk tk n).g) (a.mk tk n).n (by omega) (by omega) (NZ.mk (y.ns ++ [(z, (a.mk tk n).e)]) (some (bq2, sq)) c3 (y.xs ++ [Value.string (str z), Value.string (str (a.mk tk n).e.tree.atom), Value.slice o1 (a.mk tk n).e.tree.parts.length k1])) ⟨hBx, hy.rep.append (.cons hzl hr .nil)⟩ hlx _) ?_
 rintro _ J2 _ e2 ⟨cs2, y2, rfl, hr2, hy2, hy2n, rfl⟩
 obtain ⟨o2, k2', _, rfl, -⟩ := hr2.open
 unfold NZ.own
 refine o_mem (fun w h => Mem.vk4 h) ?_
 refine o_st rfl rfl rfl rfl .free ?_
 refine o_done ?_
 refine s_ret (.c rfl .nil) ?_
 refine ⟨J2, _, e1.trans e2, fun w h => h.drop.drop.drop.drop, _, y2, rfl, hr2, hy2, by simp only [hy2n, hyn, List.append_assoc, List.cons_append, List.nil_append], ?_⟩
 simp only [NZ.own, Nat.add_assoc]
set_option maxHeartbeats 1000000 in
theorem nmake_fn {N : Nat} (ihn : NMakeH N) {h1 z : Txt} {s u : Ty} {b : Ex} {I : Heap} (ht : Tab I) {cs : List Value} (hlt : SizeOf.sizeOf (Ex.fn h1 z s u b) < N + 1) (h : Rep I (Ex.fn h1 z s u b).tree cs) (hok : (Ex.fn h1 z s u b).ok = true) (tk : List Txt) (b0 bq bn g n : Nat) (hn : n + (Ex.fn h1 z s u b).size + tk.length ≤ 900 + hits 121 tk n) (hg : g + (Ex.fn h1 z s u b).size ≤ 1000) (x : NZ) (hx : x.ok I) (hxl : x.ns.length + (Ex.fn h1 z s u b).size ≤ 100000) (L : Own) :
  Fun Tryz.prog 45 [.pointer (some ⟨b0, 0, none⟩), .agg cs.toArray, .pointer (some ⟨bn, 0, none⟩)] I (x.own b0 bq tk g n bn L) (NP b0 bq tk g bn x ((Ex.fn h1 z s u b).mk tk n) L) := by
 obtain ⟨oa, c, oaf, cf1, rfl, hf, hcl, hcs⟩ := h.cells
 have hle : HLe I I := .refl _
 have hh0 := hits_le 121 tk n
 have hpos : 0 < (Ex.fn h1 z s u b).tree.parts.length := by show 0 < 6; decide
 obtain ⟨xa, rfl⟩ : ∃ xa, oa = some xa := ⟨_, some_oad hf.nil hpos⟩
 have hlen : (Ex.fn h1 z s u b).tree.parts.length = 6 := rfl
 have hp := hf.len
 have hpe : (Ex.fn h1 z s u b).tree.parts.isEmpty = false := rfl
 have hpe2 : ¬ (Ex.fn h1 z s u b).tree.parts = [] := fun e => by rw [e] at hlen; cases hlen
 have hki := kids_fn h1 z s u b
 have hhd : (Ex.fn h1 z s u b).tree.head = tFun := rfl
 have hxl2 : ¬ (Ex.fn h1 z s u b).tree.head = [108, 101, 116] := (by decide : ¬ tFun = tLet)
 have hxl2d : ¬ tFun = [108, 101, 116] := (by decide : ¬ tFun = tLet)
 have hxf :  (Ex.fn h1 z s u b).tree.head = [102, 117, 110] := rfl
 have hxfd :  tFun = [102, 117, 110] := rfl
 have hxi : ¬ (Ex.fn h1 z s u b).tree.head = [105, 102] := (by decide : ¬ tFun = tIf)
 have hxid : ¬ tFun = [105, 102] := (by decide : ¬ tFun = tIf)
 simp only [Ex.fn.sizeOf_spec] at hlt
 simp only [Ex.ok, Bool.and_eq_true, decide_eq_true_eq] at hok
 simp only [Ex.size] at hn hg hxl
 simp only [Ex.mk]
 unfold NZ.own
 refine fun_intro (by simp) ?_
 refine Se rfl ?_
 refine o_box rfl rfl .free rfl ?_
 intro b4
 refine o_alloc .free rfl ?_
 intro b6
 refine o_done ?_
 refine s_seq ?_
 refine Se rfl ?_
 refine o_lOS rfl .free rfl ?_
 refine o_call rfl .free rfl (f_form_isAtom hf.rep _) ?_
 rintro _ _ _ _ ⟨rfl, rfl, rfl⟩
 refine o_done ?_
 first | refine s_fp rfl (hpe) ?_ | refine s_fn rfl (hpe) ?_ | refine s_false (by simp [look, opd, *]) ?_
 refine s_skip ?_
 refine s_seq ?_
 refine Se rfl ?_
 refine o_lOS rfl .free rfl ?_
 refine o_call rfl .free rfl (f_form_head hf.rep _) ?_
 rintro _ _ _ _ ⟨rfl, rfl, rfl⟩
 refine o_cmps rfl rfl rfl .free rfl ?_
 refine o_done ?_
 first | refine s_fp rfl hxl2 ?_ | refine s_fn rfl hxl2 ?_ | refine s_false (by simp [look, opd, *]) ?_
 refine s_skip ?_
 refine Se rfl ?_
 refine o_fieldAddr rfl .free rfl ?_
 refine o_lO1 rfl .free rfl ?_
 refine o_call rfl .free rfl (f_slices_Clone (hcs _ rfl) (by have := hcl.length; omega) hcl.plain hpos hp _) ?_
 rintro _ _ _ _ ⟨bc, sp, cc, rfl, hcc, rfl, rfl⟩
 simp only [show (Ex.fn h1 z s u b).tree.parts = [.node tFun [], .node h1 [], .node z [], s.tree, u.tree, b.tree] from rfl, cellsF, List.cons_append, List.nil_append]
 refine o_struct rfl rfl rfl .free rfl ?_
 refine o_alloc .free rfl ?_
 intro b8
 refine o_st rfl rfl rfl rfl .free ?_
 refine o_done ?_
 refine s_seq ?_
 refine Se rfl ?_
 refine o_lOS rfl .free rfl ?_
 refine o_call rfl .free rfl (f_form_kids hf.rep _) ?_
 rintro _ J _ e0 ⟨ok, ck, rfl, hk1, rfl⟩
 have hf := hf.mono e0
 have ht := ht.mono e0
 have hx := hx.mono e0
 have hle := hle.trans e0
 rw [hki] at hk1
 rw [hki]
 refine o_len_slice rfl .free rfl ?_
 refine Om rfl ?_
 refine o_done ?_
 refine s_block ?_
 refine s_loop ?_
 refine Se rfl ?_
 refine o_cmp rfl rfl rfl .free rfl ?_
 refine o_done ?_
 refine s_seq ?_
 refine s_condT rfl (by first | rfl | decide | (simp; done) | omega) ?_
 refine s_skip ?_
 refine s_seq ?_
 refine s_block ?_
 refine Se rfl ?_
 first | refine o_ixD rfl rfl _ rfl .free rfl ?_ | refine o_ixP rfl rfl _ rfl .free rfl ?_
 refine o_lI1 rfl .free rfl ?_
 refine Oa rfl ?_
 refine o_done ?_
 refine Se rfl ?_
 refine o_lOS rfl .free rfl ?_
 refine o_call rfl .free rfl (f_form_head hf.rep _) ?_
 rintro _ _ _ _ ⟨rfl, rfl, rfl⟩
 refine o_cmps rfl rfl rfl .free rfl ?_
 refine Om rfl ?_
 apply o_or 59 67 rfl
 ·intro g11_4 hk
  try simp only [nb] at g11_4
  refine o_lOS rfl (.met rfl rfl) rfl ?_
  refine o_call rfl (.met rfl rfl) rfl (f_form_head hf.rep _) ?_
  rintro _ _ _ _ ⟨rfl, rfl, rfl⟩
  refine o_cmps rfl rfl rfl (.met rfl rfl) rfl ?_
  refine o_move rfl (.met rfl rfl) rfl ?_
  apply o_and 63 66 rfl
  ·intro g11_8 hk
   try simp only [nb] at g11_8
   refine o_move rfl (.met rfl rfl) rfl ?_
   refine o_cmp rfl rfl rfl (.met rfl rfl) rfl ?_
   refine o_pick_true rfl rfl (.met rfl rfl) rfl ?_
   exact o_fin 2 rfl rfl hk
  ·intro _ hk
   refine o_skips 2 rfl ?_
   refine o_pick_false rfl rfl (.met rfl rfl) rfl ?_
   exact o_fin 2 rfl rfl hk
  refine o_pick_false rfl rfl .free rfl ?_
  exact o_fin 5 rfl rfl hk
 ·intro _ hk
  refine o_skips 7 rfl ?_
  refine o_pick_true rfl rfl .free rfl ?_
  exact o_fin 7 rfl rfl hk
 refine o_done ?_
 first | refine s_tp rfl (by simp [hxf, hxfd]) ?_ | refine s_tn rfl (by simp [hxf, hxfd]) ?_ | refine s_true (by simp [look, opd, *]) ?_
 refine s_here fun hlr => ?_
 have g1 := b.mk_g tk n
 have mh1 := b.mk_hits tk n
 have hz1 := hits_le 121 tk n
 refine d_o4 12 rfl rfl ?_
 refine Da 0 rfl (y_fieldAddr rfl) ?_
 refine Dt 1 [11] rfl (y_lO1 rfl) ?_
 refine Da 2 rfl (y_move rfl) ?_
 refine Da 3 rfl (y_move rfl) ?_
 refine Da 4 rfl (y_fieldAddr rfl) ?_
 refine Dt 5 [11] rfl (y_lO1 rfl) ?_
 refine Da 6 rfl (y_move rfl) ?_
 first | refine Da 7 rfl (y_ixD rfl rfl _ rfl) ?_ | refine Da 7 rfl (y_ixP rfl rfl _ rfl) ?_
 refine Dt 8 [11] rfl (y_lIS rfl) ?_
 refine d_mem (fun w h => Mem.nq4 h) ?_
 refine d_call 9 rfl (by kernel_rfl) rfl rfl .free rfl (nnormal_of ihn ht (by omega) (hf.as 5 b.tree (by omega) rfl) hok.2 tk b0 bq (g) n (by omega) (by omega) (by omega) _) ?_
 rintro _ J1 _ e1 ⟨cs1, rfl, hr_1, rfl⟩
 obtain ⟨o1, k1, _, rfl, -⟩ := hr_1.open
 have hlr := hlr.trans e1
 have hf := hf.mono e1
 have ht := ht.mono e1
 have hle := hle.trans e1
 have hk1 := hk1.mono e1
 have hx := hx.mono e1
 refine ⟨(.inr heldx), ?_⟩
 refine d_mem (fun w h => Mem.qn4 h) ?_
 first | refine Da 10 rfl (y_ixD rfl rfl _ rfl) ?_ | refine Da 10 rfl (y_ixP rfl rfl _ rfl) ?_
 refine d_st 11 rfl (by kernel_rfl) rfl rfl rfl rfl rfl .free (.inl (by kernel_rfl)) ?_
 refine d_done (by kernel_rfl) ?_
 refine s_inBlock ?_
 refine o_enter rfl ?_
 refine o_arith rfl rfl rfl (by omega) .free rfl ?_
 refine Om rfl ?_
 refine o_done ?_
 refine s_round ?_
 refine Se rfl ?_
 refine o_cmp rfl rfl rfl .free rfl ?_
 refine o_done ?_
 refine s_seq ?_
 refine s_condF rfl (by first | rfl | decide | (simp; done) | omega) ?_
 refine s_exit rfl ?_
 refine Se rfl ?_
 refine o_lOS rfl .free rfl ?_
 refine o_st rfl rfl rfl rfl .free ?_
 refine o_done ?_
 refine s_mem (fun w h => h.f1) (s_freeze ?_)
 intro hz
 have hf := hf.mono hz
 refine s_ret (.c rfl .nil) ?_
 refine ⟨_, _, hle.trans hz, fun w h => h.drop.drop.drop, _, x, rfl, .mk' rfl (.cons (hf.as 0 (.node tFun []) (by omega) rfl) (.cons (hf.as 1 (.node h1 []) (by omega) rfl) (.cons (hf.as 2 (.node z []) (by omega) rfl) (.cons (hf.as 3 s.tree (by omega) rfl) (.cons (hf.as 4 u.tree (by omega) rfl) (.cons (hr_1.mono hz) (.nil))))))) (fun y hy => by cases hy; exact still_set (xs := [_, _, _, _, _, _, _, _, _, _, _, _])) (by simp) hcc (by simp [maxN]) (by simp [maxN]), hx.mono hz, by simp, ?_⟩
 simp only [NZ.own, Nat.add_assoc]
set_option maxHeartbeats 1000000 in
theorem nmake_un {N : Nat} (ihn : NMakeH N) {o : U2} {a : Ex} {I : Heap} (ht : Tab I) {cs : List Value} (hlt : SizeOf.sizeOf (Ex.un o a) < N + 1) (h : Rep I (Ex.un o a).tree cs) (hok : (Ex.un o a).ok = true) (tk : List Txt) (b0 bq bn g n : Nat) (hn : n + (Ex.un o a).size + tk.length ≤ 900 + hits 121 tk n) (hg : g + (Ex.un o a).size ≤ 1000) (x : NZ) (hx : x.ok I) (hxl : x.ns.length + (Ex.un o a).size ≤ 100000) (L : Own) :
  Fun Tryz.prog 45 [.pointer (some ⟨b0, 0, none⟩), .agg cs.toArray, .pointer (some ⟨bn, 0, none⟩)] I (x.own b0 bq tk g n bn L) (NP b0 bq tk g bn x ((Ex.un o a).mk tk n) L) := by
 obtain ⟨oa, c, oaf, cf1, rfl, hf, hcl, hcs⟩ := h.cells
 have hle : HLe I I := .refl _
 have hh0 := hits_le 121 tk n
 have hpos : 0 < (Ex.un o a).tree.parts.length := by show 0 < 2; decide
 obtain ⟨xa, rfl⟩ : ∃ xa, oa = some xa := ⟨_, some_oad hf.nil hpos⟩
 have hlen : (Ex.un o a).tree.parts.length = 2 := rfl
 have hp := hf.len
 have hpe : (Ex.un o a).tree.parts.isEmpty = false := rfl
 have hpe2 : ¬ (Ex.un o a).tree.parts = [] := fun e => by rw [e] at hlen; cases hlen
 have hki := kids_un o a
 have hhd : (Ex.un o a).tree.head = o.txt := rfl
 have hxl2 : ¬ (Ex.un o a).tree.head = [108, 101, 116] := o.txt_ne.2.1
 have hxl2d : ¬ o.txt = [108, 101, 116] := o.txt_ne.2.1
 have hxf : ¬ (Ex.un o a).tree.head = [102, 117, 110] := o.txt_ne.2.2.1
 have hxfd : ¬ o.txt = [102, 117, 110] := o.txt_ne.2.2.1
 have hxi : ¬ (Ex.un o a).tree.head = [105, 102] := o.txt_ne.1
 have hxid : ¬ o.txt = [105, 102] := o.txt_ne.1
 simp only [Ex.un.sizeOf_spec] at hlt
 simp only [Ex.ok, Bool.and_eq_true, decide_eq_true_eq] at hok
 simp only [Ex.size] at hn hg hxl
 simp only [Ex.mk]
 unfold NZ.own
 refine fun_intro (by simp) ?_
 refine Se rfl ?_
 refine o_box rfl rfl .free rfl ?_
 intro b4
 refine o_alloc .free rfl ?_
 intro b6
 refine o_done ?_
 refine s_seq ?_
 refine Se rfl ?_
 refine o_lOS rfl .free rfl ?_
 refine o_call rfl .free rfl (f_form_isAtom hf.rep _) ?_
 rintro _ _ _ _ ⟨rfl, rfl, rfl⟩
 refine o_done ?_
 first | refine s_fp rfl (hpe) ?_ | refine s_fn rfl (hpe) ?_ | refine s_false (by simp [look, opd, *]) ?_
 refine s_skip ?_
 refine s_seq ?_
 refine Se rfl ?_
 refine o_lOS rfl .free rfl ?_
 refine o_call rfl .free rfl (f_form_head hf.rep _) ?_
 rintro _ _ _ _ ⟨rfl, rfl, rfl⟩
 refine o_cmps rfl rfl rfl .free rfl ?_
 refine o_done ?_
 first | refine s_fp rfl hxl2 ?_ | refine s_fn rfl hxl2 ?_ | refine s_false (by simp [look, opd, *]) ?_
 refine s_skip ?_
 refine Se rfl ?_
 refine o_fieldAddr rfl .free rfl ?_
 refine o_lO1 rfl .free rfl ?_
 refine o_call rfl .free rfl (f_slices_Clone (hcs _ rfl) (by have := hcl.length; omega) hcl.plain hpos hp _) ?_
 rintro _ _ _ _ ⟨bc, sp, cc, rfl, hcc, rfl, rfl⟩
 simp only [show (Ex.un o a).tree.parts = [.node o.txt [], a.tree] from rfl, cellsF, List.cons_append, List.nil_append]
 refine o_struct rfl rfl rfl .free rfl ?_
 refine o_alloc .free rfl ?_
 intro b8
 refine o_st rfl rfl rfl rfl .free ?_
 refine o_done ?_
 refine s_seq ?_
 refine Se rfl ?_
 refine o_lOS rfl .free rfl ?_
 refine o_call rfl .free rfl (f_form_kids hf.rep _) ?_
 rintro _ J _ e0 ⟨ok, ck, rfl, hk1, rfl⟩
 have hf := hf.mono e0
 have ht := ht.mono e0
 have hx := hx.mono e0
 have hle := hle.trans e0
 rw [hki] at hk1
 rw [hki]
 refine o_len_slice rfl .free rfl ?_
 refine Om rfl ?_
 refine o_done ?_
 refine s_block ?_
 refine s_loop ?_
 refine Se rfl ?_
 refine o_cmp rfl rfl rfl .free rfl ?_
 refine o_done ?_
 refine s_seq ?_
 refine s_condT rfl (by first | rfl | decide | (simp; done) | omega) ?_
 refine s_skip ?_
 refine s_seq ?_
 refine s_block ?_
 refine Se rfl ?_
 first | refine o_ixD rfl rfl _ rfl .free rfl ?_ | refine o_ixP rfl rfl _ rfl .free rfl ?_
 refine o_lI1 rfl .free rfl ?_
 refine Oa rfl ?_
 refine o_done ?_
 refine Se rfl ?_
 refine o_lOS rfl .free rfl ?_
 refine o_call rfl .free rfl (f_form_head hf.rep _) ?_
 rintro _ _ _ _ ⟨rfl, rfl, rfl⟩
 refine o_cmps rfl rfl rfl .free rfl ?_
 refine Om rfl ?_
 apply o_or 59 67 rfl
 ·intro g11_4 hk
  try simp only [nb] at g11_4
  refine o_lOS rfl (.met rfl rfl) rfl ?_
  refine o_call rfl (.met rfl rfl) rfl (f_form_head hf.rep _) ?_
  rintro _ _ _ _ ⟨rfl, rfl, rfl⟩
  refine o_cmps rfl rfl rfl (.met rfl rfl) rfl ?_
  refine o_move rfl (.met rfl rfl) rfl ?_
  apply o_and 63 66 rfl
  ·intro g11_8 hk
   try simp only [nb] at g11_8
   refine o_move rfl (.met rfl rfl) rfl ?_
   refine o_cmp rfl rfl rfl (.met rfl rfl) rfl ?_
   refine o_pick_true rfl rfl (.met rfl rfl) rfl ?_
   exact o_fin 2 rfl rfl hk
  ·intro _ hk
   refine o_skips 2 rfl ?_
   refine o_pick_false rfl rfl (.met rfl rfl) rfl ?_
   exact o_fin 2 rfl rfl hk
  refine o_pick_false rfl rfl .free rfl ?_
  exact o_fin 5 rfl rfl hk
 ·intro _ hk
  refine o_skips 7 rfl ?_
  refine o_pick_true rfl rfl .free rfl ?_
  exact o_fin 7 rfl rfl hk
 refine o_done ?_
 first | refine s_fp rfl (by simp [hxf, hxi, hxfd, hxid]) ?_ | refine s_fn rfl (by simp [hxf, hxi, hxfd, hxid]) ?_ | refine s_false (by simp [look, opd, *]) ?_
 refine s_here fun hlr => ?_
 have g1 := a.mk_g tk n
 have mh1 := a.mk_hits tk n
 have gp1 := MK.pt_g tk _ g1.1 g1.2
 have mp1 := MK.pt_hits tk _ mh1
 have lp1 := MK.pt_len tk _ (a.mk_len tk n)
 have hz1 := hits_le 121 tk n
 refine d_q4 13 rfl rfl ?_
 refine Da 0 rfl (y_fieldAddr rfl) ?_
 refine Dt 1 [12] rfl (y_lO1 rfl) ?_
 refine Da 2 rfl (y_move rfl) ?_
 refine Da 3 rfl (y_move rfl) ?_
 refine Da 4 rfl (y_fieldAddr rfl) ?_
 refine Dt 5 [12] rfl (y_lO1 rfl) ?_
 refine Da 6 rfl (y_move rfl) ?_
 first | refine Da 7 rfl (y_ixD rfl rfl _ rfl) ?_ | refine Da 7 rfl (y_ixP rfl rfl _ rfl) ?_
 refine Dt 8 [12] rfl (y_lIS rfl) ?_
 refine Da 9 rfl (y_move rfl) ?_
 refine d_mem (fun w h => Mem.kv4 h) ?_
 refine d_call 10 rfl (by kernel_rfl) rfl rfl .free rfl (nbare_of ihn ht (by omega) (hf.as 1 a.tree (by omega) rfl) hok tk b0 bq bn (g) n (by omega) (by omega) x hx (by omega) _) ?_
 rintro _ J1 _ e1 ⟨cs1, y1, rfl, hr_1, hy1, hy1n, rfl⟩
 obtain ⟨o1, k1, _, rfl, -⟩ := hr_1.open
 have hy1l : y1.ns.length = x.ns.length + ((a.mk tk n).pt tk).ns.length := by rw [hy1n]; simp
 have hlr := hlr.trans e1
 have hf := hf.mono e1
 have ht := ht.mono e1
 have hle := hle.trans e1
 have hk1 := hk1.mono e1
 unfold NZ.own
 refine ⟨(.inr heldx), ?_⟩
 refine d_mem (fun w h => Mem.vk4 h) ?_
 first | refine Da 11 rfl (y_ixD rfl rfl _ rfl) ?_ | refine Da 11 rfl (y_ixP rfl rfl _ rfl) ?_
 refine d_st 12 rfl (by kernel_rfl) rfl rfl rfl rfl rfl .free (.inl (by kernel_rfl)) ?_
 refine d_done (by kernel_rfl) ?_
 refine s_inBlock ?_
 refine o_enter rfl ?_
 refine o_arith rfl rfl rfl (by omega) .free rfl ?_
 refine Om rfl ?_
 refine o_done ?_
 refine s_round ?_
 refine Se rfl ?_
 refine o_cmp rfl rfl rfl .free rfl ?_
 refine o_done ?_
 refine s_seq ?_
 refine s_condF rfl (by first | rfl | decide | (simp; done) | omega) ?_
 refine s_exit rfl ?_
 refine Se rfl ?_
 refine o_lOS rfl .free rfl ?_
 refine o_st rfl rfl rfl rfl .free ?_
 refine o_done ?_
 refine s_mem (fun w h => h.f1) (s_freeze ?_)
 intro hz
 have hf := hf.mono hz
 refine s_ret (.c rfl .nil) ?_
 refine ⟨_, _, hle.trans hz, fun w h => h.drop.drop.drop, _, y1, rfl, .mk' rfl (.cons (hf.as 0 (.node o.txt []) (by omega) rfl) (.cons (hr_1.mono hz) (.nil))) (fun y hy => by cases hy; exact still_set (xs := [_, _, _, _])) (by simp) hcc (by simp [maxN]) (by simp [maxN]), hy1.mono hz, by simp only [hy1n], ?_⟩
 simp only [NZ.own, Nat.add_assoc]
theorem nmake_atom {e : Ex} {I : Heap} {cs : List Value} (hb : e.bare = true) (h : Rep I e.tree cs) (hok : e.ok = true) (tk : List Txt) (b0 bq bn g n : Nat) (x : NZ) (hx : x.ok I) (L : Own) :
  Fun Tryz.prog 45 [.pointer (some ⟨b0, 0, none⟩), .agg cs.toArray, .pointer (some ⟨bn, 0, none⟩)] I (x.own b0 bq tk g n bn L) (NP b0 bq tk g bn x (e.mk tk n) L) := by
 obtain ⟨oa, c, oaf, cf1, rfl, hf⟩ := h.at'
 have hm : e.mk tk n = ⟨e, [], n, 0⟩ := by cases e <;> first | rfl | cases hb
 rw [hm]
 have hpe : e.tree.parts.isEmpty = true := by rw [← Ex.bare_parts]; exact hb
 have hpe2 : e.tree.parts = [] := List.isEmpty_iff.1 hpe
 unfold NZ.own
 refine fun_intro (by simp) ?_
 refine Se rfl ?_
 refine o_box rfl rfl .free rfl ?_
 intro b4
 refine o_alloc .free rfl ?_
 intro b6
 refine o_done ?_
 refine s_seq ?_
 refine Se rfl ?_
 refine o_lOS rfl .free rfl ?_
 refine o_call rfl .free rfl (f_form_isAtom hf.rep _) ?_
 rintro _ _ _ _ ⟨rfl, rfl, rfl⟩
 refine o_done ?_
 first | refine s_tp rfl (hpe) ?_ | refine s_tn rfl (hpe) ?_ | refine s_true (by simp [look, opd, *]) ?_
 refine Se rfl ?_
 refine o_lOS rfl .free rfl ?_
 refine o_st rfl rfl rfl rfl .free ?_
 refine o_done ?_
 refine s_ret (.c rfl .nil) ?_
 exact ⟨I, _, .refl _, fun w h => h.drop.drop, _, x, rfl, hf.rep, hx, by simp, rfl⟩
theorem nmake_all : ∀ N : Nat, NMakeH N := by
 intro N
 induction N with
 | zero => intro I ht e cs h; omega
 | succ N ihn =>
  intro I ht e cs hlt h hok tk b bq bn g n hn hg x hx hxl L
  cases hb : e.bare with
  | true => exact nmake_atom hb h hok tk b bq bn g n x hx L
  | false =>
   cases e with
   | num s => cases hb
   | name s => cases hb
   | bin o p q => exact nmake_bin ihn ht hlt h hok tk b bq bn g n hn hg x hx hxl L
   | ite p q r => exact nmake_ite ihn ht hlt h hok tk b bq bn g n hn hg x hx hxl L
   | lt z p q => exact nmake_lt ihn ht hlt h hok tk b bq bn g n hn hg x hx hxl L
   | fn h1 z s u q => exact nmake_fn ihn ht hlt h hok tk b bq bn g n hn hg x hx hxl L
   | un o p => exact nmake_un ihn ht hlt h hok tk b bq bn g n hn hg x hx hxl L
end Go.Proofs.YtdgpnibnogdllaaGreatDoor


/- Fresh plain names, by the program. No conditions. -/
namespace Go.Proofs.YtdgpnibnogdllaaGreatDoor
set_option maxRecDepth 100000
set_option linter.unusedVariables false
set_option linter.unusedSimpArgs false

/-- The program's namer. -/
def pn (b : Nat) (oa : Option Addr) (av : List Txt) (c g n : Nat) : Nat × Obj := (b, .cells [.slice oa av.length c, .int .i64 (g : Nat), .int .i64 (n : Nat)].toArray 80 (0, 0))
theorem f_plainer_name {I : Heap} {oa : Option Addr} {av : List Txt} {c : Nat} (hav : Strs I oa av c) (b g n : Nat) (hn : fr 120 av n < 100) (hg : g ≤ 1000000) (L : Own) :
  Fun Tryz.prog 71 [.pointer (some ⟨b, 0, none⟩)] I (pn b oa av c g n :: L) (fun v I' L' => v = .string (str (nm 120 (fr 120 av n))) ∧ I = I' ∧ L' = pn b oa av c (g + 1) (fr 120 av n + 1) :: L) := by
 obtain ⟨f1, f2, f3⟩ := fr_facts 120 av n
 refine fun_intro (by simp) ?_
 refine Se rfl ?_
 refine Oa rfl ?_
 refine o_done ?_
 refine s_block ?_
 refine s_while (X := Nat) (fun m => fr 120 av n + 1 - m) (fun m => [(0, .pointer (some ⟨b, 0, none⟩))]) (fun _ => I) (fun m => pn b oa av c g m :: L) (fun m => n ≤ m ∧ m ≤ fr 120 av n ∧ ∀ j, n ≤ j → j < m → nm 120 j ∈ av) n ⟨Nat.le_refl _, f2, fun j h1 h2 => absurd h2 (by omega)⟩ ⟨rfl, trivial⟩ (fun _ h => h) ?_
 rintro m ⟨hm1, hm2, hm3⟩ ih
 unfold pn
 have hdl := decT_len (n := m) (by omega)
 refine s_block ?_
 refine Se rfl ?_
 refine Om rfl ?_
 refine o_nilCheck rfl .free rfl ?_
 first | refine o_fieldAddr rfl .free rfl ?_ | refine o_fieldAddr' rfl .free rfl ?_
 refine o_lJ rfl .free rfl ?_
 refine o_call rfl .free rfl (f_strconv_Itoa m (by omega) _ _) ?_
 rintro _ _ _ _ ⟨rfl, rfl, rfl⟩
 refine o_concat rfl rfl (by first | omega | (simp only [List.length_append, List.length_cons, List.length_nil]; omega) | (simp; omega)) .free rfl ?_
 refine Oa rfl ?_
 refine o_done ?_
 refine Se rfl ?_
 refine Om rfl ?_
 refine o_nilCheck rfl .free rfl ?_
 first | refine o_fieldAddr rfl .free rfl ?_ | refine o_fieldAddr' rfl .free rfl ?_
 refine o_lJ rfl .free rfl ?_
 refine o_arith rfl rfl rfl (by omega) .free rfl ?_
 refine o_nilCheck rfl .free rfl ?_
 first | refine o_fieldAddr rfl .free rfl ?_ | refine o_fieldAddr' rfl .free rfl ?_
 refine o_st rfl rfl rfl rfl .free ?_
 refine o_done ?_
 refine Se rfl ?_
 refine Om rfl ?_
 refine o_nilCheck rfl .free rfl ?_
 first | refine o_fieldAddr rfl .free rfl ?_ | refine o_fieldAddr' rfl .free rfl ?_
 refine o_lJ rfl .free rfl ?_
 refine Om rfl ?_
 refine o_call rfl .free rfl (f_slices_Contains (hav.rd _) c (nm 120 m)) ?_
 rintro _ _ _ _ ⟨rfl, rfl, rfl⟩
 refine o_not rfl .free rfl ?_
 refine o_done ?_
 refine s_cond rfl ?_ ?_
 ·intro c0
  try simp only [nb] at c0
  refine Se rfl ?_
  refine Om rfl ?_
  refine o_nilCheck rfl .free rfl ?_
  first | refine o_fieldAddr rfl .free rfl ?_ | refine o_fieldAddr' rfl .free rfl ?_
  refine o_lJ rfl .free rfl ?_
  refine o_arith rfl rfl rfl (by omega) .free rfl ?_
  refine o_nilCheck rfl .free rfl ?_
  first | refine o_fieldAddr rfl .free rfl ?_ | refine o_fieldAddr' rfl .free rfl ?_
  refine o_st rfl rfl rfl rfl .free ?_
  refine o_done ?_
  refine Se rfl ?_
  refine Om rfl ?_
  refine Oa rfl ?_
  refine o_done ?_
  refine s_ret (.tmp rfl .nil) ?_
  have hfm : fr 120 av n = m := fr_stop hm3 hm1 c0
  exact ⟨I, _, .refl _, fun _ h => h, by rw [hfm]; rfl, rfl, by rw [hfm]; rfl⟩
 intro c0
 try simp only [nb] at c0
 refine s_skip ?_
 refine s_inBlock ?_
 have hne : m ≠ fr 120 av n := fun e => f1 (e ▸ c0)
 refine s_env (E' := [(0, .pointer (some ⟨b, 0, none⟩))]) ⟨rfl, trivial⟩ (ih (m + 1) ⟨by omega, by omega, fun j h1 h2 => ?_⟩ (by omega))
 by_cases hj : j = m
 ·subst hj; exact c0
 ·exact hm3 j h1 (by omega)
end Go.Proofs.YtdgpnibnogdllaaGreatDoor


/- Plain names given to an expression, by the program. No conditions. -/
namespace Go.Proofs.YtdgpnibnogdllaaGreatDoor
set_option maxRecDepth 100000
set_option linter.unusedVariables false
set_option linter.unusedSimpArgs false

def PE (b : Nat) (oa : Option Addr) (av : List Txt) (c g : Nat) (p : Ex × Nat) (L : Own) : Post := fun v I' L' => ∃ cs, v = .agg (List.toArray cs) ∧ Rep I' p.1.tree cs ∧ L' = pn b oa av c g p.2 :: L
set_option maxHeartbeats 2000000 in
theorem f_plainer_expr : ∀ (n : Nat) {I : Heap} {e : Ex} {cs : List Value} (_ : SizeOf.sizeOf e < n) (_ : Rep I e.tree cs) (_ : e.ok = true) {f t : List Txt} {of ot : Option Addr} {cf ct : Nat} (_ : Strs I of f cf) (_ : Strs I ot t ct) (_ : f.length = t.length) (_ : namesL f) (_ : f.length + 2 * e.size ≤ 100000)
  {oa : Option Addr} {av : List Txt} {c : Nat} (_ : Strs I oa av c) (b g k : Nat) (_ : k + e.nb + av.length ≤ 90 + hits 120 av k) (_ : g + e.nb ≤ 100000) (L : Own),
  Fun Tryz.prog 43 [.pointer (some ⟨b, 0, none⟩), .agg cs.toArray, .slice of f.length cf, .slice ot t.length ct] I (pn b oa av c g k :: L) (PE b oa av c (g + e.nb) (e.pl av f t k) L) := by
 intro n
 induction n with
 | zero => intro I e cs h; omega
 | succ n ihn =>
  intro I e cs hlt h hok f t of ot cf ct hfr hto hft hnf hfl ov av cv hav bp g k hk hg L
  obtain ⟨oa, c, oaf, cf1, rfl, hf, hcl, hcs⟩ := h.cells
  have hle : HLe I I := .refl _
  have ha := hf.alen
  have hh0 := hits_le 120 av k
  refine fun_intro (by simp) ?_
  refine Se rfl ?_
  refine o_box rfl rfl .free rfl ?_
  intro b5
  refine o_alloc .free rfl ?_
  intro b8
  refine o_done ?_
  refine s_seq ?_
  refine Se rfl ?_
  refine o_lOS rfl .free rfl ?_
  refine o_call rfl .free rfl (f_form_isAtom hf.rep _) ?_
  rintro _ _ _ _ ⟨rfl, rfl, rfl⟩
  refine o_done ?_
  refine s_cond rfl ?_ ?_
  ·intro c0
   try simp only [nb] at c0
   have hb : e.bare = true := by rw [Ex.bare_parts]; exact c0
   refine s_seq ?_
   refine Se rfl ?_
   refine Om rfl ?_
   refine o_fieldAddr rfl .free rfl ?_
   refine o_lO1 rfl .free rfl ?_
   refine o_call rfl .free rfl (f_lastIndex hfr e.tree.atom _) ?_
   rintro _ _ _ _ ⟨rfl, rfl, rfl⟩
   refine Oa rfl ?_
   refine o_done ?_
   refine Se rfl ?_
   refine Om rfl ?_
   refine o_cmp rfl rfl rfl .free rfl ?_
   refine o_done ?_
   refine s_cond rfl ?_ ?_
   ·intro c1
    try simp only [nb] at c1
    obtain ⟨i, hi⟩ : ∃ i, lastIdx f e.tree.atom = some i := by
     cases hi : lastIdx f e.tree.atom with
     | none => rw [hi] at c1; simp [idxVal] at c1
     | some i => exact ⟨i, rfl⟩
    have hil := (lastAt_lt (show lastAt f e.tree.atom f.length = some i from hi)).1
    have hit : i < t.length := by omega
    have hst := hto.st i hit
    rw [hi]
    refine Se rfl ?_
    refine Om rfl ?_
    refine Om rfl ?_
    first | refine o_ixD rfl rfl _ rfl .free rfl ?_ | refine o_ixP rfl rfl _ rfl .free rfl ?_
    refine o_lI1 rfl .free rfl ?_
    refine o_call rfl .free rfl (f_atom (t.getD i []) (by rw [show t.getD i [] = t[i] by simp [hit]]; exact hto.each _ (List.getElem_mem _)) _ _) ?_
    rintro _ _ _ _ ⟨rfl, rfl, rfl⟩
    refine o_st rfl rfl rfl rfl .free ?_
    refine o_done ?_
    refine s_ret (.c rfl .nil) ?_
    cases e with
    | name s =>
     have hi : lastIdx f s = some i := hi
     refine ⟨I, _, .refl _, fun w h => Mem.sub (L' := pn bp ov av cv g k :: L) (by repeat (first | exact List.Sublist.refl _ | apply List.Sublist.cons_cons | apply List.Sublist.cons)) h, _, rfl, ?_, rfl⟩
     show Rep I (.node (match lastIdx f s with | some i => t.getD i [] | none => s) []) _
     rw [hi]
     exact .ofAtom (show (t.getD i []).length ≤ maxN by rw [show t.getD i [] = t[i] by simp [hit]]; exact hto.each _ (List.getElem_mem _))
    | num s =>
     have h1 := name_not_num (hnf s (lastAt_mem hi))
     rw [show isNum s = true from hok] at h1; cases h1
    | _ => cases hb
   intro c1
   try simp only [nb] at c1
   refine s_skip ?_
   refine Se rfl ?_
   refine o_lOS rfl .free rfl ?_
   refine o_st rfl rfl rfl rfl .free ?_
   refine o_done ?_
   refine s_ret (.c rfl .nil) ?_
   cases e with
   | name s =>
    have hi : lastIdx f s = none := by
     cases hi : lastIdx f s with
     | none => rfl
     | some i => rw [show lastIdx f (Ex.name s).tree.atom = some i from hi] at c1; simp [idxVal] at c1
    refine ⟨I, _, .refl _, fun w h => Mem.sub (L' := pn bp ov av cv g k :: L) (by repeat (first | exact List.Sublist.refl _ | apply List.Sublist.cons_cons | apply List.Sublist.cons)) h, _, rfl, ?_, rfl⟩
    show Rep I (.node (match lastIdx f s with | some i => t.getD i [] | none => s) []) _
    rw [hi]; exact hf.rep
   | num s => exact ⟨I, _, .refl _, fun w h => Mem.sub (L' := pn bp ov av cv g k :: L) (by repeat (first | exact List.Sublist.refl _ | apply List.Sublist.cons_cons | apply List.Sublist.cons)) h, _, rfl, hf.rep, rfl⟩
   | _ => cases hb
  intro c0
  try simp only [nb] at c0
  have hb : e.bare = false := by rw [Ex.bare_parts]; exact c0
  have hsh := e.shapes hb
  have hok0 := hok
  have hpos : 0 < e.tree.parts.length := by
   rw [Ex.bare_parts] at hb
   have : e.tree.parts ≠ [] := by intro hh; rw [hh] at hb; cases hb
   exact List.length_pos_iff.2 this
  obtain ⟨xa, rfl⟩ : ∃ xa, oa = some xa := ⟨_, some_oad hf.nil hpos⟩
  have hp := hf.len
  refine s_skip ?_
  refine Se rfl ?_
  refine o_fieldAddr rfl .free rfl ?_
  refine o_lO1 rfl .free rfl ?_
  refine o_call rfl .free rfl (f_slices_Clone (hcs _ rfl) (by have := hcl.length; omega) hcl.plain hpos hp _) ?_
  rintro _ _ _ _ ⟨bc, sp, cc, rfl, hcc, rfl, rfl⟩
  refine o_struct rfl rfl rfl .free rfl ?_
  refine o_alloc .free rfl ?_
  intro b10
  refine o_st rfl rfl rfl rfl .free ?_
  refine o_done ?_
  refine s_seq ?_
  rcases hsh with ⟨o, a, b, rfl⟩ | ⟨a, b, d, rfl⟩ | ⟨z, a, b, rfl⟩ | ⟨h1, z, s, u, b, rfl⟩ | ⟨o, a, rfl⟩
  ·skip
   have hlen : (Ex.bin o a b).tree.parts.length = 3 := rfl
   have hki := kids_bin o a b
   have hhd : (Ex.bin o a b).tree.head = o.txt := rfl
   simp only [Ex.bin.sizeOf_spec] at hlt
   simp only [Ex.ok, Bool.and_eq_true, decide_eq_true_eq] at hok
   simp only [Ex.nb] at hk hg ⊢
   simp only [Ex.size] at hfl
   obtain ⟨_, hrl⟩ : ∃ _ : True, RepL I (Ex.bin o a b).tree.parts _ := ⟨trivial, hcl⟩
   simp only [show (Ex.bin o a b).tree.parts = [.node o.txt [], a.tree, b.tree] from rfl, cellsF, List.cons_append, List.nil_append] at hrl ⊢
   refine s_mem (fun w h => h.f4) ?_
   refine o_enter rfl ?_
   refine Oa rfl ?_
   refine o_done ?_
   refine s_seq ?_
   refine Se rfl ?_
   refine o_lOS rfl .free rfl ?_
   refine o_call rfl .free rfl (f_form_head hf.rep _) ?_
   rintro _ _ _ _ ⟨rfl, rfl, rfl⟩
   refine o_done ?_
   refine s_block ?_
   refine Se rfl ?_
   refine o_cmps rfl rfl rfl .free rfl ?_
   refine Oa rfl ?_
   refine o_done ?_
   first | refine s_fp rfl (by rw [hhd]; cases o <;> decide) ?_ | refine s_fn rfl (by rw [hhd]; cases o <;> decide) ?_ | refine s_false (by simp [look, opd, *]) ?_
   refine Se rfl ?_
   refine o_cmps rfl rfl rfl .free rfl ?_
   refine Oa rfl ?_
   refine o_done ?_
   first | refine s_fp rfl (by rw [hhd]; cases o <;> decide) ?_ | refine s_fn rfl (by rw [hhd]; cases o <;> decide) ?_ | refine s_false (by simp [look, opd, *]) ?_
   refine s_skip ?_
   refine s_inBlock ?_
   refine s_seq ?_
   refine Se rfl ?_
   refine o_lOS rfl .free rfl ?_
   refine o_call rfl .free rfl (f_form_kids hf.rep _) ?_
   rintro _ J _ e0 ⟨ok, ck, rfl, hk1, rfl⟩
   have hf := hf.mono e0
   have hfr := hfr.mono e0
   have hto := hto.mono e0
   have hav := hav.mono e0
   have hle := hle.trans e0
   rw [hki] at hk1
   rw [hki]
   refine o_len_slice rfl .free rfl ?_
   refine Om rfl ?_
   refine o_done ?_
   refine s_block ?_
   refine s_loop ?_
   refine Se rfl ?_
   refine o_cmp rfl rfl rfl .free rfl ?_
   refine o_done ?_
   refine s_seq ?_
   refine s_condT rfl (by first | rfl | decide | (simp; done) | omega) ?_
   refine s_skip ?_
   refine s_seq ?_
   refine s_block ?_
   refine Se rfl ?_
   first | refine o_ixD rfl rfl _ rfl .free rfl ?_ | refine o_ixP rfl rfl _ rfl .free rfl ?_
   refine o_lI1 rfl .free rfl ?_
   refine Oa rfl ?_
   refine o_done ?_
   refine Se rfl ?_
   refine Om rfl ?_
   refine Om rfl ?_
   refine Oa rfl ?_
   refine Oa rfl ?_
   refine o_done ?_
   refine s_seq ?_
   refine Se rfl ?_
   refine o_lOS rfl .free rfl ?_
   refine Om rfl ?_
   refine o_call rfl .free rfl (f_form_bound hf.rep hok0 _ _) ?_
   rintro _ J1 _ e1 ⟨o1, k1, rfl, hs1, rfl⟩
   have hf := hf.mono e1
   have hfr := hfr.mono e1
   have hto := hto.mono e1
   have hav := hav.mono e1
   have hle := hle.trans e1
   have hk1 := hk1.mono e1
   refine Oa rfl ?_
   refine o_done ?_
   refine Se rfl ?_
   refine Om rfl ?_
   refine o_len_slice rfl .free rfl ?_
   refine o_cmp rfl rfl rfl .free rfl ?_
   refine o_done ?_
   first | refine s_fp rfl (by simp [Ex.binds]) ?_ | refine s_fn rfl (by simp [Ex.binds]) ?_ | refine s_false (by simp [look, opd, *]) ?_
   refine s_skip ?_
   refine s_here fun hlr => ?_
   have hpl := a.pl_hits av (f) (t) k
   refine d_tl 14 rfl rfl ?_
   refine Da 0 rfl (y_fieldAddr rfl) ?_
   refine Dt 1 [13] rfl (y_lO1 rfl) ?_
   refine Da 2 rfl (y_move rfl) ?_
   refine Da 3 rfl (y_move rfl) ?_
   refine Da 4 rfl (y_fieldAddr rfl) ?_
   refine Dt 5 [13] rfl (y_lO1 rfl) ?_
   refine Da 6 rfl (y_move rfl) ?_
   first | refine Da 7 rfl (y_ixD rfl rfl _ rfl) ?_ | refine Da 7 rfl (y_ixP rfl rfl _ rfl) ?_
   refine Dt 8 [13] rfl (y_lIS rfl) ?_
   refine Da 9 rfl (y_move rfl) ?_
   refine Da 10 rfl (y_move rfl) ?_
   refine d_call 11 rfl (by kernel_rfl) rfl rfl .free rfl (ihn (f := f) (t := t) (by omega) (hf.as 1 a.tree (by omega) rfl) hok.1 hfr hto (by simp [hft]) hnf (by first | omega | (simp only [List.length_append, List.length_cons, List.length_nil]; omega)) hav bp _ _ (by omega) (by omega) _) ?_
   rintro _ J2 _ e2 ⟨cs2, rfl, hr_0, rfl⟩
   obtain ⟨o2, k2, _, rfl, -⟩ := hr_0.open
   have hlr := hlr.trans e2
   have hf := hf.mono e2
   have hfr := hfr.mono e2
   have hto := hto.mono e2
   have hav := hav.mono e2
   have hle := hle.trans e2
   have hk1 := hk1.mono e2
   refine ⟨(.inr heldx), ?_⟩
   first | refine Da 12 rfl (y_ixD rfl rfl _ rfl) ?_ | refine Da 12 rfl (y_ixP rfl rfl _ rfl) ?_
   refine d_st 13 rfl (by kernel_rfl) rfl rfl rfl rfl rfl .free (.inl (by kernel_rfl)) ?_
   refine d_done (by kernel_rfl) ?_
   refine s_inBlock ?_
   refine o_enter rfl ?_
   refine o_arith rfl rfl rfl (by omega) .free rfl ?_
   refine Om rfl ?_
   refine o_done ?_
   refine s_round ?_
   refine Se rfl ?_
   refine o_cmp rfl rfl rfl .free rfl ?_
   refine o_done ?_
   refine s_seq ?_
   refine s_condT rfl (by first | rfl | decide | (simp; done) | omega) ?_
   refine s_skip ?_
   refine s_seq ?_
   refine s_block ?_
   refine Se rfl ?_
   first | refine o_ixD rfl rfl _ rfl .free rfl ?_ | refine o_ixP rfl rfl _ rfl .free rfl ?_
   refine o_lI1 rfl .free rfl ?_
   refine Oa rfl ?_
   refine o_done ?_
   refine Se rfl ?_
   refine Om rfl ?_
   refine Om rfl ?_
   refine Oa rfl ?_
   refine Oa rfl ?_
   refine o_done ?_
   refine s_seq ?_
   refine Se rfl ?_
   refine o_lOS rfl .free rfl ?_
   refine Om rfl ?_
   refine o_call rfl .free rfl (f_form_bound hf.rep hok0 _ _) ?_
   rintro _ J1 _ e1 ⟨o1, k1, rfl, hs1, rfl⟩
   have hf := hf.mono e1
   have hfr := hfr.mono e1
   have hto := hto.mono e1
   have hav := hav.mono e1
   have hle := hle.trans e1
   have hk1 := hk1.mono e1
   have hr_0 := hr_0.mono e1
   refine Oa rfl ?_
   refine o_done ?_
   refine Se rfl ?_
   refine Om rfl ?_
   refine o_len_slice rfl .free rfl ?_
   refine o_cmp rfl rfl rfl .free rfl ?_
   refine o_done ?_
   first | refine s_fp rfl (by simp [Ex.binds]) ?_ | refine s_fn rfl (by simp [Ex.binds]) ?_ | refine s_false (by simp [look, opd, *]) ?_
   refine s_skip ?_
   refine s_here fun hlr => ?_
   have hpl := b.pl_hits av (f) (t) (a.pl av (f) (t) k).2
   refine d_tl 14 rfl rfl ?_
   refine Da 0 rfl (y_fieldAddr rfl) ?_
   refine Dt 1 [13] rfl (y_lO1 rfl) ?_
   refine Da 2 rfl (y_move rfl) ?_
   refine Da 3 rfl (y_move rfl) ?_
   refine Da 4 rfl (y_fieldAddr rfl) ?_
   refine Dt 5 [13] rfl (y_lO1 rfl) ?_
   refine Da 6 rfl (y_move rfl) ?_
   first | refine Da 7 rfl (y_ixD rfl rfl _ rfl) ?_ | refine Da 7 rfl (y_ixP rfl rfl _ rfl) ?_
   refine Dt 8 [13] rfl (y_lIS rfl) ?_
   refine Da 9 rfl (y_move rfl) ?_
   refine Da 10 rfl (y_move rfl) ?_
   refine d_call 11 rfl (by kernel_rfl) rfl rfl .free rfl (ihn (f := f) (t := t) (by omega) (hf.as 2 b.tree (by omega) rfl) hok.2 hfr hto (by simp [hft]) hnf (by first | omega | (simp only [List.length_append, List.length_cons, List.length_nil]; omega)) hav bp _ _ (by omega) (by omega) _) ?_
   rintro _ J2 _ e2 ⟨cs2, rfl, hr_1, rfl⟩
   obtain ⟨o2, k2, _, rfl, -⟩ := hr_1.open
   have hlr := hlr.trans e2
   have hf := hf.mono e2
   have hfr := hfr.mono e2
   have hto := hto.mono e2
   have hav := hav.mono e2
   have hle := hle.trans e2
   have hk1 := hk1.mono e2
   have hr_0 := hr_0.mono e2
   refine ⟨(.inr heldx), ?_⟩
   first | refine Da 12 rfl (y_ixD rfl rfl _ rfl) ?_ | refine Da 12 rfl (y_ixP rfl rfl _ rfl) ?_
   refine d_st 13 rfl (by kernel_rfl) rfl rfl rfl rfl rfl .free (.inl (by kernel_rfl)) ?_
   refine d_done (by kernel_rfl) ?_
   refine s_inBlock ?_
   refine o_enter rfl ?_
   refine o_arith rfl rfl rfl (by omega) .free rfl ?_
   refine Om rfl ?_
   refine o_done ?_
   refine s_round ?_
   refine Se rfl ?_
   refine o_cmp rfl rfl rfl .free rfl ?_
   refine o_done ?_
   refine s_seq ?_
   refine s_condF rfl (by first | rfl | decide | (simp; done) | omega) ?_
   refine s_exit rfl ?_
   refine Se rfl ?_
   refine o_lOS rfl .free rfl ?_
   refine o_st rfl rfl rfl rfl .free ?_
   refine o_done ?_
   refine s_mem (fun w h => h.f2) (s_freeze ?_)
   intro hz
   have hf := hf.mono hz
   refine s_ret (.c rfl .nil) ?_
   exact ⟨_, _, hle.trans hz, fun w h => Mem.sub (L' := pn bp ov av cv _ _ :: L) (by repeat (first | exact List.Sublist.refl _ | apply List.Sublist.cons_cons | apply List.Sublist.cons)) h, _, rfl, .mk' rfl (.cons (hf.as 0 (.node o.txt []) (by omega) rfl) (.cons (hr_0.mono hz) (.cons (hr_1.mono hz) (.nil)))) (fun y hy => by cases hy; exact still_set (xs := [_, _, _, _, _, _])) (by simp) hcc (by simp [maxN]) (by simp [maxN]), by first | rfl | (simp only [Nat.add_assoc]; rfl)⟩
  ·skip
   have hlen : (Ex.ite a b d).tree.parts.length = 4 := rfl
   have hki := kids_ite a b d
   have hhd : (Ex.ite a b d).tree.head = tIf := rfl
   simp only [Ex.ite.sizeOf_spec] at hlt
   simp only [Ex.ok, Bool.and_eq_true, decide_eq_true_eq] at hok
   simp only [Ex.nb] at hk hg ⊢
   simp only [Ex.size] at hfl
   obtain ⟨_, hrl⟩ : ∃ _ : True, RepL I (Ex.ite a b d).tree.parts _ := ⟨trivial, hcl⟩
   simp only [show (Ex.ite a b d).tree.parts = [.node tIf [], a.tree, b.tree, d.tree] from rfl, cellsF, List.cons_append, List.nil_append] at hrl ⊢
   refine s_mem (fun w h => h.f4) ?_
   refine o_enter rfl ?_
   refine Oa rfl ?_
   refine o_done ?_
   refine s_seq ?_
   refine Se rfl ?_
   refine o_lOS rfl .free rfl ?_
   refine o_call rfl .free rfl (f_form_head hf.rep _) ?_
   rintro _ _ _ _ ⟨rfl, rfl, rfl⟩
   refine o_done ?_
   refine s_block ?_
   refine Se rfl ?_
   refine o_cmps rfl rfl rfl .free rfl ?_
   refine Oa rfl ?_
   refine o_done ?_
   first | refine s_fp rfl (by rw [hhd]; decide) ?_ | refine s_fn rfl (by rw [hhd]; decide) ?_ | refine s_false (by simp [look, opd, *]) ?_
   refine Se rfl ?_
   refine o_cmps rfl rfl rfl .free rfl ?_
   refine Oa rfl ?_
   refine o_done ?_
   first | refine s_fp rfl (by rw [hhd]; decide) ?_ | refine s_fn rfl (by rw [hhd]; decide) ?_ | refine s_false (by simp [look, opd, *]) ?_
   refine s_skip ?_
   refine s_inBlock ?_
   refine s_seq ?_
   refine Se rfl ?_
   refine o_lOS rfl .free rfl ?_
   refine o_call rfl .free rfl (f_form_kids hf.rep _) ?_
   rintro _ J _ e0 ⟨ok, ck, rfl, hk1, rfl⟩
   have hf := hf.mono e0
   have hfr := hfr.mono e0
   have hto := hto.mono e0
   have hav := hav.mono e0
   have hle := hle.trans e0
   rw [hki] at hk1
   rw [hki]
   refine o_len_slice rfl .free rfl ?_
   refine Om rfl ?_
   refine o_done ?_
   refine s_block ?_
   refine s_loop ?_
   refine Se rfl ?_
   refine o_cmp rfl rfl rfl .free rfl ?_
   refine o_done ?_
   refine s_seq ?_
   refine s_condT rfl (by first | rfl | decide | (simp; done) | omega) ?_
   refine s_skip ?_
   refine s_seq ?_
   refine s_block ?_
   refine Se rfl ?_
   first | refine o_ixD rfl rfl _ rfl .free rfl ?_ | refine o_ixP rfl rfl _ rfl .free rfl ?_
   refine o_lI1 rfl .free rfl ?_
   refine Oa rfl ?_
   refine o_done ?_
   refine Se rfl ?_
   refine Om rfl ?_
   refine Om rfl ?_
   refine Oa rfl ?_
   refine Oa rfl ?_
   refine o_done ?_
   refine s_seq ?_
   refine Se rfl ?_
   refine o_lOS rfl .free rfl ?_
   refine Om rfl ?_
   refine o_call rfl .free rfl (f_form_bound hf.rep hok0 _ _) ?_
   rintro _ J1 _ e1 ⟨o1, k1, rfl, hs1, rfl⟩
   have hf := hf.mono e1
   have hfr := hfr.mono e1
   have hto := hto.mono e1
   have hav := hav.mono e1
   have hle := hle.trans e1
   have hk1 := hk1.mono e1
   refine Oa rfl ?_
   refine o_done ?_
   refine Se rfl ?_
   refine Om rfl ?_
   refine o_len_slice rfl .free rfl ?_
   refine o_cmp rfl rfl rfl .free rfl ?_
   refine o_done ?_
   first | refine s_fp rfl (by simp [Ex.binds]) ?_ | refine s_fn rfl (by simp [Ex.binds]) ?_ | refine s_false (by simp [look, opd, *]) ?_
   refine s_skip ?_
   refine s_here fun hlr => ?_
   have hpl := a.pl_hits av (f) (t) k
   refine d_tl 14 rfl rfl ?_
   refine Da 0 rfl (y_fieldAddr rfl) ?_
   refine Dt 1 [13] rfl (y_lO1 rfl) ?_
   refine Da 2 rfl (y_move rfl) ?_
   refine Da 3 rfl (y_move rfl) ?_
   refine Da 4 rfl (y_fieldAddr rfl) ?_
   refine Dt 5 [13] rfl (y_lO1 rfl) ?_
   refine Da 6 rfl (y_move rfl) ?_
   first | refine Da 7 rfl (y_ixD rfl rfl _ rfl) ?_ | refine Da 7 rfl (y_ixP rfl rfl _ rfl) ?_
   refine Dt 8 [13] rfl (y_lIS rfl) ?_
   refine Da 9 rfl (y_move rfl) ?_
   refine Da 10 rfl (y_move rfl) ?_
   refine d_call 11 rfl (by kernel_rfl) rfl rfl .free rfl (ihn (f := f) (t := t) (by omega) (hf.as 1 a.tree (by omega) rfl) hok.1.1 hfr hto (by simp [hft]) hnf (by first | omega | (simp only [List.length_append, List.length_cons, List.length_nil]; omega)) hav bp _ _ (by omega) (by omega) _) ?_
   rintro _ J2 _ e2 ⟨cs2, rfl, hr_0, rfl⟩
   obtain ⟨o2, k2, _, rfl, -⟩ := hr_0.open
   have hlr := hlr.trans e2
   have hf := hf.mono e2
   have hfr := hfr.mono e2
   have hto := hto.mono e2
   have hav := hav.mono e2
   have hle := hle.trans e2
   have hk1 := hk1.mono e2
   refine ⟨(.inr heldx), ?_⟩
   first | refine Da 12 rfl (y_ixD rfl rfl _ rfl) ?_ | refine Da 12 rfl (y_ixP rfl rfl _ rfl) ?_
   refine d_st 13 rfl (by kernel_rfl) rfl rfl rfl rfl rfl .free (.inl (by kernel_rfl)) ?_
   refine d_done (by kernel_rfl) ?_
   refine s_inBlock ?_
   refine o_enter rfl ?_
   refine o_arith rfl rfl rfl (by omega) .free rfl ?_
   refine Om rfl ?_
   refine o_done ?_
   refine s_round ?_
   refine Se rfl ?_
   refine o_cmp rfl rfl rfl .free rfl ?_
   refine o_done ?_
   refine s_seq ?_
   refine s_condT rfl (by first | rfl | decide | (simp; done) | omega) ?_
   refine s_skip ?_
   refine s_seq ?_
   refine s_block ?_
   refine Se rfl ?_
   first | refine o_ixD rfl rfl _ rfl .free rfl ?_ | refine o_ixP rfl rfl _ rfl .free rfl ?_
   refine o_lI1 rfl .free rfl ?_
   refine Oa rfl ?_
   refine o_done ?_
   refine Se rfl ?_
   refine Om rfl ?_
   refine Om rfl ?_
   refine Oa rfl ?_
   refine Oa rfl ?_
   refine o_done ?_
   refine s_seq ?_
   refine Se rfl ?_
   refine o_lOS rfl .free rfl ?_
   refine Om rfl ?_
   refine o_call rfl .free rfl (f_form_bound hf.rep hok0 _ _) ?_
   rintro _ J1 _ e1 ⟨o1, k1, rfl, hs1, rfl⟩
   have hf := hf.mono e1
   have hfr := hfr.mono e1
   have hto := hto.mono e1
   have hav := hav.mono e1
   have hle := hle.trans e1
   have hk1 := hk1.mono e1
   have hr_0 := hr_0.mono e1
   refine Oa rfl ?_
   refine o_done ?_
   refine Se rfl ?_
   refine Om rfl ?_
   refine o_len_slice rfl .free rfl ?_
   refine o_cmp rfl rfl rfl .free rfl ?_
   refine o_done ?_
   first | refine s_fp rfl (by simp [Ex.binds]) ?_ | refine s_fn rfl (by simp [Ex.binds]) ?_ | refine s_false (by simp [look, opd, *]) ?_
   refine s_skip ?_
   refine s_here fun hlr => ?_
   have hpl := b.pl_hits av (f) (t) (a.pl av (f) (t) k).2
   refine d_tl 14 rfl rfl ?_
   refine Da 0 rfl (y_fieldAddr rfl) ?_
   refine Dt 1 [13] rfl (y_lO1 rfl) ?_
   refine Da 2 rfl (y_move rfl) ?_
   refine Da 3 rfl (y_move rfl) ?_
   refine Da 4 rfl (y_fieldAddr rfl) ?_
   refine Dt 5 [13] rfl (y_lO1 rfl) ?_
   refine Da 6 rfl (y_move rfl) ?_
   first | refine Da 7 rfl (y_ixD rfl rfl _ rfl) ?_ | refine Da 7 rfl (y_ixP rfl rfl _ rfl) ?_
   refine Dt 8 [13] rfl (y_lIS rfl) ?_
   refine Da 9 rfl (y_move rfl) ?_
   refine Da 10 rfl (y_move rfl) ?_
   refine d_call 11 rfl (by kernel_rfl) rfl rfl .free rfl (ihn (f := f) (t := t) (by omega) (hf.as 2 b.tree (by omega) rfl) hok.1.2 hfr hto (by simp [hft]) hnf (by first | omega | (simp only [List.length_append, List.length_cons, List.length_nil]; omega)) hav bp _ _ (by omega) (by omega) _) ?_
   rintro _ J2 _ e2 ⟨cs2, rfl, hr_1, rfl⟩
   obtain ⟨o2, k2, _, rfl, -⟩ := hr_1.open
   have hlr := hlr.trans e2
   have hf := hf.mono e2
   have hfr := hfr.mono e2
   have hto := hto.mono e2
   have hav := hav.mono e2
   have hle := hle.trans e2
   have hk1 := hk1.mono e2
   have hr_0 := hr_0.mono e2
   refine ⟨(.inr heldx), ?_⟩
   first | refine Da 12 rfl (y_ixD rfl rfl _ rfl) ?_ | refine Da 12 rfl (y_ixP rfl rfl _ rfl) ?_
   refine d_st 13 rfl (by kernel_rfl) rfl rfl rfl rfl rfl .free (.inl (by kernel_rfl)) ?_
   refine d_done (by kernel_rfl) ?_
   refine s_inBlock ?_
   refine o_enter rfl ?_
   refine o_arith rfl rfl rfl (by omega) .free rfl ?_
   refine Om rfl ?_
   refine o_done ?_
   refine s_round ?_
   refine Se rfl ?_
   refine o_cmp rfl rfl rfl .free rfl ?_
   refine o_done ?_
   refine s_seq ?_
   refine s_condT rfl (by first | rfl | decide | (simp; done) | omega) ?_
   refine s_skip ?_
   refine s_seq ?_
   refine s_block ?_
   refine Se rfl ?_
   first | refine o_ixD rfl rfl _ rfl .free rfl ?_ | refine o_ixP rfl rfl _ rfl .free rfl ?_
   refine o_lI1 rfl .free rfl ?_
   refine Oa rfl ?_
   refine o_done ?_
   refine Se rfl ?_
   refine Om rfl ?_
   refine Om rfl ?_
   refine Oa rfl ?_
   refine Oa rfl ?_
   refine o_done ?_
   refine s_seq ?_
   refine Se rfl ?_
   refine o_lOS rfl .free rfl ?_
   refine Om rfl ?_
   refine o_call rfl .free rfl (f_form_bound hf.rep hok0 _ _) ?_
   rintro _ J1 _ e1 ⟨o1, k1, rfl, hs1, rfl⟩
   have hf := hf.mono e1
   have hfr := hfr.mono e1
   have hto := hto.mono e1
   have hav := hav.mono e1
   have hle := hle.trans e1
   have hk1 := hk1.mono e1
   have hr_0 := hr_0.mono e1
   have hr_1 := hr_1.mono e1
   refine Oa rfl ?_
   refine o_done ?_
   refine Se rfl ?_
   refine Om rfl ?_
   refine o_len_slice rfl .free rfl ?_
   refine o_cmp rfl rfl rfl .free rfl ?_
   refine o_done ?_
   first | refine s_fp rfl (by simp [Ex.binds]) ?_ | refine s_fn rfl (by simp [Ex.binds]) ?_ | refine s_false (by simp [look, opd, *]) ?_
   refine s_skip ?_
   refine s_here fun hlr => ?_
   have hpl := d.pl_hits av (f) (t) (b.pl av (f) (t) (a.pl av (f) (t) k).2).2
   refine d_tl 14 rfl rfl ?_
   refine Da 0 rfl (y_fieldAddr rfl) ?_
   refine Dt 1 [13] rfl (y_lO1 rfl) ?_
   refine Da 2 rfl (y_move rfl) ?_
   refine Da 3 rfl (y_move rfl) ?_
   refine Da 4 rfl (y_fieldAddr rfl) ?_
   refine Dt 5 [13] rfl (y_lO1 rfl) ?_
   refine Da 6 rfl (y_move rfl) ?_
   first | refine Da 7 rfl (y_ixD rfl rfl _ rfl) ?_ | refine Da 7 rfl (y_ixP rfl rfl _ rfl) ?_
   refine Dt 8 [13] rfl (y_lIS rfl) ?_
   refine Da 9 rfl (y_move rfl) ?_
   refine Da 10 rfl (y_move rfl) ?_
   refine d_call 11 rfl (by kernel_rfl) rfl rfl .free rfl (ihn (f := f) (t := t) (by omega) (hf.as 3 d.tree (by omega) rfl) hok.2 hfr hto (by simp [hft]) hnf (by first | omega | (simp only [List.length_append, List.length_cons, List.length_nil]; omega)) hav bp _ _ (by omega) (by omega) _) ?_
   rintro _ J2 _ e2 ⟨cs2, rfl, hr_2, rfl⟩
   obtain ⟨o2, k2, _, rfl, -⟩ := hr_2.open
   have hlr := hlr.trans e2
   have hf := hf.mono e2
   have hfr := hfr.mono e2
   have hto := hto.mono e2
   have hav := hav.mono e2
   have hle := hle.trans e2
   have hk1 := hk1.mono e2
   have hr_0 := hr_0.mono e2
   have hr_1 := hr_1.mono e2
   refine ⟨(.inr heldx), ?_⟩
   first | refine Da 12 rfl (y_ixD rfl rfl _ rfl) ?_ | refine Da 12 rfl (y_ixP rfl rfl _ rfl) ?_
   refine d_st 13 rfl (by kernel_rfl) rfl rfl rfl rfl rfl .free (.inl (by kernel_rfl)) ?_
   refine d_done (by kernel_rfl) ?_
   refine s_inBlock ?_
   refine o_enter rfl ?_
   refine o_arith rfl rfl rfl (by omega) .free rfl ?_
   refine Om rfl ?_
   refine o_done ?_
   refine s_round ?_
   refine Se rfl ?_
   refine o_cmp rfl rfl rfl .free rfl ?_
   refine o_done ?_
   refine s_seq ?_
   refine s_condF rfl (by first | rfl | decide | (simp; done) | omega) ?_
   refine s_exit rfl ?_
   refine Se rfl ?_
   refine o_lOS rfl .free rfl ?_
   refine o_st rfl rfl rfl rfl .free ?_
   refine o_done ?_
   refine s_mem (fun w h => h.f2) (s_freeze ?_)
   intro hz
   have hf := hf.mono hz
   refine s_ret (.c rfl .nil) ?_
   exact ⟨_, _, hle.trans hz, fun w h => Mem.sub (L' := pn bp ov av cv _ _ :: L) (by repeat (first | exact List.Sublist.refl _ | apply List.Sublist.cons_cons | apply List.Sublist.cons)) h, _, rfl, .mk' rfl (.cons (hf.as 0 (.node tIf []) (by omega) rfl) (.cons (hr_0.mono hz) (.cons (hr_1.mono hz) (.cons (hr_2.mono hz) (.nil))))) (fun y hy => by cases hy; exact still_set (xs := [_, _, _, _, _, _, _, _])) (by simp) hcc (by simp [maxN]) (by simp [maxN]), by first | rfl | (simp only [Nat.add_assoc]; rfl)⟩
  ·skip
   have hlen : (Ex.lt z a b).tree.parts.length = 4 := rfl
   have hki := kids_lt' z a b
   have hhd : (Ex.lt z a b).tree.head = tLet := rfl
   simp only [Ex.lt.sizeOf_spec] at hlt
   simp only [Ex.ok, Bool.and_eq_true, decide_eq_true_eq] at hok
   simp only [Ex.nb] at hk hg ⊢
   simp only [Ex.size] at hfl
   obtain ⟨_, hrl⟩ : ∃ _ : True, RepL I (Ex.lt z a b).tree.parts _ := ⟨trivial, hcl⟩
   simp only [show (Ex.lt z a b).tree.parts = [.node tLet [], .node z [], a.tree, b.tree] from rfl, cellsF, List.cons_append, List.nil_append] at hrl ⊢
   refine s_mem (fun w h => h.f4) ?_
   refine o_enter rfl ?_
   refine Oa rfl ?_
   refine o_done ?_
   refine s_seq ?_
   refine Se rfl ?_
   refine o_lOS rfl .free rfl ?_
   refine o_call rfl .free rfl (f_form_head hf.rep _) ?_
   rintro _ _ _ _ ⟨rfl, rfl, rfl⟩
   refine o_done ?_
   refine s_block ?_
   refine Se rfl ?_
   refine o_cmps rfl rfl rfl .free rfl ?_
   refine Oa rfl ?_
   refine o_done ?_
   first | refine s_tp rfl (by rw [hhd]; rfl) ?_ | refine s_tn rfl (by rw [hhd]; rfl) ?_ | refine s_true (by simp [look, opd, *]) ?_
   refine s_seq ?_
   obtain ⟨x1, x2, x3⟩ := fr_facts 120 av k
   have x4 := fr_hits_succ 120 av k
   have x5 := hits_le 120 av (fr 120 av k)
   have x6 := hits_le 120 av (fr 120 av k + 1)
   refine o_enter rfl ?_
   refine Om rfl ?_
   refine o_call rfl .free rfl (f_plainer_name hav bp g k (by omega) (by omega) _) ?_
   rintro _ _ _ _ ⟨rfl, rfl, rfl⟩
   have hnl1 := nm_len (n := fr 120 av k) (by omega)
   generalize hn1e : nm 120 (fr 120 av k) = n1 at hnl1 ⊢
   refine o_lits rfl rfl (by rfl) (by rfl) (by rfl) (by decide) (by decide) (by rfl) .free rfl ?_
   intro b41
   refine o_freezeLit [n1] (by simp [maxN]) (by intro y hy; rw [List.mem_singleton.1 hy]; exact hnl1) ?_
   intro J1 ez hnm
   have hn0 := hnm.st 0 (by simp)
   have hf := hf.mono ez
   have hfr := hfr.mono ez
   have hto := hto.mono ez
   have hav := hav.mono ez
   have hle := hle.trans ez
   refine Oa rfl ?_
   refine o_done ?_
   refine d_all 8 rfl rfl ?_
   refine Da 0 rfl (y_fieldAddr rfl) ?_
   refine Dt 1 [7] rfl (y_lO1 rfl) ?_
   refine Da 2 rfl (y_move rfl) ?_
   first | refine Da 3 rfl (y_ixD rfl rfl 0 rfl) ?_ | refine Da 3 rfl (y_ixP rfl rfl 0 rfl) ?_
   refine Dt 4 [7] rfl (y_lI1 rfl) ?_
   refine d_call 5 rfl (by kernel_rfl) rfl rfl .free rfl (f_atom n1 hnl1 _ _) ?_
   rintro _ _ _ _ ⟨rfl, rfl, rfl⟩
   refine ⟨(.inr heldx), ?_⟩
   first | refine Da 6 rfl (y_ixD rfl rfl 1 rfl) ?_ | refine Da 6 rfl (y_ixP rfl rfl 1 rfl) ?_
   refine d_st 7 rfl (by kernel_rfl) rfl rfl rfl rfl rfl .free (.inl (by kernel_rfl)) ?_
   refine d_done (by kernel_rfl) ?_
   refine s_inBlock ?_
   refine s_seq ?_
   refine Se rfl ?_
   refine o_lOS rfl .free rfl ?_
   refine o_call rfl .free rfl (f_form_kids hf.rep _) ?_
   rintro _ J _ e0 ⟨ok, ck, rfl, hk1, rfl⟩
   have hf := hf.mono e0
   have hfr := hfr.mono e0
   have hto := hto.mono e0
   have hav := hav.mono e0
   have hle := hle.trans e0
   rw [hki] at hk1
   rw [hki]
   have hnm := hnm.mono e0
   refine o_len_slice rfl .free rfl ?_
   refine Om rfl ?_
   refine o_done ?_
   refine s_block ?_
   refine s_loop ?_
   refine Se rfl ?_
   refine o_cmp rfl rfl rfl .free rfl ?_
   refine o_done ?_
   refine s_seq ?_
   refine s_condT rfl (by first | rfl | decide | (simp; done) | omega) ?_
   refine s_skip ?_
   refine s_seq ?_
   refine s_block ?_
   refine Se rfl ?_
   first | refine o_ixD rfl rfl _ rfl .free rfl ?_ | refine o_ixP rfl rfl _ rfl .free rfl ?_
   refine o_lI1 rfl .free rfl ?_
   refine Oa rfl ?_
   refine o_done ?_
   refine Se rfl ?_
   refine Om rfl ?_
   refine Om rfl ?_
   refine Oa rfl ?_
   refine Oa rfl ?_
   refine o_done ?_
   refine s_seq ?_
   refine Se rfl ?_
   refine o_lOS rfl .free rfl ?_
   refine Om rfl ?_
   refine o_call rfl .free rfl (f_form_bound hf.rep hok0 _ _) ?_
   rintro _ J1 _ e1 ⟨o1, k1, rfl, hs1, rfl⟩
   have hf := hf.mono e1
   have hfr := hfr.mono e1
   have hto := hto.mono e1
   have hav := hav.mono e1
   have hle := hle.trans e1
   have hk1 := hk1.mono e1
   have hnm := hnm.mono e1
   refine Oa rfl ?_
   refine o_done ?_
   refine Se rfl ?_
   refine Om rfl ?_
   refine o_len_slice rfl .free rfl ?_
   refine o_cmp rfl rfl rfl .free rfl ?_
   refine o_done ?_
   first | refine s_fp rfl (by simp [Ex.binds]) ?_ | refine s_fn rfl (by simp [Ex.binds]) ?_ | refine s_false (by simp [look, opd, *]) ?_
   refine s_skip ?_
   refine s_here fun hlr => ?_
   have hpl := a.pl_hits av (f) (t) (fr 120 av k + 1)
   refine d_tl 14 rfl rfl ?_
   refine Da 0 rfl (y_fieldAddr rfl) ?_
   refine Dt 1 [13] rfl (y_lO1 rfl) ?_
   refine Da 2 rfl (y_move rfl) ?_
   refine Da 3 rfl (y_move rfl) ?_
   refine Da 4 rfl (y_fieldAddr rfl) ?_
   refine Dt 5 [13] rfl (y_lO1 rfl) ?_
   refine Da 6 rfl (y_move rfl) ?_
   first | refine Da 7 rfl (y_ixD rfl rfl _ rfl) ?_ | refine Da 7 rfl (y_ixP rfl rfl _ rfl) ?_
   refine Dt 8 [13] rfl (y_lIS rfl) ?_
   refine Da 9 rfl (y_move rfl) ?_
   refine Da 10 rfl (y_move rfl) ?_
   refine d_call 11 rfl (by kernel_rfl) rfl rfl .free rfl (ihn (f := f) (t := t) (by omega) (hf.as 2 a.tree (by omega) rfl) hok.1.2 hfr hto (by simp [hft]) hnf (by first | omega | (simp only [List.length_append, List.length_cons, List.length_nil]; omega)) hav bp _ _ (by omega) (by omega) _) ?_
   rintro _ J2 _ e2 ⟨cs2, rfl, hr_0, rfl⟩
   obtain ⟨o2, k2, _, rfl, -⟩ := hr_0.open
   have hlr := hlr.trans e2
   have hf := hf.mono e2
   have hfr := hfr.mono e2
   have hto := hto.mono e2
   have hav := hav.mono e2
   have hle := hle.trans e2
   have hk1 := hk1.mono e2
   have hnm := hnm.mono e2
   refine ⟨(.inr heldx), ?_⟩
   first | refine Da 12 rfl (y_ixD rfl rfl _ rfl) ?_ | refine Da 12 rfl (y_ixP rfl rfl _ rfl) ?_
   refine d_st 13 rfl (by kernel_rfl) rfl rfl rfl rfl rfl .free (.inl (by kernel_rfl)) ?_
   refine d_done (by kernel_rfl) ?_
   refine s_inBlock ?_
   refine o_enter rfl ?_
   refine o_arith rfl rfl rfl (by omega) .free rfl ?_
   refine Om rfl ?_
   refine o_done ?_
   refine s_round ?_
   refine Se rfl ?_
   refine o_cmp rfl rfl rfl .free rfl ?_
   refine o_done ?_
   refine s_seq ?_
   refine s_condT rfl (by first | rfl | decide | (simp; done) | omega) ?_
   refine s_skip ?_
   refine s_seq ?_
   refine s_block ?_
   refine Se rfl ?_
   first | refine o_ixD rfl rfl _ rfl .free rfl ?_ | refine o_ixP rfl rfl _ rfl .free rfl ?_
   refine o_lI1 rfl .free rfl ?_
   refine Oa rfl ?_
   refine o_done ?_
   refine Se rfl ?_
   refine Om rfl ?_
   refine Om rfl ?_
   refine Oa rfl ?_
   refine Oa rfl ?_
   refine o_done ?_
   refine s_seq ?_
   refine Se rfl ?_
   refine o_lOS rfl .free rfl ?_
   refine Om rfl ?_
   refine o_call rfl .free rfl (f_form_bound hf.rep hok0 _ _) ?_
   rintro _ J1 _ e1 ⟨o1, k1, rfl, hs1, rfl⟩
   have hf := hf.mono e1
   have hfr := hfr.mono e1
   have hto := hto.mono e1
   have hav := hav.mono e1
   have hle := hle.trans e1
   have hk1 := hk1.mono e1
   have hr_0 := hr_0.mono e1
   have hnm := hnm.mono e1
   refine Oa rfl ?_
   refine o_done ?_
   refine Se rfl ?_
   refine Om rfl ?_
   refine o_len_slice rfl .free rfl ?_
   refine o_cmp rfl rfl rfl .free rfl ?_
   refine o_done ?_
   first | refine s_tp rfl (by simp [Ex.binds]) ?_ | refine s_tn rfl (by simp [Ex.binds]) ?_ | refine s_true (by simp [look, opd, *]) ?_
   refine o_enter rfl ?_
   refine Om rfl ?_
   refine Om rfl ?_
   refine o_lits rfl rfl (by rfl) (by rfl) (by rfl) (by decide) (by decide) (by rfl) .free rfl ?_
   intro b87
   refine o_freeze ?_
   intro ez
   have hf := hf.mono ez
   have hfr := hfr.mono ez
   have hto := hto.mono ez
   have hav := hav.mono ez
   have hle := hle.trans ez
   have hk1 := hk1.mono ez
   have hr_0 := hr_0.mono ez
   have hnm := hnm.mono ez
   refine o_call rfl .free rfl (f_slices_Concat (still_set (xs := [.slice of f.length cf, .slice o1 (List.length _) k1]) (ys := [])) hfr (hs1.mono ez) (Ex.binds_room0 (by omega)) _) ?_
   rintro _ J3 _ e3 ⟨o3, k3, rfl, hs3, rfl⟩
   have hf := hf.mono e3
   have hfr := hfr.mono e3
   have hto := hto.mono e3
   have hav := hav.mono e3
   have hle := hle.trans e3
   have hk1 := hk1.mono e3
   have hr_0 := hr_0.mono e3
   have hnm := hnm.mono e3
   refine Om rfl ?_
   refine Om rfl ?_
   refine o_lits rfl rfl (by rfl) (by rfl) (by rfl) (by decide) (by decide) (by rfl) .free rfl ?_
   intro b91
   refine o_freeze ?_
   intro ey
   have hf := hf.mono ey
   have hfr := hfr.mono ey
   have hto := hto.mono ey
   have hav := hav.mono ey
   have hle := hle.trans ey
   have hk1 := hk1.mono ey
   have hr_0 := hr_0.mono ey
   have hnm := hnm.mono ey
   have hs3 := hs3.mono ey
   refine o_call rfl .free rfl (f_slices_Concat (m := [n1]) (still_set (xs := [.slice ot t.length ct, .slice (some ⟨_, 0, none⟩) (List.length _) _]) (ys := [])) hto hnm (show t.length + 1 ≤ maxN by unfold maxN; omega) _) ?_
   rintro _ J4 _ e4 ⟨o4, k4, rfl, hs4, rfl⟩
   have hf := hf.mono e4
   have hfr := hfr.mono e4
   have hto := hto.mono e4
   have hav := hav.mono e4
   have hle := hle.trans e4
   have hk1 := hk1.mono e4
   have hr_0 := hr_0.mono e4
   have hnm := hnm.mono e4
   have hs3 := hs3.mono e4
   refine Oa rfl ?_
   refine Oa rfl ?_
   refine o_done ?_
   refine s_here fun hlr => ?_
   have hpl := b.pl_hits av (f ++ [z]) (t ++ [n1]) (a.pl av (f) (t) (fr 120 av k + 1)).2
   refine d_tl 14 rfl rfl ?_
   refine Da 0 rfl (y_fieldAddr rfl) ?_
   refine Dt 1 [13] rfl (y_lO1 rfl) ?_
   refine Da 2 rfl (y_move rfl) ?_
   refine Da 3 rfl (y_move rfl) ?_
   refine Da 4 rfl (y_fieldAddr rfl) ?_
   refine Dt 5 [13] rfl (y_lO1 rfl) ?_
   refine Da 6 rfl (y_move rfl) ?_
   first | refine Da 7 rfl (y_ixD rfl rfl _ rfl) ?_ | refine Da 7 rfl (y_ixP rfl rfl _ rfl) ?_
   refine Dt 8 [13] rfl (y_lIS rfl) ?_
   refine Da 9 rfl (y_move rfl) ?_
   refine Da 10 rfl (y_move rfl) ?_
   refine d_call 11 rfl (by kernel_rfl) rfl rfl .free rfl (ihn (f := f ++ [z]) (t := t ++ [n1]) (by omega) (hf.as 3 b.tree (by omega) rfl) hok.2 hs3 hs4 (by simp [hft]) (hnf.add (by intro y hy; rw [List.mem_singleton.1 hy]; exact hok.1.1)) (by first | omega | (simp only [List.length_append, List.length_cons, List.length_nil]; omega)) hav bp _ _ (by omega) (by omega) _) ?_
   rintro _ J2 _ e2 ⟨cs2, rfl, hr_1, rfl⟩
   obtain ⟨o2, k2, _, rfl, -⟩ := hr_1.open
   have hlr := hlr.trans e2
   have hf := hf.mono e2
   have hfr := hfr.mono e2
   have hto := hto.mono e2
   have hav := hav.mono e2
   have hle := hle.trans e2
   have hk1 := hk1.mono e2
   have hr_0 := hr_0.mono e2
   have hnm := hnm.mono e2
   refine ⟨(.inr heldx), ?_⟩
   first | refine Da 12 rfl (y_ixD rfl rfl _ rfl) ?_ | refine Da 12 rfl (y_ixP rfl rfl _ rfl) ?_
   refine d_st 13 rfl (by kernel_rfl) rfl rfl rfl rfl rfl .free (.inl (by kernel_rfl)) ?_
   refine d_done (by kernel_rfl) ?_
   refine s_inBlock ?_
   refine o_enter rfl ?_
   refine o_arith rfl rfl rfl (by omega) .free rfl ?_
   refine Om rfl ?_
   refine o_done ?_
   refine s_round ?_
   refine Se rfl ?_
   refine o_cmp rfl rfl rfl .free rfl ?_
   refine o_done ?_
   refine s_seq ?_
   refine s_condF rfl (by first | rfl | decide | (simp; done) | omega) ?_
   refine s_exit rfl ?_
   refine Se rfl ?_
   refine o_lOS rfl .free rfl ?_
   refine o_st rfl rfl rfl rfl .free ?_
   refine o_done ?_
   refine s_mem (fun w h => h.f2) (s_freeze ?_)
   intro hz
   have hf := hf.mono hz
   refine s_ret (.c rfl .nil) ?_
   subst hn1e
   exact ⟨_, _, hle.trans hz, fun w h => Mem.sub (L' := pn bp ov av cv _ _ :: L) (by repeat (first | exact List.Sublist.refl _ | apply List.Sublist.cons_cons | apply List.Sublist.cons)) h, _, rfl, .mk' rfl (.cons (hf.as 0 (.node tLet []) (by omega) rfl) (.cons (.ofAtom hnl1) (.cons (hr_0.mono hz) (.cons (hr_1.mono hz) (.nil))))) (fun y hy => by cases hy; exact still_set (xs := [_, _, _, _, _, _, _, _])) (by simp) hcc (by simp [maxN]) (by simp [maxN]), by first | rfl | (simp only [Nat.add_assoc]; rfl)⟩
  ·skip
   have hlen : (Ex.fn h1 z s u b).tree.parts.length = 6 := rfl
   have hki := kids_fn h1 z s u b
   have hhd : (Ex.fn h1 z s u b).tree.head = tFun := rfl
   simp only [Ex.fn.sizeOf_spec] at hlt
   simp only [Ex.ok, Bool.and_eq_true, decide_eq_true_eq] at hok
   simp only [Ex.nb] at hk hg ⊢
   simp only [Ex.size] at hfl
   obtain ⟨_, hrl⟩ : ∃ _ : True, RepL I (Ex.fn h1 z s u b).tree.parts _ := ⟨trivial, hcl⟩
   simp only [show (Ex.fn h1 z s u b).tree.parts = [.node tFun [], .node h1 [], .node z [], s.tree, u.tree, b.tree] from rfl, cellsF, List.cons_append, List.nil_append] at hrl ⊢
   refine s_mem (fun w h => h.f4) ?_
   refine o_enter rfl ?_
   refine Oa rfl ?_
   refine o_done ?_
   refine s_seq ?_
   refine Se rfl ?_
   refine o_lOS rfl .free rfl ?_
   refine o_call rfl .free rfl (f_form_head hf.rep _) ?_
   rintro _ _ _ _ ⟨rfl, rfl, rfl⟩
   refine o_done ?_
   refine s_block ?_
   refine Se rfl ?_
   refine o_cmps rfl rfl rfl .free rfl ?_
   refine Oa rfl ?_
   refine o_done ?_
   first | refine s_fp rfl (by rw [hhd]; decide) ?_ | refine s_fn rfl (by rw [hhd]; decide) ?_ | refine s_false (by simp [look, opd, *]) ?_
   refine Se rfl ?_
   refine o_cmps rfl rfl rfl .free rfl ?_
   refine Oa rfl ?_
   refine o_done ?_
   first | refine s_tp rfl (by rw [hhd]; rfl) ?_ | refine s_tn rfl (by rw [hhd]; rfl) ?_ | refine s_true (by simp [look, opd, *]) ?_
   refine s_seq ?_
   obtain ⟨x1, x2, x3⟩ := fr_facts 120 av k
   have x4 := fr_hits_succ 120 av k
   have x5 := hits_le 120 av (fr 120 av k)
   have x6 := hits_le 120 av (fr 120 av k + 1)
   obtain ⟨y1, y2, y3⟩ := fr_facts 120 av (fr 120 av k + 1)
   have y4 := fr_hits_succ 120 av (fr 120 av k + 1)
   have y5 := hits_le 120 av (fr 120 av (fr 120 av k + 1))
   have y6 := hits_le 120 av (fr 120 av (fr 120 av k + 1) + 1)
   refine o_enter rfl ?_
   refine Om rfl ?_
   refine o_call rfl .free rfl (f_plainer_name hav bp g k (by omega) (by omega) _) ?_
   rintro _ _ _ _ ⟨rfl, rfl, rfl⟩
   have hnl1 := nm_len (n := fr 120 av k) (by omega)
   generalize hn1e : nm 120 (fr 120 av k) = n1 at hnl1 ⊢
   refine Om rfl ?_
   refine o_call rfl .free rfl (f_plainer_name hav bp (g + 1) (fr 120 av k + 1) (by omega) (by omega) _) ?_
   rintro _ _ _ _ ⟨rfl, rfl, rfl⟩
   have hnl2 := nm_len (n := fr 120 av (fr 120 av k + 1)) (by omega)
   generalize hn2e : nm 120 (fr 120 av (fr 120 av k + 1)) = n2 at hnl2 ⊢
   refine o_lits rfl rfl (by rfl) (by rfl) (by rfl) (by decide) (by decide) (by rfl) .free rfl ?_
   intro b55
   refine o_freezeLit [n1, n2] (by simp [maxN]) (by intro y hy; simp only [List.mem_cons, List.not_mem_nil, or_false] at hy; rcases hy with rfl | rfl; exact hnl1; exact hnl2) ?_
   intro J1 ez hnm
   have hn0 := hnm.st 0 (by simp)
   have hn1 := hnm.st 1 (by simp)
   have hf := hf.mono ez
   have hfr := hfr.mono ez
   have hto := hto.mono ez
   have hav := hav.mono ez
   have hle := hle.trans ez
   refine Oa rfl ?_
   refine o_done ?_
   refine d_all 16 rfl rfl ?_
   refine Da 0 rfl (y_fieldAddr rfl) ?_
   refine Dt 1 [13] rfl (y_lO1 rfl) ?_
   refine Da 2 rfl (y_fieldAddr rfl) ?_
   refine Da 4 rfl (y_move rfl) ?_
   first | refine Da 5 rfl (y_ixD rfl rfl 0 rfl) ?_ | refine Da 5 rfl (y_ixP rfl rfl 0 rfl) ?_
   refine Dt 6 [13] rfl (y_lI1 rfl) ?_
   refine Da 8 rfl (y_move rfl) ?_
   first | refine Da 9 rfl (y_ixD rfl rfl 1 rfl) ?_ | refine Da 9 rfl (y_ixP rfl rfl 1 rfl) ?_
   refine Dt 10 [13] rfl (y_lI1 rfl) ?_
   refine d_two 3 7 (by kernel_rfl) ?_ ?_
   ·skip
    refine i_yld 3 rfl rfl (y_lO1 rfl) .free rfl (.inr heldx) ?_
    refine d_call 7 rfl (by kernel_rfl) rfl rfl .free rfl (f_atom n1 hnl1 _ _) ?_
    rintro _ _ _ _ ⟨rfl, rfl, rfl⟩
    refine ⟨(.inr heldx), ?_⟩
    refine d_call 11 rfl (by kernel_rfl) rfl rfl .free rfl (f_atom n2 hnl2 _ _) ?_
    rintro _ _ _ _ ⟨rfl, rfl, rfl⟩
    refine ⟨(.inr heldx), ?_⟩
    first | refine Da 12 rfl (y_ixD rfl rfl 1 rfl) ?_ | refine Da 12 rfl (y_ixP rfl rfl 1 rfl) ?_
    refine d_st 13 rfl (by kernel_rfl) rfl rfl rfl rfl rfl .free (.inl (by kernel_rfl)) ?_
    first | refine d_takeA 14 rfl (by kernel_rfl) rfl (.inl (by kernel_rfl)) (y_ixD rfl rfl 2 rfl) .free rfl ?_ | refine d_takeA 14 rfl (by kernel_rfl) rfl (.inl (by kernel_rfl)) (y_ixP rfl rfl 2 rfl) .free rfl ?_
    refine d_st 15 rfl (by kernel_rfl) rfl rfl rfl rfl rfl .free (.inl (by kernel_rfl)) ?_
    refine d_done (by kernel_rfl) ?_
    refine s_inBlock ?_
    refine s_seq ?_
    refine Se rfl ?_
    refine o_lOS rfl .free rfl ?_
    refine o_call rfl .free rfl (f_form_kids hf.rep _) ?_
    rintro _ J _ e0 ⟨ok, ck, rfl, hk1, rfl⟩
    have hf := hf.mono e0
    have hfr := hfr.mono e0
    have hto := hto.mono e0
    have hav := hav.mono e0
    have hle := hle.trans e0
    rw [hki] at hk1
    rw [hki]
    have hnm := hnm.mono e0
    refine o_len_slice rfl .free rfl ?_
    refine Om rfl ?_
    refine o_done ?_
    refine s_block ?_
    refine s_loop ?_
    refine Se rfl ?_
    refine o_cmp rfl rfl rfl .free rfl ?_
    refine o_done ?_
    refine s_seq ?_
    refine s_condT rfl (by first | rfl | decide | (simp; done) | omega) ?_
    refine s_skip ?_
    refine s_seq ?_
    refine s_block ?_
    refine Se rfl ?_
    first | refine o_ixD rfl rfl _ rfl .free rfl ?_ | refine o_ixP rfl rfl _ rfl .free rfl ?_
    refine o_lI1 rfl .free rfl ?_
    refine Oa rfl ?_
    refine o_done ?_
    refine Se rfl ?_
    refine Om rfl ?_
    refine Om rfl ?_
    refine Oa rfl ?_
    refine Oa rfl ?_
    refine o_done ?_
    refine s_seq ?_
    refine Se rfl ?_
    refine o_lOS rfl .free rfl ?_
    refine Om rfl ?_
    refine o_call rfl .free rfl (f_form_bound hf.rep hok0 _ _) ?_
    rintro _ J1 _ e1 ⟨o1, k1, rfl, hs1, rfl⟩
    have hf := hf.mono e1
    have hfr := hfr.mono e1
    have hto := hto.mono e1
    have hav := hav.mono e1
    have hle := hle.trans e1
    have hk1 := hk1.mono e1
    have hnm := hnm.mono e1
    refine Oa rfl ?_
    refine o_done ?_
    refine Se rfl ?_
    refine Om rfl ?_
    refine o_len_slice rfl .free rfl ?_
    refine o_cmp rfl rfl rfl .free rfl ?_
    refine o_done ?_
    first | refine s_tp rfl (by simp [Ex.binds]) ?_ | refine s_tn rfl (by simp [Ex.binds]) ?_ | refine s_true (by simp [look, opd, *]) ?_
    refine o_enter rfl ?_
    refine Om rfl ?_
    refine Om rfl ?_
    refine o_lits rfl rfl (by rfl) (by rfl) (by rfl) (by decide) (by decide) (by rfl) .free rfl ?_
    intro b87
    refine o_freeze ?_
    intro ez
    have hf := hf.mono ez
    have hfr := hfr.mono ez
    have hto := hto.mono ez
    have hav := hav.mono ez
    have hle := hle.trans ez
    have hk1 := hk1.mono ez
    have hnm := hnm.mono ez
    refine o_call rfl .free rfl (f_slices_Concat (still_set (xs := [.slice of f.length cf, .slice o1 (List.length _) k1]) (ys := [])) hfr (hs1.mono ez) (Ex.binds_room0 (by omega)) _) ?_
    rintro _ J3 _ e3 ⟨o3, k3, rfl, hs3, rfl⟩
    have hf := hf.mono e3
    have hfr := hfr.mono e3
    have hto := hto.mono e3
    have hav := hav.mono e3
    have hle := hle.trans e3
    have hk1 := hk1.mono e3
    have hnm := hnm.mono e3
    refine Om rfl ?_
    refine Om rfl ?_
    refine o_lits rfl rfl (by rfl) (by rfl) (by rfl) (by decide) (by decide) (by rfl) .free rfl ?_
    intro b91
    refine o_freeze ?_
    intro ey
    have hf := hf.mono ey
    have hfr := hfr.mono ey
    have hto := hto.mono ey
    have hav := hav.mono ey
    have hle := hle.trans ey
    have hk1 := hk1.mono ey
    have hnm := hnm.mono ey
    have hs3 := hs3.mono ey
    refine o_call rfl .free rfl (f_slices_Concat (m := [n1, n2]) (still_set (xs := [.slice ot t.length ct, .slice (some ⟨_, 0, none⟩) (List.length _) _]) (ys := [])) hto hnm (show t.length + 2 ≤ maxN by unfold maxN; omega) _) ?_
    rintro _ J4 _ e4 ⟨o4, k4, rfl, hs4, rfl⟩
    have hf := hf.mono e4
    have hfr := hfr.mono e4
    have hto := hto.mono e4
    have hav := hav.mono e4
    have hle := hle.trans e4
    have hk1 := hk1.mono e4
    have hnm := hnm.mono e4
    have hs3 := hs3.mono e4
    refine Oa rfl ?_
    refine Oa rfl ?_
    refine o_done ?_
    refine s_here fun hlr => ?_
    have hpl := b.pl_hits av (f ++ [h1, z]) (t ++ [n1, n2]) (fr 120 av (fr 120 av k + 1) + 1)
    refine d_tl 14 rfl rfl ?_
    refine Da 0 rfl (y_fieldAddr rfl) ?_
    refine Dt 1 [13] rfl (y_lO1 rfl) ?_
    refine Da 2 rfl (y_move rfl) ?_
    refine Da 3 rfl (y_move rfl) ?_
    refine Da 4 rfl (y_fieldAddr rfl) ?_
    refine Dt 5 [13] rfl (y_lO1 rfl) ?_
    refine Da 6 rfl (y_move rfl) ?_
    first | refine Da 7 rfl (y_ixD rfl rfl _ rfl) ?_ | refine Da 7 rfl (y_ixP rfl rfl _ rfl) ?_
    refine Dt 8 [13] rfl (y_lIS rfl) ?_
    refine Da 9 rfl (y_move rfl) ?_
    refine Da 10 rfl (y_move rfl) ?_
    refine d_call 11 rfl (by kernel_rfl) rfl rfl .free rfl (ihn (f := f ++ [h1, z]) (t := t ++ [n1, n2]) (by omega) (hf.as 5 b.tree (by omega) rfl) hok.2 hs3 hs4 (by simp [hft]) (hnf.add (by intro y hy; simp only [List.mem_cons, List.not_mem_nil, or_false] at hy; rcases hy with rfl | rfl; exact hok.1.1.1.1.1; exact hok.1.1.1.1.2)) (by first | omega | (simp only [List.length_append, List.length_cons, List.length_nil]; omega)) hav bp _ _ (by omega) (by omega) _) ?_
    rintro _ J2 _ e2 ⟨cs2, rfl, hr_0, rfl⟩
    obtain ⟨o2, k2, _, rfl, -⟩ := hr_0.open
    have hlr := hlr.trans e2
    have hf := hf.mono e2
    have hfr := hfr.mono e2
    have hto := hto.mono e2
    have hav := hav.mono e2
    have hle := hle.trans e2
    have hk1 := hk1.mono e2
    have hnm := hnm.mono e2
    refine ⟨(.inr heldx), ?_⟩
    first | refine Da 12 rfl (y_ixD rfl rfl _ rfl) ?_ | refine Da 12 rfl (y_ixP rfl rfl _ rfl) ?_
    refine d_st 13 rfl (by kernel_rfl) rfl rfl rfl rfl rfl .free (.inl (by kernel_rfl)) ?_
    refine d_done (by kernel_rfl) ?_
    refine s_inBlock ?_
    refine o_enter rfl ?_
    refine o_arith rfl rfl rfl (by omega) .free rfl ?_
    refine Om rfl ?_
    refine o_done ?_
    refine s_round ?_
    refine Se rfl ?_
    refine o_cmp rfl rfl rfl .free rfl ?_
    refine o_done ?_
    refine s_seq ?_
    refine s_condF rfl (by first | rfl | decide | (simp; done) | omega) ?_
    refine s_exit rfl ?_
    refine Se rfl ?_
    refine o_lOS rfl .free rfl ?_
    refine o_st rfl rfl rfl rfl .free ?_
    refine o_done ?_
    refine s_mem (fun w h => h.f2) (s_freeze ?_)
    intro hz
    have hf := hf.mono hz
    refine s_ret (.c rfl .nil) ?_
    subst hn1e hn2e
    exact ⟨_, _, hle.trans hz, fun w h => Mem.sub (L' := pn bp ov av cv _ _ :: L) (by repeat (first | exact List.Sublist.refl _ | apply List.Sublist.cons_cons | apply List.Sublist.cons)) h, _, rfl, .mk' rfl (.cons (hf.as 0 (.node tFun []) (by omega) rfl) (.cons (.ofAtom hnl1) (.cons (.ofAtom hnl2) (.cons (hf.as 3 (s.tree) (by omega) rfl) (.cons (hf.as 4 (u.tree) (by omega) rfl) (.cons (hr_0.mono hz) (.nil))))))) (fun y hy => by cases hy; exact still_set (xs := [_, _, _, _, _, _, _, _, _, _, _, _])) (by simp) hcc (by simp [maxN]) (by simp [maxN]), by rw [show g + (2 + b.nb) = g + 1 + 1 + b.nb by omega]; rfl⟩
   ·skip
    refine i_call 7 rfl rfl rfl .free rfl (f_atom n1 hnl1 _ _) ?_
    rintro _ _ _ _ ⟨rfl, rfl, rfl⟩
    refine ⟨(.inr heldx), ?_⟩
    refine d_two 3 11 (by kernel_rfl) ?_ ?_
    ·skip
     refine i_yld 3 rfl rfl (y_lO1 rfl) .free rfl (.inr heldx) ?_
     refine d_call 11 rfl (by kernel_rfl) rfl rfl .free rfl (f_atom n2 hnl2 _ _) ?_
     rintro _ _ _ _ ⟨rfl, rfl, rfl⟩
     refine ⟨(.inr heldx), ?_⟩
     first | refine Da 12 rfl (y_ixD rfl rfl 1 rfl) ?_ | refine Da 12 rfl (y_ixP rfl rfl 1 rfl) ?_
     refine d_st 13 rfl (by kernel_rfl) rfl rfl rfl rfl rfl .free (.inl (by kernel_rfl)) ?_
     first | refine d_takeA 14 rfl (by kernel_rfl) rfl (.inl (by kernel_rfl)) (y_ixD rfl rfl 2 rfl) .free rfl ?_ | refine d_takeA 14 rfl (by kernel_rfl) rfl (.inl (by kernel_rfl)) (y_ixP rfl rfl 2 rfl) .free rfl ?_
     refine d_st 15 rfl (by kernel_rfl) rfl rfl rfl rfl rfl .free (.inl (by kernel_rfl)) ?_
     refine d_done (by kernel_rfl) ?_
     refine s_inBlock ?_
     refine s_seq ?_
     refine Se rfl ?_
     refine o_lOS rfl .free rfl ?_
     refine o_call rfl .free rfl (f_form_kids hf.rep _) ?_
     rintro _ J _ e0 ⟨ok, ck, rfl, hk1, rfl⟩
     have hf := hf.mono e0
     have hfr := hfr.mono e0
     have hto := hto.mono e0
     have hav := hav.mono e0
     have hle := hle.trans e0
     rw [hki] at hk1
     rw [hki]
     have hnm := hnm.mono e0
     refine o_len_slice rfl .free rfl ?_
     refine Om rfl ?_
     refine o_done ?_
     refine s_block ?_
     refine s_loop ?_
     refine Se rfl ?_
     refine o_cmp rfl rfl rfl .free rfl ?_
     refine o_done ?_
     refine s_seq ?_
     refine s_condT rfl (by first | rfl | decide | (simp; done) | omega) ?_
     refine s_skip ?_
     refine s_seq ?_
     refine s_block ?_
     refine Se rfl ?_
     first | refine o_ixD rfl rfl _ rfl .free rfl ?_ | refine o_ixP rfl rfl _ rfl .free rfl ?_
     refine o_lI1 rfl .free rfl ?_
     refine Oa rfl ?_
     refine o_done ?_
     refine Se rfl ?_
     refine Om rfl ?_
     refine Om rfl ?_
     refine Oa rfl ?_
     refine Oa rfl ?_
     refine o_done ?_
     refine s_seq ?_
     refine Se rfl ?_
     refine o_lOS rfl .free rfl ?_
     refine Om rfl ?_
     refine o_call rfl .free rfl (f_form_bound hf.rep hok0 _ _) ?_
     rintro _ J1 _ e1 ⟨o1, k1, rfl, hs1, rfl⟩
     have hf := hf.mono e1
     have hfr := hfr.mono e1
     have hto := hto.mono e1
     have hav := hav.mono e1
     have hle := hle.trans e1
     have hk1 := hk1.mono e1
     have hnm := hnm.mono e1
     refine Oa rfl ?_
     refine o_done ?_
     refine Se rfl ?_
     refine Om rfl ?_
     refine o_len_slice rfl .free rfl ?_
     refine o_cmp rfl rfl rfl .free rfl ?_
     refine o_done ?_
     first | refine s_tp rfl (by simp [Ex.binds]) ?_ | refine s_tn rfl (by simp [Ex.binds]) ?_ | refine s_true (by simp [look, opd, *]) ?_
     refine o_enter rfl ?_
     refine Om rfl ?_
     refine Om rfl ?_
     refine o_lits rfl rfl (by rfl) (by rfl) (by rfl) (by decide) (by decide) (by rfl) .free rfl ?_
     intro b87
     refine o_freeze ?_
     intro ez
     have hf := hf.mono ez
     have hfr := hfr.mono ez
     have hto := hto.mono ez
     have hav := hav.mono ez
     have hle := hle.trans ez
     have hk1 := hk1.mono ez
     have hnm := hnm.mono ez
     refine o_call rfl .free rfl (f_slices_Concat (still_set (xs := [.slice of f.length cf, .slice o1 (List.length _) k1]) (ys := [])) hfr (hs1.mono ez) (Ex.binds_room0 (by omega)) _) ?_
     rintro _ J3 _ e3 ⟨o3, k3, rfl, hs3, rfl⟩
     have hf := hf.mono e3
     have hfr := hfr.mono e3
     have hto := hto.mono e3
     have hav := hav.mono e3
     have hle := hle.trans e3
     have hk1 := hk1.mono e3
     have hnm := hnm.mono e3
     refine Om rfl ?_
     refine Om rfl ?_
     refine o_lits rfl rfl (by rfl) (by rfl) (by rfl) (by decide) (by decide) (by rfl) .free rfl ?_
     intro b91
     refine o_freeze ?_
     intro ey
     have hf := hf.mono ey
     have hfr := hfr.mono ey
     have hto := hto.mono ey
     have hav := hav.mono ey
     have hle := hle.trans ey
     have hk1 := hk1.mono ey
     have hnm := hnm.mono ey
     have hs3 := hs3.mono ey
     refine o_call rfl .free rfl (f_slices_Concat (m := [n1, n2]) (still_set (xs := [.slice ot t.length ct, .slice (some ⟨_, 0, none⟩) (List.length _) _]) (ys := [])) hto hnm (show t.length + 2 ≤ maxN by unfold maxN; omega) _) ?_
     rintro _ J4 _ e4 ⟨o4, k4, rfl, hs4, rfl⟩
     have hf := hf.mono e4
     have hfr := hfr.mono e4
     have hto := hto.mono e4
     have hav := hav.mono e4
     have hle := hle.trans e4
     have hk1 := hk1.mono e4
     have hnm := hnm.mono e4
     have hs3 := hs3.mono e4
     refine Oa rfl ?_
     refine Oa rfl ?_
     refine o_done ?_
     refine s_here fun hlr => ?_
     have hpl := b.pl_hits av (f ++ [h1, z]) (t ++ [n1, n2]) (fr 120 av (fr 120 av k + 1) + 1)
     refine d_tl 14 rfl rfl ?_
     refine Da 0 rfl (y_fieldAddr rfl) ?_
     refine Dt 1 [13] rfl (y_lO1 rfl) ?_
     refine Da 2 rfl (y_move rfl) ?_
     refine Da 3 rfl (y_move rfl) ?_
     refine Da 4 rfl (y_fieldAddr rfl) ?_
     refine Dt 5 [13] rfl (y_lO1 rfl) ?_
     refine Da 6 rfl (y_move rfl) ?_
     first | refine Da 7 rfl (y_ixD rfl rfl _ rfl) ?_ | refine Da 7 rfl (y_ixP rfl rfl _ rfl) ?_
     refine Dt 8 [13] rfl (y_lIS rfl) ?_
     refine Da 9 rfl (y_move rfl) ?_
     refine Da 10 rfl (y_move rfl) ?_
     refine d_call 11 rfl (by kernel_rfl) rfl rfl .free rfl (ihn (f := f ++ [h1, z]) (t := t ++ [n1, n2]) (by omega) (hf.as 5 b.tree (by omega) rfl) hok.2 hs3 hs4 (by simp [hft]) (hnf.add (by intro y hy; simp only [List.mem_cons, List.not_mem_nil, or_false] at hy; rcases hy with rfl | rfl; exact hok.1.1.1.1.1; exact hok.1.1.1.1.2)) (by first | omega | (simp only [List.length_append, List.length_cons, List.length_nil]; omega)) hav bp _ _ (by omega) (by omega) _) ?_
     rintro _ J2 _ e2 ⟨cs2, rfl, hr_0, rfl⟩
     obtain ⟨o2, k2, _, rfl, -⟩ := hr_0.open
     have hlr := hlr.trans e2
     have hf := hf.mono e2
     have hfr := hfr.mono e2
     have hto := hto.mono e2
     have hav := hav.mono e2
     have hle := hle.trans e2
     have hk1 := hk1.mono e2
     have hnm := hnm.mono e2
     refine ⟨(.inr heldx), ?_⟩
     first | refine Da 12 rfl (y_ixD rfl rfl _ rfl) ?_ | refine Da 12 rfl (y_ixP rfl rfl _ rfl) ?_
     refine d_st 13 rfl (by kernel_rfl) rfl rfl rfl rfl rfl .free (.inl (by kernel_rfl)) ?_
     refine d_done (by kernel_rfl) ?_
     refine s_inBlock ?_
     refine o_enter rfl ?_
     refine o_arith rfl rfl rfl (by omega) .free rfl ?_
     refine Om rfl ?_
     refine o_done ?_
     refine s_round ?_
     refine Se rfl ?_
     refine o_cmp rfl rfl rfl .free rfl ?_
     refine o_done ?_
     refine s_seq ?_
     refine s_condF rfl (by first | rfl | decide | (simp; done) | omega) ?_
     refine s_exit rfl ?_
     refine Se rfl ?_
     refine o_lOS rfl .free rfl ?_
     refine o_st rfl rfl rfl rfl .free ?_
     refine o_done ?_
     refine s_mem (fun w h => h.f2) (s_freeze ?_)
     intro hz
     have hf := hf.mono hz
     refine s_ret (.c rfl .nil) ?_
     subst hn1e hn2e
     exact ⟨_, _, hle.trans hz, fun w h => Mem.sub (L' := pn bp ov av cv _ _ :: L) (by repeat (first | exact List.Sublist.refl _ | apply List.Sublist.cons_cons | apply List.Sublist.cons)) h, _, rfl, .mk' rfl (.cons (hf.as 0 (.node tFun []) (by omega) rfl) (.cons (.ofAtom hnl1) (.cons (.ofAtom hnl2) (.cons (hf.as 3 (s.tree) (by omega) rfl) (.cons (hf.as 4 (u.tree) (by omega) rfl) (.cons (hr_0.mono hz) (.nil))))))) (fun y hy => by cases hy; exact still_set (xs := [_, _, _, _, _, _, _, _, _, _, _, _])) (by simp) hcc (by simp [maxN]) (by simp [maxN]), by rw [show g + (2 + b.nb) = g + 1 + 1 + b.nb by omega]; rfl⟩
    ·skip
     refine i_call 11 rfl rfl rfl .free rfl (f_atom n2 hnl2 _ _) ?_
     rintro _ _ _ _ ⟨rfl, rfl, rfl⟩
     refine ⟨(.inr heldx), ?_⟩
     first | refine Da 12 rfl (y_ixD rfl rfl 1 rfl) ?_ | refine Da 12 rfl (y_ixP rfl rfl 1 rfl) ?_
     refine d_two 3 13 (by kernel_rfl) ?_ ?_
     ·skip
      refine i_yld 3 rfl rfl (y_lO1 rfl) .free rfl (.inr heldx) ?_
      refine d_st 13 rfl (by kernel_rfl) rfl rfl rfl rfl rfl .free (.inl (by kernel_rfl)) ?_
      first | refine d_takeA 14 rfl (by kernel_rfl) rfl (.inl (by kernel_rfl)) (y_ixD rfl rfl 2 rfl) .free rfl ?_ | refine d_takeA 14 rfl (by kernel_rfl) rfl (.inl (by kernel_rfl)) (y_ixP rfl rfl 2 rfl) .free rfl ?_
      refine d_st 15 rfl (by kernel_rfl) rfl rfl rfl rfl rfl .free (.inl (by kernel_rfl)) ?_
      refine d_done (by kernel_rfl) ?_
      refine s_inBlock ?_
      refine s_seq ?_
      refine Se rfl ?_
      refine o_lOS rfl .free rfl ?_
      refine o_call rfl .free rfl (f_form_kids hf.rep _) ?_
      rintro _ J _ e0 ⟨ok, ck, rfl, hk1, rfl⟩
      have hf := hf.mono e0
      have hfr := hfr.mono e0
      have hto := hto.mono e0
      have hav := hav.mono e0
      have hle := hle.trans e0
      rw [hki] at hk1
      rw [hki]
      have hnm := hnm.mono e0
      refine o_len_slice rfl .free rfl ?_
      refine Om rfl ?_
      refine o_done ?_
      refine s_block ?_
      refine s_loop ?_
      refine Se rfl ?_
      refine o_cmp rfl rfl rfl .free rfl ?_
      refine o_done ?_
      refine s_seq ?_
      refine s_condT rfl (by first | rfl | decide | (simp; done) | omega) ?_
      refine s_skip ?_
      refine s_seq ?_
      refine s_block ?_
      refine Se rfl ?_
      first | refine o_ixD rfl rfl _ rfl .free rfl ?_ | refine o_ixP rfl rfl _ rfl .free rfl ?_
      refine o_lI1 rfl .free rfl ?_
      refine Oa rfl ?_
      refine o_done ?_
      refine Se rfl ?_
      refine Om rfl ?_
      refine Om rfl ?_
      refine Oa rfl ?_
      refine Oa rfl ?_
      refine o_done ?_
      refine s_seq ?_
      refine Se rfl ?_
      refine o_lOS rfl .free rfl ?_
      refine Om rfl ?_
      refine o_call rfl .free rfl (f_form_bound hf.rep hok0 _ _) ?_
      rintro _ J1 _ e1 ⟨o1, k1, rfl, hs1, rfl⟩
      have hf := hf.mono e1
      have hfr := hfr.mono e1
      have hto := hto.mono e1
      have hav := hav.mono e1
      have hle := hle.trans e1
      have hk1 := hk1.mono e1
      have hnm := hnm.mono e1
      refine Oa rfl ?_
      refine o_done ?_
      refine Se rfl ?_
      refine Om rfl ?_
      refine o_len_slice rfl .free rfl ?_
      refine o_cmp rfl rfl rfl .free rfl ?_
      refine o_done ?_
      first | refine s_tp rfl (by simp [Ex.binds]) ?_ | refine s_tn rfl (by simp [Ex.binds]) ?_ | refine s_true (by simp [look, opd, *]) ?_
      refine o_enter rfl ?_
      refine Om rfl ?_
      refine Om rfl ?_
      refine o_lits rfl rfl (by rfl) (by rfl) (by rfl) (by decide) (by decide) (by rfl) .free rfl ?_
      intro b87
      refine o_freeze ?_
      intro ez
      have hf := hf.mono ez
      have hfr := hfr.mono ez
      have hto := hto.mono ez
      have hav := hav.mono ez
      have hle := hle.trans ez
      have hk1 := hk1.mono ez
      have hnm := hnm.mono ez
      refine o_call rfl .free rfl (f_slices_Concat (still_set (xs := [.slice of f.length cf, .slice o1 (List.length _) k1]) (ys := [])) hfr (hs1.mono ez) (Ex.binds_room0 (by omega)) _) ?_
      rintro _ J3 _ e3 ⟨o3, k3, rfl, hs3, rfl⟩
      have hf := hf.mono e3
      have hfr := hfr.mono e3
      have hto := hto.mono e3
      have hav := hav.mono e3
      have hle := hle.trans e3
      have hk1 := hk1.mono e3
      have hnm := hnm.mono e3
      refine Om rfl ?_
      refine Om rfl ?_
      refine o_lits rfl rfl (by rfl) (by rfl) (by rfl) (by decide) (by decide) (by rfl) .free rfl ?_
      intro b91
      refine o_freeze ?_
      intro ey
      have hf := hf.mono ey
      have hfr := hfr.mono ey
      have hto := hto.mono ey
      have hav := hav.mono ey
      have hle := hle.trans ey
      have hk1 := hk1.mono ey
      have hnm := hnm.mono ey
      have hs3 := hs3.mono ey
      refine o_call rfl .free rfl (f_slices_Concat (m := [n1, n2]) (still_set (xs := [.slice ot t.length ct, .slice (some ⟨_, 0, none⟩) (List.length _) _]) (ys := [])) hto hnm (show t.length + 2 ≤ maxN by unfold maxN; omega) _) ?_
      rintro _ J4 _ e4 ⟨o4, k4, rfl, hs4, rfl⟩
      have hf := hf.mono e4
      have hfr := hfr.mono e4
      have hto := hto.mono e4
      have hav := hav.mono e4
      have hle := hle.trans e4
      have hk1 := hk1.mono e4
      have hnm := hnm.mono e4
      have hs3 := hs3.mono e4
      refine Oa rfl ?_
      refine Oa rfl ?_
      refine o_done ?_
      refine s_here fun hlr => ?_
      have hpl := b.pl_hits av (f ++ [h1, z]) (t ++ [n1, n2]) (fr 120 av (fr 120 av k + 1) + 1)
      refine d_tl 14 rfl rfl ?_
      refine Da 0 rfl (y_fieldAddr rfl) ?_
      refine Dt 1 [13] rfl (y_lO1 rfl) ?_
      refine Da 2 rfl (y_move rfl) ?_
      refine Da 3 rfl (y_move rfl) ?_
      refine Da 4 rfl (y_fieldAddr rfl) ?_
      refine Dt 5 [13] rfl (y_lO1 rfl) ?_
      refine Da 6 rfl (y_move rfl) ?_
      first | refine Da 7 rfl (y_ixD rfl rfl _ rfl) ?_ | refine Da 7 rfl (y_ixP rfl rfl _ rfl) ?_
      refine Dt 8 [13] rfl (y_lIS rfl) ?_
      refine Da 9 rfl (y_move rfl) ?_
      refine Da 10 rfl (y_move rfl) ?_
      refine d_call 11 rfl (by kernel_rfl) rfl rfl .free rfl (ihn (f := f ++ [h1, z]) (t := t ++ [n1, n2]) (by omega) (hf.as 5 b.tree (by omega) rfl) hok.2 hs3 hs4 (by simp [hft]) (hnf.add (by intro y hy; simp only [List.mem_cons, List.not_mem_nil, or_false] at hy; rcases hy with rfl | rfl; exact hok.1.1.1.1.1; exact hok.1.1.1.1.2)) (by first | omega | (simp only [List.length_append, List.length_cons, List.length_nil]; omega)) hav bp _ _ (by omega) (by omega) _) ?_
      rintro _ J2 _ e2 ⟨cs2, rfl, hr_0, rfl⟩
      obtain ⟨o2, k2, _, rfl, -⟩ := hr_0.open
      have hlr := hlr.trans e2
      have hf := hf.mono e2
      have hfr := hfr.mono e2
      have hto := hto.mono e2
      have hav := hav.mono e2
      have hle := hle.trans e2
      have hk1 := hk1.mono e2
      have hnm := hnm.mono e2
      refine ⟨(.inr heldx), ?_⟩
      first | refine Da 12 rfl (y_ixD rfl rfl _ rfl) ?_ | refine Da 12 rfl (y_ixP rfl rfl _ rfl) ?_
      refine d_st 13 rfl (by kernel_rfl) rfl rfl rfl rfl rfl .free (.inl (by kernel_rfl)) ?_
      refine d_done (by kernel_rfl) ?_
      refine s_inBlock ?_
      refine o_enter rfl ?_
      refine o_arith rfl rfl rfl (by omega) .free rfl ?_
      refine Om rfl ?_
      refine o_done ?_
      refine s_round ?_
      refine Se rfl ?_
      refine o_cmp rfl rfl rfl .free rfl ?_
      refine o_done ?_
      refine s_seq ?_
      refine s_condF rfl (by first | rfl | decide | (simp; done) | omega) ?_
      refine s_exit rfl ?_
      refine Se rfl ?_
      refine o_lOS rfl .free rfl ?_
      refine o_st rfl rfl rfl rfl .free ?_
      refine o_done ?_
      refine s_mem (fun w h => h.f2) (s_freeze ?_)
      intro hz
      have hf := hf.mono hz
      refine s_ret (.c rfl .nil) ?_
      subst hn1e hn2e
      exact ⟨_, _, hle.trans hz, fun w h => Mem.sub (L' := pn bp ov av cv _ _ :: L) (by repeat (first | exact List.Sublist.refl _ | apply List.Sublist.cons_cons | apply List.Sublist.cons)) h, _, rfl, .mk' rfl (.cons (hf.as 0 (.node tFun []) (by omega) rfl) (.cons (.ofAtom hnl1) (.cons (.ofAtom hnl2) (.cons (hf.as 3 (s.tree) (by omega) rfl) (.cons (hf.as 4 (u.tree) (by omega) rfl) (.cons (hr_0.mono hz) (.nil))))))) (fun y hy => by cases hy; exact still_set (xs := [_, _, _, _, _, _, _, _, _, _, _, _])) (by simp) hcc (by simp [maxN]) (by simp [maxN]), by rw [show g + (2 + b.nb) = g + 1 + 1 + b.nb by omega]; rfl⟩
     ·skip
      refine i_st 13 rfl rfl rfl rfl rfl rfl .free (.inl (by kernel_rfl)) ?_
      refine d_yld 3 rfl (by kernel_rfl) rfl (y_lO1 rfl) .free rfl (.inl (by kernel_rfl)) ?_
      first | refine d_takeA 14 rfl (by kernel_rfl) rfl (.inl (by kernel_rfl)) (y_ixD rfl rfl 2 rfl) .free rfl ?_ | refine d_takeA 14 rfl (by kernel_rfl) rfl (.inl (by kernel_rfl)) (y_ixP rfl rfl 2 rfl) .free rfl ?_
      refine d_st 15 rfl (by kernel_rfl) rfl rfl rfl rfl rfl .free (.inl (by kernel_rfl)) ?_
      refine d_done (by kernel_rfl) ?_
      refine s_inBlock ?_
      refine s_seq ?_
      refine Se rfl ?_
      refine o_lOS rfl .free rfl ?_
      refine o_call rfl .free rfl (f_form_kids hf.rep _) ?_
      rintro _ J _ e0 ⟨ok, ck, rfl, hk1, rfl⟩
      have hf := hf.mono e0
      have hfr := hfr.mono e0
      have hto := hto.mono e0
      have hav := hav.mono e0
      have hle := hle.trans e0
      rw [hki] at hk1
      rw [hki]
      have hnm := hnm.mono e0
      refine o_len_slice rfl .free rfl ?_
      refine Om rfl ?_
      refine o_done ?_
      refine s_block ?_
      refine s_loop ?_
      refine Se rfl ?_
      refine o_cmp rfl rfl rfl .free rfl ?_
      refine o_done ?_
      refine s_seq ?_
      refine s_condT rfl (by first | rfl | decide | (simp; done) | omega) ?_
      refine s_skip ?_
      refine s_seq ?_
      refine s_block ?_
      refine Se rfl ?_
      first | refine o_ixD rfl rfl _ rfl .free rfl ?_ | refine o_ixP rfl rfl _ rfl .free rfl ?_
      refine o_lI1 rfl .free rfl ?_
      refine Oa rfl ?_
      refine o_done ?_
      refine Se rfl ?_
      refine Om rfl ?_
      refine Om rfl ?_
      refine Oa rfl ?_
      refine Oa rfl ?_
      refine o_done ?_
      refine s_seq ?_
      refine Se rfl ?_
      refine o_lOS rfl .free rfl ?_
      refine Om rfl ?_
      refine o_call rfl .free rfl (f_form_bound hf.rep hok0 _ _) ?_
      rintro _ J1 _ e1 ⟨o1, k1, rfl, hs1, rfl⟩
      have hf := hf.mono e1
      have hfr := hfr.mono e1
      have hto := hto.mono e1
      have hav := hav.mono e1
      have hle := hle.trans e1
      have hk1 := hk1.mono e1
      have hnm := hnm.mono e1
      refine Oa rfl ?_
      refine o_done ?_
      refine Se rfl ?_
      refine Om rfl ?_
      refine o_len_slice rfl .free rfl ?_
      refine o_cmp rfl rfl rfl .free rfl ?_
      refine o_done ?_
      first | refine s_tp rfl (by simp [Ex.binds]) ?_ | refine s_tn rfl (by simp [Ex.binds]) ?_ | refine s_true (by simp [look, opd, *]) ?_
      refine o_enter rfl ?_
      refine Om rfl ?_
      refine Om rfl ?_
      refine o_lits rfl rfl (by rfl) (by rfl) (by rfl) (by decide) (by decide) (by rfl) .free rfl ?_
      intro b87
      refine o_freeze ?_
      intro ez
      have hf := hf.mono ez
      have hfr := hfr.mono ez
      have hto := hto.mono ez
      have hav := hav.mono ez
      have hle := hle.trans ez
      have hk1 := hk1.mono ez
      have hnm := hnm.mono ez
      refine o_call rfl .free rfl (f_slices_Concat (still_set (xs := [.slice of f.length cf, .slice o1 (List.length _) k1]) (ys := [])) hfr (hs1.mono ez) (Ex.binds_room0 (by omega)) _) ?_
      rintro _ J3 _ e3 ⟨o3, k3, rfl, hs3, rfl⟩
      have hf := hf.mono e3
      have hfr := hfr.mono e3
      have hto := hto.mono e3
      have hav := hav.mono e3
      have hle := hle.trans e3
      have hk1 := hk1.mono e3
      have hnm := hnm.mono e3
      refine Om rfl ?_
      refine Om rfl ?_
      refine o_lits rfl rfl (by rfl) (by rfl) (by rfl) (by decide) (by decide) (by rfl) .free rfl ?_
      intro b91
      refine o_freeze ?_
      intro ey
      have hf := hf.mono ey
      have hfr := hfr.mono ey
      have hto := hto.mono ey
      have hav := hav.mono ey
      have hle := hle.trans ey
      have hk1 := hk1.mono ey
      have hnm := hnm.mono ey
      have hs3 := hs3.mono ey
      refine o_call rfl .free rfl (f_slices_Concat (m := [n1, n2]) (still_set (xs := [.slice ot t.length ct, .slice (some ⟨_, 0, none⟩) (List.length _) _]) (ys := [])) hto hnm (show t.length + 2 ≤ maxN by unfold maxN; omega) _) ?_
      rintro _ J4 _ e4 ⟨o4, k4, rfl, hs4, rfl⟩
      have hf := hf.mono e4
      have hfr := hfr.mono e4
      have hto := hto.mono e4
      have hav := hav.mono e4
      have hle := hle.trans e4
      have hk1 := hk1.mono e4
      have hnm := hnm.mono e4
      have hs3 := hs3.mono e4
      refine Oa rfl ?_
      refine Oa rfl ?_
      refine o_done ?_
      refine s_here fun hlr => ?_
      have hpl := b.pl_hits av (f ++ [h1, z]) (t ++ [n1, n2]) (fr 120 av (fr 120 av k + 1) + 1)
      refine d_tl 14 rfl rfl ?_
      refine Da 0 rfl (y_fieldAddr rfl) ?_
      refine Dt 1 [13] rfl (y_lO1 rfl) ?_
      refine Da 2 rfl (y_move rfl) ?_
      refine Da 3 rfl (y_move rfl) ?_
      refine Da 4 rfl (y_fieldAddr rfl) ?_
      refine Dt 5 [13] rfl (y_lO1 rfl) ?_
      refine Da 6 rfl (y_move rfl) ?_
      first | refine Da 7 rfl (y_ixD rfl rfl _ rfl) ?_ | refine Da 7 rfl (y_ixP rfl rfl _ rfl) ?_
      refine Dt 8 [13] rfl (y_lIS rfl) ?_
      refine Da 9 rfl (y_move rfl) ?_
      refine Da 10 rfl (y_move rfl) ?_
      refine d_call 11 rfl (by kernel_rfl) rfl rfl .free rfl (ihn (f := f ++ [h1, z]) (t := t ++ [n1, n2]) (by omega) (hf.as 5 b.tree (by omega) rfl) hok.2 hs3 hs4 (by simp [hft]) (hnf.add (by intro y hy; simp only [List.mem_cons, List.not_mem_nil, or_false] at hy; rcases hy with rfl | rfl; exact hok.1.1.1.1.1; exact hok.1.1.1.1.2)) (by first | omega | (simp only [List.length_append, List.length_cons, List.length_nil]; omega)) hav bp _ _ (by omega) (by omega) _) ?_
      rintro _ J2 _ e2 ⟨cs2, rfl, hr_0, rfl⟩
      obtain ⟨o2, k2, _, rfl, -⟩ := hr_0.open
      have hlr := hlr.trans e2
      have hf := hf.mono e2
      have hfr := hfr.mono e2
      have hto := hto.mono e2
      have hav := hav.mono e2
      have hle := hle.trans e2
      have hk1 := hk1.mono e2
      have hnm := hnm.mono e2
      refine ⟨(.inr heldx), ?_⟩
      first | refine Da 12 rfl (y_ixD rfl rfl _ rfl) ?_ | refine Da 12 rfl (y_ixP rfl rfl _ rfl) ?_
      refine d_st 13 rfl (by kernel_rfl) rfl rfl rfl rfl rfl .free (.inl (by kernel_rfl)) ?_
      refine d_done (by kernel_rfl) ?_
      refine s_inBlock ?_
      refine o_enter rfl ?_
      refine o_arith rfl rfl rfl (by omega) .free rfl ?_
      refine Om rfl ?_
      refine o_done ?_
      refine s_round ?_
      refine Se rfl ?_
      refine o_cmp rfl rfl rfl .free rfl ?_
      refine o_done ?_
      refine s_seq ?_
      refine s_condF rfl (by first | rfl | decide | (simp; done) | omega) ?_
      refine s_exit rfl ?_
      refine Se rfl ?_
      refine o_lOS rfl .free rfl ?_
      refine o_st rfl rfl rfl rfl .free ?_
      refine o_done ?_
      refine s_mem (fun w h => h.f2) (s_freeze ?_)
      intro hz
      have hf := hf.mono hz
      refine s_ret (.c rfl .nil) ?_
      subst hn1e hn2e
      exact ⟨_, _, hle.trans hz, fun w h => Mem.sub (L' := pn bp ov av cv _ _ :: L) (by repeat (first | exact List.Sublist.refl _ | apply List.Sublist.cons_cons | apply List.Sublist.cons)) h, _, rfl, .mk' rfl (.cons (hf.as 0 (.node tFun []) (by omega) rfl) (.cons (.ofAtom hnl1) (.cons (.ofAtom hnl2) (.cons (hf.as 3 (s.tree) (by omega) rfl) (.cons (hf.as 4 (u.tree) (by omega) rfl) (.cons (hr_0.mono hz) (.nil))))))) (fun y hy => by cases hy; exact still_set (xs := [_, _, _, _, _, _, _, _, _, _, _, _])) (by simp) hcc (by simp [maxN]) (by simp [maxN]), by rw [show g + (2 + b.nb) = g + 1 + 1 + b.nb by omega]; rfl⟩
  ·skip
   have hlen : (Ex.un o a).tree.parts.length = 2 := rfl
   have hki := kids_un o a
   have hhd : (Ex.un o a).tree.head = o.txt := rfl
   simp only [Ex.un.sizeOf_spec] at hlt
   simp only [Ex.ok, Bool.and_eq_true, decide_eq_true_eq] at hok
   simp only [Ex.nb] at hk hg ⊢
   simp only [Ex.size] at hfl
   obtain ⟨_, hrl⟩ : ∃ _ : True, RepL I (Ex.un o a).tree.parts _ := ⟨trivial, hcl⟩
   simp only [show (Ex.un o a).tree.parts = [.node o.txt [], a.tree] from rfl, cellsF, List.cons_append, List.nil_append] at hrl ⊢
   refine s_mem (fun w h => h.f4) ?_
   refine o_enter rfl ?_
   refine Oa rfl ?_
   refine o_done ?_
   refine s_seq ?_
   refine Se rfl ?_
   refine o_lOS rfl .free rfl ?_
   refine o_call rfl .free rfl (f_form_head hf.rep _) ?_
   rintro _ _ _ _ ⟨rfl, rfl, rfl⟩
   refine o_done ?_
   refine s_block ?_
   refine Se rfl ?_
   refine o_cmps rfl rfl rfl .free rfl ?_
   refine Oa rfl ?_
   refine o_done ?_
   first | refine s_fp rfl (by rw [hhd]; cases o <;> decide) ?_ | refine s_fn rfl (by rw [hhd]; cases o <;> decide) ?_ | refine s_false (by simp [look, opd, *]) ?_
   refine Se rfl ?_
   refine o_cmps rfl rfl rfl .free rfl ?_
   refine Oa rfl ?_
   refine o_done ?_
   first | refine s_fp rfl (by rw [hhd]; cases o <;> decide) ?_ | refine s_fn rfl (by rw [hhd]; cases o <;> decide) ?_ | refine s_false (by simp [look, opd, *]) ?_
   refine s_skip ?_
   refine s_inBlock ?_
   refine s_seq ?_
   refine Se rfl ?_
   refine o_lOS rfl .free rfl ?_
   refine o_call rfl .free rfl (f_form_kids hf.rep _) ?_
   rintro _ J _ e0 ⟨ok, ck, rfl, hk1, rfl⟩
   have hf := hf.mono e0
   have hfr := hfr.mono e0
   have hto := hto.mono e0
   have hav := hav.mono e0
   have hle := hle.trans e0
   rw [hki] at hk1
   rw [hki]
   refine o_len_slice rfl .free rfl ?_
   refine Om rfl ?_
   refine o_done ?_
   refine s_block ?_
   refine s_loop ?_
   refine Se rfl ?_
   refine o_cmp rfl rfl rfl .free rfl ?_
   refine o_done ?_
   refine s_seq ?_
   refine s_condT rfl (by first | rfl | decide | (simp; done) | omega) ?_
   refine s_skip ?_
   refine s_seq ?_
   refine s_block ?_
   refine Se rfl ?_
   first | refine o_ixD rfl rfl _ rfl .free rfl ?_ | refine o_ixP rfl rfl _ rfl .free rfl ?_
   refine o_lI1 rfl .free rfl ?_
   refine Oa rfl ?_
   refine o_done ?_
   refine Se rfl ?_
   refine Om rfl ?_
   refine Om rfl ?_
   refine Oa rfl ?_
   refine Oa rfl ?_
   refine o_done ?_
   refine s_seq ?_
   refine Se rfl ?_
   refine o_lOS rfl .free rfl ?_
   refine Om rfl ?_
   refine o_call rfl .free rfl (f_form_bound hf.rep hok0 _ _) ?_
   rintro _ J1 _ e1 ⟨o1, k1, rfl, hs1, rfl⟩
   have hf := hf.mono e1
   have hfr := hfr.mono e1
   have hto := hto.mono e1
   have hav := hav.mono e1
   have hle := hle.trans e1
   have hk1 := hk1.mono e1
   refine Oa rfl ?_
   refine o_done ?_
   refine Se rfl ?_
   refine Om rfl ?_
   refine o_len_slice rfl .free rfl ?_
   refine o_cmp rfl rfl rfl .free rfl ?_
   refine o_done ?_
   first | refine s_fp rfl (by simp [Ex.binds]) ?_ | refine s_fn rfl (by simp [Ex.binds]) ?_ | refine s_false (by simp [look, opd, *]) ?_
   refine s_skip ?_
   refine s_here fun hlr => ?_
   have hpl := a.pl_hits av (f) (t) k
   refine d_tl 14 rfl rfl ?_
   refine Da 0 rfl (y_fieldAddr rfl) ?_
   refine Dt 1 [13] rfl (y_lO1 rfl) ?_
   refine Da 2 rfl (y_move rfl) ?_
   refine Da 3 rfl (y_move rfl) ?_
   refine Da 4 rfl (y_fieldAddr rfl) ?_
   refine Dt 5 [13] rfl (y_lO1 rfl) ?_
   refine Da 6 rfl (y_move rfl) ?_
   first | refine Da 7 rfl (y_ixD rfl rfl _ rfl) ?_ | refine Da 7 rfl (y_ixP rfl rfl _ rfl) ?_
   refine Dt 8 [13] rfl (y_lIS rfl) ?_
   refine Da 9 rfl (y_move rfl) ?_
   refine Da 10 rfl (y_move rfl) ?_
   refine d_call 11 rfl (by kernel_rfl) rfl rfl .free rfl (ihn (f := f) (t := t) (by omega) (hf.as 1 a.tree (by omega) rfl) hok hfr hto (by simp [hft]) hnf (by first | omega | (simp only [List.length_append, List.length_cons, List.length_nil]; omega)) hav bp _ _ (by omega) (by omega) _) ?_
   rintro _ J2 _ e2 ⟨cs2, rfl, hr_0, rfl⟩
   obtain ⟨o2, k2, _, rfl, -⟩ := hr_0.open
   have hlr := hlr.trans e2
   have hf := hf.mono e2
   have hfr := hfr.mono e2
   have hto := hto.mono e2
   have hav := hav.mono e2
   have hle := hle.trans e2
   have hk1 := hk1.mono e2
   refine ⟨(.inr heldx), ?_⟩
   first | refine Da 12 rfl (y_ixD rfl rfl _ rfl) ?_ | refine Da 12 rfl (y_ixP rfl rfl _ rfl) ?_
   refine d_st 13 rfl (by kernel_rfl) rfl rfl rfl rfl rfl .free (.inl (by kernel_rfl)) ?_
   refine d_done (by kernel_rfl) ?_
   refine s_inBlock ?_
   refine o_enter rfl ?_
   refine o_arith rfl rfl rfl (by omega) .free rfl ?_
   refine Om rfl ?_
   refine o_done ?_
   refine s_round ?_
   refine Se rfl ?_
   refine o_cmp rfl rfl rfl .free rfl ?_
   refine o_done ?_
   refine s_seq ?_
   refine s_condF rfl (by first | rfl | decide | (simp; done) | omega) ?_
   refine s_exit rfl ?_
   refine Se rfl ?_
   refine o_lOS rfl .free rfl ?_
   refine o_st rfl rfl rfl rfl .free ?_
   refine o_done ?_
   refine s_mem (fun w h => h.f2) (s_freeze ?_)
   intro hz
   have hf := hf.mono hz
   refine s_ret (.c rfl .nil) ?_
   exact ⟨_, _, hle.trans hz, fun w h => Mem.sub (L' := pn bp ov av cv _ _ :: L) (by repeat (first | exact List.Sublist.refl _ | apply List.Sublist.cons_cons | apply List.Sublist.cons)) h, _, rfl, .mk' rfl (.cons (hf.as 0 (.node o.txt []) (by omega) rfl) (.cons (hr_0.mono hz) (.nil))) (fun y hy => by cases hy; exact still_set (xs := [_, _, _, _])) (by simp) hcc (by simp [maxN]) (by simp [maxN]), by first | rfl | (simp only [Nat.add_assoc]; rfl)⟩
end Go.Proofs.YtdgpnibnogdllaaGreatDoor


/- 'ExprPlain', by the program. No conditions. -/
namespace Go.Proofs.YtdgpnibnogdllaaGreatDoor
set_option maxRecDepth 100000
set_option linter.unusedVariables false
set_option linter.unusedSimpArgs false

theorem f_form_plain {I : Heap} {e : Ex} {cs : List Value} (h : Rep I e.tree cs) (hfine : e.fine = true) (L : Own) : Fun Tryz.prog 21 [.agg cs.toArray] I L (fun v I' L' => ∃ ds, v = .tuple #[.agg (List.toArray ds), .bool true] ∧ Rep I' e.plain.tree ds ∧ L = L') := by
 obtain ⟨oa, c, oaf, cf, rfl, hf⟩ := h.at'
 have hpf := plain_fine hfine
 have hf2 := hfine
 simp only [Ex.fine, Bool.and_eq_true, decide_eq_true_eq, Tree.fits] at hf2
 have hf3 := hpf
 simp only [Ex.fine, Bool.and_eq_true, decide_eq_true_eq, Tree.fits] at hf3
 have hroom := plain_room hf2.1.2
 refine fun_intro (by simp) ?_
 refine Se rfl ?_
 refine o_box rfl rfl .free rfl ?_
 intro b1
 refine o_alloc .free rfl ?_
 intro b2
 refine Oa rfl ?_
 refine o_done ?_
 refine Se rfl ?_
 refine o_lOS rfl .free rfl ?_
 refine o_call rfl .free rfl (f_form_freeNames hf.rep hf2.1.1 (by omega) _) ?_
 rintro _ J1 _ e1 ⟨ov, cv, rfl, hav, rfl⟩
 have hf := hf.mono e1
 refine o_struct rfl rfl rfl .free rfl ?_
 refine o_box rfl rfl .free rfl ?_
 intro b9
 refine Oa rfl ?_
 refine o_done ?_
 refine Se rfl ?_
 refine Om rfl ?_
 refine o_lOS rfl .free rfl ?_
 refine o_mem (L' := pn b9 ov e.free cv 0 0 :: _) (fun w h => h) ?_
 refine o_call rfl .free rfl (f_plainer_expr _ (Nat.lt_succ_self _) hf.rep hf2.1.1 (strs_nil _) (strs_nil _) rfl (fun s hs => by cases hs) (by simp; omega) hav b9 0 0 (by omega) (by omega) _) ?_
 rintro _ J2 _ e2 ⟨ds, rfl, hr, rfl⟩
 have hr : Rep J2 e.plain.tree ds := hr
 obtain ⟨od, cd, _, rfl, -⟩ := hr.open
 have hle := e1.trans e2
 unfold pn
 refine o_alloc .free rfl ?_
 intro b5
 refine o_st rfl rfl rfl rfl .free ?_
 refine o_done ?_
 refine s_seq ?_
 refine d_all 12 rfl rfl ?_
 refine Dt 0 [10] rfl (y_lOS rfl) ?_
 refine Da 1 rfl (y_move rfl) ?_
 refine Da 2 rfl (y_nilCheck rfl) ?_
 first | refine Da 3 rfl (y_fieldAddr rfl) ?_ | refine Da 3 rfl (y_fieldAddr' rfl) ?_
 refine Dt 4 [5, 6, 8, 10] rfl (y_lJ rfl) ?_
 refine Da 5 rfl (y_cmp rfl rfl rfl) ?_
 refine Da 6 rfl (y_move rfl) ?_
 apply d_and 19 22 rfl
 ·intro g3_7 hk
  try simp only [nb] at g3_7
  refine d_take 7 [8, 10] rfl (by kernel_rfl) rfl heldx (y_lOS rfl) (.met rfl rfl) rfl ?_
  refine d_call 8 rfl (by kernel_rfl) rfl rfl (.met rfl rfl) rfl (f_fine hr hf3.1.1 (by omega) _) ?_
  rintro _ _ _ _ ⟨rfl, rfl, rfl⟩
  refine ⟨(.inr heldx), ?_⟩
  refine Da 9 rfl (y_pick_true rfl rfl) ?_
  exact d_fin 2 rfl rfl hk
 ·intro _ hk
  refine Ds 7 rfl rfl rfl ?_
  refine Ds 8 rfl rfl rfl ?_
  refine Da 9 rfl (y_pick_false rfl rfl) ?_
  exact d_fin 2 rfl rfl hk
 refine d_st 10 rfl (by kernel_rfl) rfl rfl rfl rfl rfl .free (.inl (by kernel_rfl)) ?_
 refine d_takeA 11 rfl (by kernel_rfl) rfl (.inl (by kernel_rfl)) (y_assign rfl) .free rfl ?_
 refine d_done (by kernel_rfl) ?_
 refine s_ret (.c rfl (.tmp rfl .nil)) ?_
 refine ⟨J2, L, hle, drops, _, ?_, hr, rfl⟩
 rw [hpf]; simp [retOne]; omega
end Go.Proofs.YtdgpnibnogdllaaGreatDoor


/- 'NormalOf', by the program. No conditions. -/
namespace Go.Proofs.YtdgpnibnogdllaaGreatDoor
set_option maxRecDepth 100000
set_option linter.unusedVariables false
set_option linter.unusedSimpArgs false

/-- The maker's cell, the maker, its map. -/
def NT (bp b bq : Nat) (l : List Txt) : Own := [(bp, .cells [.pointer (some ⟨b, 0, none⟩)].toArray 48 (0, 0)), nz b bq 0 0, (bq, metObj l)]
theorem f_form_normal_1 (bp b bq : Nat) (l seen : List Txt) (s : Txt) (I : Heap) (L : Own) (hx : l = addAll [] seen) : Fun Tryz.prog 23 [.string (str s), .pointer (some ⟨bp, 0, none⟩)] I (NT bp b bq l ++ L) (fun v I' L' => v = .tuple #[] ∧ ∃ y, y = addAll [] (seen ++ [s]) ∧ L' = NT bp b bq y ++ L) := by
 unfold NT nz
 simp only [List.cons_append, List.nil_append]
 refine fun_intro (by simp) ?_
 refine o_enter rfl ?_
 refine o_load rfl (loads_own1 (cs := [.pointer (some ⟨b, 0, none⟩)]) m0 (by rfl) (by rfl)) .free rfl ?_
 refine o_nilCheck rfl .free rfl ?_
 first | refine o_fieldAddr rfl .free rfl ?_ | refine o_fieldAddr' rfl .free rfl ?_
 refine o_load rfl (loads_own1 (cs := [.map (some bq), .int .i64 (0 : Nat), .int .i64 (0 : Nat)]) m1 (by rfl) (by rfl)) .free rfl ?_
 refine Om rfl ?_
 refine o_mapAdd rfl rfl rfl u2 .free ?_
 refine o_done ?_
 refine s_end .nil ?_
 exact ⟨I, _, .refl _, fun w h => h, rfl, addOnce l s, by rw [addAll_append, ← hx]; rfl, rfl⟩
theorem nt_teller (bp b bq : Nat) : ATeller Tryz.prog 23 [.pointer (some ⟨bp, 0, none⟩)] (List Txt) (NT bp b bq) (fun l seen _ => l = addAll [] seen) :=
 ⟨fun x seen s I L hx _ _ => f_form_normal_1 bp b bq x seen s I L hx, fun _ _ _ _ _ h => h⟩
theorem Mem.w2 {I : Heap} {a b p : Nat × Obj} {L : Own} {w : World} (h : Mem I (p :: a :: b :: L) w) : Mem I (a :: b :: p :: L) w := h.perm (List.perm_append_comm_assoc [p] [a, b] L)
theorem f_form_normal {I : Heap} (ht : Tab I) {e : Ex} {cs : List Value} (h : Rep I e.tree cs) (hfine : e.fine = true) (L : Own) : Fun Tryz.prog 11 [.agg cs.toArray] I L (fun v I' L' => ∃ ds, v = .tuple #[.agg (List.toArray ds), .bool e.normal.fine] ∧ Rep I' e.normal.tree ds ∧ L = L') := by
 obtain ⟨oa, c, oaf, cf, rfl, hf⟩ := h.at'
 have hpf := plain_fine hfine
 have hf3 := hpf
 simp only [Ex.fine, Bool.and_eq_true, decide_eq_true_eq, Tree.fits] at hf3
 have hroom := made_room hfine
 have hps : e.plain.size ≤ 120 := hf3.1.2
 have hnok := normal_ok hfine
 have hnl := normal_len hfine
 have hnn := normal_next hfine
 refine fun_intro (by simp) ?_
 refine Se rfl ?_
 refine o_box rfl rfl .free rfl ?_
 intro b1
 refine o_alloc .free rfl ?_
 intro b2
 refine Oa rfl ?_
 refine o_done ?_
 refine Se rfl ?_
 refine o_lOS rfl .free rfl ?_
 refine o_call rfl .free rfl (f_form_plain hf.rep hfine _) ?_
 rintro _ J1 _ e1 ⟨ds, rfl, hr, rfl⟩
 obtain ⟨o1, k1, _, rfl, -⟩ := hr.open
 have ht := ht.mono e1
 refine Om rfl ?_
 refine o_extract rfl rfl .free rfl ?_
 refine o_extract rfl rfl .free rfl ?_
 refine o_alloc .free rfl ?_
 intro b4
 refine o_st rfl rfl rfl rfl .free ?_
 refine Oa rfl ?_
 refine o_done ?_
 refine s_seq ?_
 refine Se rfl ?_
 refine Om rfl ?_
 refine o_not rfl .free rfl ?_
 refine o_done ?_
 first | refine s_fp rfl (by simp) ?_ | refine s_fn rfl (by simp) ?_ | refine s_false (by simp [look, opd, *]) ?_
 refine s_skip ?_
 refine Se rfl ?_
 refine o_makeMap .free rfl ?_
 intro bq
 refine o_struct rfl rfl rfl .free rfl ?_
 refine o_box rfl rfl .free rfl ?_
 intro b18
 refine o_alloc .free rfl ?_
 intro b6
 refine o_st rfl rfl rfl rfl .free ?_
 refine o_done ?_
 refine Se rfl ?_
 refine o_lOS rfl .free rfl ?_
 refine o_makeFunc rfl rfl .free rfl ?_
 refine o_mem (L' := NT b6 b18 bq [] ++ _) (fun w h => h) ?_
 refine o_call rfl .free rfl (f_form_atoms (nt_teller b6 b18 bq) _ (Nat.lt_succ_self _) hr [] [] (by simp only [List.length_nil, Ex.tree_size]; omega) rfl _) ?_
 rintro _ J2 _ e2 ⟨rfl, tk, htk, rfl⟩
 have ht := ht.mono e2
 have hr := hr.mono e2
 obtain rfl : tk = e.tk := htk
 simp only [NT, List.cons_append, List.nil_append]
 refine o_done ?_
 refine Se rfl ?_
 refine o_lO1 rfl .free rfl ?_
 refine o_lOS rfl .free rfl ?_
 refine o_mem (fun w h => Mem.w2 h) ?_
 refine o_call rfl .free rfl (nnormal_of (nmake_all _) ht (Nat.lt_succ_self _) hr hf3.1.1 e.tk b18 bq 0 0 (by omega) (by omega) (by omega) _) ?_
 rintro _ J3 _ e3 ⟨ms, rfl, hr3, rfl⟩
 have hr3 : Rep J3 e.normal.tree ms := hr3
 obtain ⟨o3, k3, _, rfl, -⟩ := hr3.open
 have hle := (e1.trans e2).trans e3
 rw [Nat.zero_add]
 have hge : (e.plain.mk e.tk 0).g = e.made.g := rfl
 rw [hge]
 unfold nz
 refine o_alloc .free rfl ?_
 intro b7
 refine o_st rfl rfl rfl rfl .free ?_
 refine o_done ?_
 refine s_seq ?_
 refine d_all 12 rfl rfl ?_
 refine Dt 0 [10] rfl (y_lOS rfl) ?_
 refine Dt 1 [2, 3, 4, 5, 6, 8, 10] rfl (y_lO1 rfl) ?_
 refine Da 2 rfl (y_nilCheck rfl) ?_
 first | refine Da 3 rfl (y_fieldAddr rfl) ?_ | refine Da 3 rfl (y_fieldAddr' rfl) ?_
 refine Dt 4 [5, 6, 8, 10] rfl (y_lJ rfl) ?_
 refine Da 5 rfl (y_cmp rfl rfl rfl) ?_
 refine Da 6 rfl (y_move rfl) ?_
 apply d_and 31 34 rfl
 ·intro g7_7 hk
  try simp only [nb] at g7_7
  refine d_take 7 [8, 10] rfl (by kernel_rfl) rfl heldx (y_lOS rfl) (.met rfl rfl) rfl ?_
  refine d_call 8 rfl (by kernel_rfl) rfl rfl (.met rfl rfl) rfl (f_fine hr3 hnok (by omega) _) ?_
  rintro _ _ _ _ ⟨rfl, rfl, rfl⟩
  refine ⟨(.inr heldx), ?_⟩
  refine Da 9 rfl (y_pick_true rfl rfl) ?_
  exact d_fin 2 rfl rfl hk
 ·intro _ hk
  refine Ds 7 rfl rfl rfl ?_
  refine Ds 8 rfl rfl rfl ?_
  refine Da 9 rfl (y_pick_false rfl rfl) ?_
  exact d_fin 2 rfl rfl hk
 refine d_st 10 rfl (by kernel_rfl) rfl rfl rfl rfl rfl .free (.inl (by kernel_rfl)) ?_
 refine d_takeA 11 rfl (by kernel_rfl) rfl (.inl (by kernel_rfl)) (y_assign rfl) .free rfl ?_
 refine d_done (by kernel_rfl) ?_
 refine s_ret (.c rfl (.tmp rfl .nil)) ?_
 refine ⟨J3, L, hle, drops, _, ?_, hr3, rfl⟩
 cases hfn : e.normal.fine with
 | false => simp [retOne, hfn]
 | true => have := (hnn hfn).1; simp [retOne, hfn]; omega
theorem f_NormalOf (s : Txt) (hs : s.length ≤ maxN) {I : Heap} (ht : Tab I) (L : Own) : Fun Tryz.prog 5 [.string (str s)] I L (EL (nfOf s) L) := by
 refine fun_intro (by simp) ?_
 refine Se rfl ?_
 refine Oa rfl ?_
 refine Oa rfl ?_
 refine o_done ?_
 refine Se rfl ?_
 refine Om rfl ?_
 refine o_call rfl .free rfl (f_readExpr s hs _ _) ?_
 rintro _ J _ hleJ ⟨t, cs, ok, rfl, hrep, rfl, hpf⟩
 obtain ⟨oc, cc, _, rfl, -⟩ := hrep.open
 refine Om rfl ?_
 refine o_extract rfl rfl .free rfl ?_
 refine o_extract rfl rfl .free rfl ?_
 refine o_alloc .free rfl ?_
 intro b4
 refine o_st rfl rfl rfl rfl .free ?_
 refine Oa rfl ?_
 refine o_done ?_
 refine s_seq ?_
 refine Se rfl ?_
 refine Om rfl ?_
 refine o_not rfl .free rfl ?_
 refine o_done ?_
 refine s_cond rfl ?_ ?_
 ·intro c0
  try simp only [nb] at c0
  refine Se rfl ?_
  refine Oa rfl ?_
  refine Oa rfl ?_
  refine o_done ?_
  refine s_ret (.tmp rfl (.tmp rfl .nil)) ?_
  exact ⟨J, L, hleJ, drops, by rw [nfOf_none (RX_none hpf c0)]; rfl, rfl⟩
 intro c0
 try simp only [nb] at c0
 obtain ⟨e, he, rfl, hok, hlen, hfine, htxt⟩ := RX_some hpf c0
 have hnf := nfOf_some he
 have hnok := normal_ok hfine
 have hnl := normal_len hfine
 refine s_skip ?_
 refine Se rfl ?_
 refine o_lOS rfl .free rfl ?_
 refine o_call rfl .free rfl (f_form_normal (ht.mono hleJ) hrep hfine _) ?_
 rintro _ J2 _ e2 ⟨ds, rfl, hr, rfl⟩
 obtain ⟨od, cd, _, rfl, -⟩ := hr.open
 have hle := hleJ.trans e2
 refine Om rfl ?_
 refine o_extract rfl rfl .free rfl ?_
 refine o_extract rfl rfl .free rfl ?_
 refine o_alloc .free rfl ?_
 intro b6
 refine o_st rfl rfl rfl rfl .free ?_
 refine Oa rfl ?_
 refine o_done ?_
 refine s_seq ?_
 refine Se rfl ?_
 refine Om rfl ?_
 refine o_not rfl .free rfl ?_
 refine o_done ?_
 refine s_cond rfl ?_ ?_
 ·intro c1
  try simp only [nb] at c1
  refine Se rfl ?_
  refine Oa rfl ?_
  refine Oa rfl ?_
  refine o_done ?_
  refine s_ret (.tmp rfl (.tmp rfl .nil)) ?_
  exact ⟨J2, L, hle, drops, by rw [hnf, if_neg (by simpa using c1)]; rfl, rfl⟩
 intro c1
 try simp only [nb] at c1
 refine s_skip ?_
 refine Se rfl ?_
 refine o_lOS rfl .free rfl ?_
 refine o_call rfl .free rfl (f_form_text hr (by rw [Tree.text_len]; unfold maxN; omega) _) ?_
 rintro _ _ _ _ ⟨rfl, rfl, rfl⟩
 refine Oa rfl ?_
 refine Oa rfl ?_
 refine o_done ?_
 refine s_ret (.tmp rfl (.tmp rfl .nil)) ?_
 exact ⟨J2, L, hle, drops, by rw [hnf, if_pos (by simpa using c1)]; rfl, rfl⟩
end Go.Proofs.YtdgpnibnogdllaaGreatDoor


/- The walk of the statement 'FnExactNormalOf'. No conditions. -/
namespace Go.Proofs.YtdgpnibnogdllaaGreatDoor
set_option maxRecDepth 100000
set_option linter.unusedVariables false
set_option linter.unusedSimpArgs false

theorem law_FnExactNormalOf {I : Heap} (ht : Tab I) (s : Txt) (hs : s.length ≤ 9223372036854775807) (L : Own) : Fun Tryz.prog 3 [.string (str s)] I L (YES L) := by
 refine fun_intro (by simp) ?_
 refine Se rfl ?_
 refine Oa rfl ?_
 refine o_done ?_
 refine s_seq ?_
 refine Se rfl ?_
 refine Om rfl ?_
 refine o_len_str rfl .free rfl ?_
 refine o_cmp rfl rfl rfl .free rfl ?_
 refine o_done ?_
 first | refine s_if rfl ?_ ?_ | refine s_ifn rfl ?_ ?_ | refine s_cond rfl ?_ ?_
 ·intro c0
  refine Se rfl ?_
  refine Oa rfl ?_
  refine o_done ?_
  refine s_ret (.tmp rfl .nil) ?_
  exact ⟨I, L, .refl _, fun _ h => h, rfl, rfl⟩
 intro c0
 have hs := (show s.length ≤ maxN by unfold maxN; omega)
 refine s_skip ?_
 refine Se rfl ?_
 refine Om rfl ?_
 refine o_call rfl .free rfl (g_NormalOf s (maxN_maxL hs) _ _) ?_
 rintro _ I1 _ e1 ⟨rfl, rfl⟩
 refine Om rfl ?_
 refine o_extract rfl rfl .free rfl ?_
 refine o_extract rfl rfl .free rfl ?_
 refine Oa rfl ?_
 refine Oa rfl ?_
 refine o_done ?_
 refine Se rfl ?_
 refine Om rfl ?_
 refine o_call rfl .free rfl (f_NormalOf s hs (ht.mono e1) _) ?_
 rintro _ I2 _ e2 ⟨rfl, rfl⟩
 refine Om rfl ?_
 refine o_extract rfl rfl .free rfl ?_
 refine o_extract rfl rfl .free rfl ?_
 refine Oa rfl ?_
 refine Oa rfl ?_
 refine o_done ?_
 refine s_seq ?_
 refine Se rfl ?_
 refine Om rfl ?_
 refine Om rfl ?_
 refine o_cmps rfl rfl rfl .free rfl ?_
 refine Om rfl ?_
 first | refine g_fp rfl rfl (by simp) ?_ | refine g_fn rfl rfl (by simp) ?_
 refine o_move rfl (.met rfl rfl) rfl ?_
 refine o_move rfl (.met rfl rfl) rfl ?_
 refine o_cmpb rfl rfl rfl (.met rfl rfl) rfl ?_
 refine o_pick_false rfl rfl .free rfl ?_
 refine o_done ?_
 first | refine s_fp rfl (by simp) ?_ | refine s_fn rfl (by simp) ?_ | refine s_false (by simp [look, opd, *]) ?_
 refine s_skip ?_
 refine Se rfl ?_
 refine Oa rfl ?_
 refine o_done ?_
 refine s_ret (.tmp rfl .nil) ?_
 exact ⟨I2, L, e1.trans e2, fun _ h => h, rfl, rfl⟩
end Go.Proofs.YtdgpnibnogdllaaGreatDoor


/- The library's table of powers of ten stands at the beginning of a call: from the card's own list of what is laid. No conditions. -/
namespace Go.Proofs.YtdgpnibnogdllaaGreatDoor
set_option maxRecDepth 100000
set_option linter.unusedVariables false
set_option linter.unusedSimpArgs false

/-- The variable has a type of as many whole numbers as the table. -/
def tabTyped (P : Program) (s : String) : Bool :=
 match P.globalNamed s with
 | some g => match (P.globals[g]?).map (·.type) with
  | some t => match P.underlying t with
   | some (.array n e) => (match P.underlying e with | some (.int .u64) => true | _ => false) && (P.cellsOf e == 1) && (P.cellsOf t == n)
   | _ => false
  | none => false
 | none => false
theorem tab_of {laid : List (String × DataW Unit)} {W : World} (h : laidMetH Tryz.prog laid W)
  (hk : (laid.filter fun x => x.1 == "internal/strconv.uint64pow10") = [("internal/strconv.uint64pow10", Lib.tabData .u64 Lib.pow10Tab)]) (ht : tabTyped Tryz.prog "internal/strconv.uint64pow10" = true) : Tab (ofWorld W) := by
 have h1 := h.filter (fun x => x.1 == "internal/strconv.uint64pow10")
 rw [hk] at h1
 have h1 : laidMet Tryz.prog [("internal/strconv.uint64pow10", Lib.tabData .u64 Lib.pow10Tab)] W := (laidMetH_iff.1 h1).1
 have h2 : Lib.TabIs Tryz.prog W "internal/strconv.uint64pow10" .u64 Lib.pow10Tab := by
  unfold tabTyped at ht
  split at ht
  ·rename_i g hg
   split at ht
   ·rename_i t hty
    split at ht
    ·rename_i n e hu
     simp only [Bool.and_eq_true, beq_iff_eq] at ht
     obtain ⟨⟨h3, h4⟩, h5⟩ := ht
     split at h3
     ·rename_i he
      exact Lib.tabIs_of_head hg hty hu he h4 h5 h1
     ·cases h3
    ·cases ht
   ·cases ht
  ·cases ht
 intro L w hm
 unfold Lib.TabIs World.var? at h2 ⊢
 cases hg : Tryz.prog.globalNamed "internal/strconv.uint64pow10" with
 | none => rw [hg] at h2; cases h2
 | some g =>
  rw [hg] at h2
  simp only [Option.bind_some] at h2 ⊢
  cases ho : W.heap[g]? with
  | none => rw [ho] at h2; cases h2
  | some o => rw [ho] at h2; rw [hm.1.1 g o ho]; exact h2
end Go.Proofs.YtdgpnibnogdllaaGreatDoor

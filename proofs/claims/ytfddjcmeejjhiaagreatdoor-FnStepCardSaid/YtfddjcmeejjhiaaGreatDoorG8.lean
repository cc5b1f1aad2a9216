/- Environments of types, by the program: one name more, the environment of a part. No conditions. -/
import Derived.Test.YtfddjcmeejjhiaaGreatDoorG7
namespace Go.Proofs.YtfddjcmeejjhiaaGreatDoor
set_option maxRecDepth 100000
set_option linter.unusedVariables false
set_option linter.unusedSimpArgs false

section rules
variable {P : Program} {f : FuncId} {n : Nat} {I₀ : Heap} {Q : Post} {k : List Item} {E : Env} {I : Heap} {L : Own}
variable {ops : Array Oper} {S : World → Prop} {fuel : Nat} {listed : Array Bool}
theorem forms_buf {I : Heap} {e : TypeId} {ts : List Tree} {vs : List Value} {B : Buf} {m c : Nat} (hl : RepL I ts vs) (hB : BufOk 2 m c vs B) (hm : m = ts.length) (hn : ts.length ≤ maxN) :
  (B = none ∧ ts = []) ∨ ∃ b sp, B = some (b, sp) ∧ bufOwn e vs B = [(b, .cells (vs ++ sp).toArray e (0, 0))] ∧ ts.length ≤ c := by
 cases B with
 | none =>
  obtain ⟨h1, h2, h3⟩ := hB
  exact .inl ⟨rfl, List.length_eq_zero_iff.1 (by omega)⟩
 | some p => exact .inr ⟨p.1, p.2, rfl, rfl, by have := hB.2.1; omega⟩
theorem forms_none (I : Heap) : Forms I none [] 0 := ⟨⟨[], .nil, by simp⟩, fun _ => rfl, by simp, by simp [maxN]⟩
theorem s_freezeForms {todo : List Item} {e : TypeId} {ts : List Tree} {vs : List Value} {B : Buf} {m c : Nat} (hl : RepL I ts vs) (hB : BufOk 2 m c vs B) (hm : m = ts.length) (hn : ts.length ≤ maxN)
  (h : ∀ I' oa c', HLe I I' → bufVal m c B = .slice oa ts.length c' → Forms I' oa ts c' → RunS P f n I₀ Q todo E I' L) : RunS P f n I₀ Q todo E I (bufOwn e vs B ++ L) := by
 rcases forms_buf (e := e) hl hB hm hn with ⟨rfl, rfl⟩ | ⟨b, sp, rfl, _, hc⟩
 ·exact h I none 0 (.refl _) rfl (forms_none _)
 ·exact s_freeze fun hle => h _ (some ⟨b, 0, none⟩) c hle (by rw [← hm]; rfl) (forms_lit hl hle hc hn)
theorem d_freezeForms {e : TypeId} {ts : List Tree} {vs : List Value} {B : Buf} {m c : Nat} (hl : RepL I ts vs) (hB : BufOk 2 m c vs B) (hm : m = ts.length) (hn : ts.length ≤ maxN)
  (h : ∀ I' oa c', HLe I I' → bufVal m c B = .slice oa ts.length c' → Forms I' oa ts c' → RunW P f n I₀ Q ops S fuel listed k E I' L) : RunW P f n I₀ Q ops S fuel listed k E I (bufOwn e vs B ++ L) := by
 rcases forms_buf (e := e) hl hB hm hn with ⟨rfl, rfl⟩ | ⟨b, sp, rfl, _, hc⟩
 ·exact h I none 0 (.refl _) rfl (forms_none _)
 ·exact d_freeze fun hle => h _ (some ⟨b, 0, none⟩) c hle (by rw [← hm]; rfl) (forms_lit hl hle hc hn)
end rules

theorem f_slices_CloneS {I : Heap} {oa : Option Addr} {l : List Txt} {c : Nat} (h : Strs I oa l c) (L : Own) :
  Fun Tryz.prog 155 [.slice oa l.length c] I L (fun v I' L' => ∃ B c', v = bufVal l.length c' B ∧ BufOk 1 l.length c' (l.map sv) B ∧ I = I' ∧ L' = bufOwn 9 (l.map sv) B ++ L) := by
 have hlen := h.len
 unfold maxN at hlen
 refine fun_intro (by simp) ?_
 refine Se rfl (Oa rfl (o_done (s_seq (Se rfl (Om rfl ?_)))))
 refine o_eqlnilS rfl rfl .free rfl ?_
 refine o_done ?_
 refine s_cond rfl ?_ ?_
 ·intro c0
  try simp only [nb] at c0
  have hnil : l = [] := h.nil (by simpa using c0)
  refine Se rfl (Oa rfl (o_done (s_ret (.tmp rfl .nil) ?_)))
  exact ⟨I, L, .refl _, fun _ h => h, none, 0, by rw [hnil]; rfl, by rw [hnil]; exact ⟨rfl, rfl, rfl⟩, rfl, by simp [bufOwn]⟩
 intro c0
 try simp only [nb] at c0
 refine s_skip (Se rfl ?_)
 refine o_lits0 .free rfl ?_
 intro b5
 refine Om rfl ?_
 refine o_appendB (B := some (b5, [])) (xs := []) (ys := l.map sv) (m := 0) (c := 0) (L₀ := L) (by intro kk; simp) (by rfl) rfl rfl ⟨rfl, Nat.le_refl _, rfl⟩ (fun _ h => h) (by simp) h.reads h.none (sv_plain l) (by decide) (by omega) (by decide) .free rfl ?_
 intro B1 c1 hB1
 refine Oa rfl (o_done (s_ret (.tmp rfl .nil) ?_))
 exact ⟨I, _, .refl _, fun _ h => h, B1, c1, by simp [retOne], by simpa using hB1, rfl, rfl⟩
theorem f_slices_CloneF {I : Heap} {oa : Option Addr} {ts : List Tree} {c : Nat} (h : Forms I oa ts c) (L : Own) :
  Fun Tryz.prog 85 [.slice oa ts.length c] I L (fun v I' L' => ∃ vs B c', RepL I ts vs ∧ v = bufVal ts.length c' B ∧ BufOk 2 ts.length c' vs B ∧ I = I' ∧ L' = bufOwn 39 vs B ++ L) := by
 obtain ⟨⟨vs, hl, hst⟩, hn, hc, hlen⟩ := h
 unfold maxN at hlen
 have hvl := hl.length
 refine fun_intro (by simp) ?_
 refine Se rfl (Oa rfl (o_done (s_seq (Se rfl (Om rfl ?_)))))
 refine o_eqlnilS rfl rfl .free rfl ?_
 refine o_done ?_
 refine s_cond rfl ?_ ?_
 ·intro c0
  try simp only [nb] at c0
  have hnil : ts = [] := hn (by simpa using c0)
  subst hnil
  refine Se rfl (Oa rfl (o_done (s_ret (.tmp rfl .nil) ?_)))
  exact ⟨I, L, .refl _, fun _ h => h, [], none, 0, .nil, rfl, ⟨rfl, rfl, rfl⟩, rfl, rfl⟩
 intro c0
 try simp only [nb] at c0
 refine s_skip (Se rfl ?_)
 refine o_lits0 .free rfl ?_
 intro b5
 refine Om rfl ?_
 refine o_appendB (B := some (b5, [])) (xs := []) (ys := vs) (m := 0) (c := 0) (L₀ := L) (by intro kk; simp) (by rfl) rfl rfl ⟨rfl, Nat.le_refl _, rfl⟩ (fun _ h => h) (by omega) (fun a ha => (hst a ha).reads) (fun ha => by rw [hn ha] at hvl; exact List.length_eq_zero_iff.1 (by simpa using hvl)) hl.plain (by decide) (by omega) (by decide) .free rfl ?_
 intro B1 c1 hB1
 refine Oa rfl (o_done (s_ret (.tmp rfl .nil) ?_))
 exact ⟨I, _, .refl _, fun _ h => h, vs, B1, c1, hl, by simp [retOne], by simpa using hB1, rfl, rfl⟩

structure EnvAt (I : Heap) (l : List Txt) (m : List Ty) (oa : Option Addr) (c : Nat) (ob : Option Addr) (c' : Nat) : Prop where
 names : Strs I oa l c
 types : Forms I ob (m.map Ty.tree) c'
 len : l.length = m.length
 small : smallL m
theorem EnvAt.mono {I I' : Heap} (hle : HLe I I') {l : List Txt} {m : List Ty} {oa : Option Addr} {c : Nat} {ob : Option Addr} {c' : Nat} (h : EnvAt I l m oa c ob c') : EnvAt I' l m oa c ob c' :=
 ⟨h.names.mono hle, h.types.mono hle, h.len, h.small⟩
/-- What gives an environment returns. -/
def RV (l : List Txt) (m : List Ty) (L : Own) : Post := fun v I' L' => ∃ oa c ob c', v = .agg [.slice oa (List.length l) c, .slice ob (List.map Ty.tree m).length c'].toArray ∧ EnvAt I' l m oa c ob c' ∧ L = L'
theorem f_env_with {I : Heap} {l : List Txt} {m : List Ty} {oa ob : Option Addr} {c c' : Nat} (h : EnvAt I l m oa c ob c') (x : Txt) (hx : x.length ≤ maxN) {t : Ty} {cs : List Value} (ht : Rep I t.tree cs) (hts : t.size ≤ 16) (hroom : l.length + 1 ≤ maxN) (L : Own) :
  Fun Tryz.prog 124 [.agg [.slice oa l.length c, .slice ob (m.map Ty.tree).length c'].toArray, .string (str x), .agg cs.toArray] I L (RV (l ++ [x]) (m ++ [t]) L) := by
 obtain ⟨ot, ct, _, rfl, -⟩ := ht.open
 have hle0 : HLe I I := .refl _
 have hlm := h.len
 unfold maxN at hroom
 refine fun_intro (by simp) ?_
 refine Se rfl ?_
 refine o_box rfl rfl .free rfl ?_
 intro b3
 refine o_box rfl rfl .free rfl ?_
 intro b5
 refine o_alloc .free rfl ?_
 intro b6
 refine o_done (s_seq ?_)
 refine d_all 14 rfl rfl ?_
 refine Da 0 rfl (y_fieldAddr rfl) ?_
 refine Dt 1 [13] rfl (y_lO1 rfl) ?_
 refine Da 3 rfl (y_move rfl) ?_
 refine Da 6 rfl (y_fieldAddr rfl) ?_
 refine Dt 7 [13] rfl (y_lO1 rfl) ?_
 refine Dt 9 [13] rfl (y_lOS rfl) ?_
 refine d_three 2 4 10 (by kernel_rfl) ?_ ?_ ?_
 ·skip
  refine i_call 2 rfl rfl rfl .free rfl (f_slices_CloneS h.names _) ?_
  rintro _ _ _ _ ⟨B1, c1, rfl, hB1, rfl, rfl⟩
  refine ⟨(.inr heldx), ?_⟩
  refine d_two 4 10 (by kernel_rfl) ?_ ?_
  ·skip
   refine i_lits 4 rfl rfl rfl rfl (by rfl) (by rfl) (by rfl) (by decide) (by decide) (by rfl) .free rfl (.inr heldx) ?_
   intro b11
   refine d_two 5 10 (by kernel_rfl) ?_ ?_
   ·skip
    refine i_appendB 5 (B := B1) (xs := l.map sv) (ys := [sv x]) (m := l.length) (c := c1) rfl rfl (by intro kk; simp) (by rfl) rfl rfl hB1 (by first | exact fun _ h => h | exact fun _ h => h.u1 | exact fun _ h => h.u2 | exact fun _ h => h.u3) (by rfl) (fun a ha => by cases ha; exact reads_ownL (by repeat first | exact .head _ | apply List.Mem.tail | apply List.mem_append_right) (by rfl)) (by simp) (by rfl) (by decide) (by omega) (by decide) .free rfl (fun _ => .inr heldx) ?_
    intro B2 c2 hB2
    rw [show l.map sv ++ [sv x] = (l ++ [x]).map sv by simp] at hB2 ⊢
    refine d_freezeStrs hB2 (by simp) (by simp [maxN]; omega) (by intro s hs; rcases List.mem_append.1 hs with hs | hs; exact h.names.each s hs; rw [List.mem_singleton.1 hs]; exact hx) ?_
    intro J1 o1 k1 e1 hbv1 hst1
    refine d_put (t := 12) rfl hbv1 ?_
    have h := h.mono e1
    have ht := ht.mono e1
    refine d_two 8 10 (by kernel_rfl) ?_ ?_
    ·skip
     refine i_call 8 rfl rfl rfl .free rfl (f_slices_CloneF h.types _) ?_
     rintro _ _ _ _ ⟨vs, B3, c3, hl3, rfl, hB3, rfl, rfl⟩
     refine ⟨(.inr heldx), ?_⟩
     refine d_lits 10 rfl (by kernel_rfl) rfl rfl rfl (by rfl) (by rfl) (by rfl) (by decide) (by decide) (by rfl) .free rfl (.inr heldx) ?_
     intro b17
     refine d_appendB 11 (B := B3) (xs := vs) (ys := [.string (str t.tree.atom), .slice ot t.tree.parts.length ct]) (m := (m.map Ty.tree).length) (c := c3) rfl (by kernel_rfl) rfl (by intro kk; simp) (by rfl) rfl rfl hB3 (by first | exact fun _ h => h | exact fun _ h => h.u1 | exact fun _ h => h.u2 | exact fun _ h => h.u3) (by rfl) (fun a ha => by cases ha; exact reads_ownL (by repeat first | exact .head _ | apply List.Mem.tail | apply List.mem_append_right) (by rfl)) (by simp) (by rfl) (by decide) (by simp; omega) (by decide) .free rfl (fun _ => .inr heldx) ?_
     intro B4 c4 hB4
     refine d_freezeForms (ts := (m ++ [t]).map Ty.tree) (by simpa using hl3.append (.one ht)) hB4 (by simp) (by simp [maxN]; omega) ?_
     intro J2 o2 k2 e2 hbv2 hst2
     have hle0 := e1.trans e2
     refine d_put (t := 18) rfl hbv2 ?_
     refine Da 12 rfl (y_struct rfl rfl rfl) ?_
     refine d_st 13 rfl (by kernel_rfl) rfl rfl rfl rfl rfl .free (.inl (by kernel_rfl)) ?_
     refine d_done (by kernel_rfl) ?_
     refine s_ret (.c rfl .nil) ?_
     exact ⟨J2, L, e1.trans e2, drops, o1, k1, o2, k2, rfl, ⟨hst1.mono e2, hst2, by simp [hlm], h.small.add hts⟩, rfl⟩
    ·skip
     refine i_lits 10 rfl rfl rfl rfl (by rfl) (by rfl) (by rfl) (by decide) (by decide) (by rfl) .free rfl (.inr heldx) ?_
     intro b17
     refine d_call 8 rfl (by kernel_rfl) rfl rfl .free rfl (f_slices_CloneF h.types _) ?_
     rintro _ _ _ _ ⟨vs, B3, c3, hl3, rfl, hB3, rfl, rfl⟩
     refine ⟨(.inr heldx), ?_⟩
     refine d_appendB 11 (B := B3) (xs := vs) (ys := [.string (str t.tree.atom), .slice ot t.tree.parts.length ct]) (m := (m.map Ty.tree).length) (c := c3) rfl (by kernel_rfl) rfl (by intro kk; simp) (by rfl) rfl rfl hB3 (by first | exact fun _ h => h | exact fun _ h => h.u1 | exact fun _ h => h.u2 | exact fun _ h => h.u3) (by rfl) (fun a ha => by cases ha; exact reads_ownL (by repeat first | exact .head _ | apply List.Mem.tail | apply List.mem_append_right) (by rfl)) (by simp) (by rfl) (by decide) (by simp; omega) (by decide) .free rfl (fun _ => .inr heldx) ?_
     intro B4 c4 hB4
     refine d_freezeForms (ts := (m ++ [t]).map Ty.tree) (by simpa using hl3.append (.one ht)) hB4 (by simp) (by simp [maxN]; omega) ?_
     intro J2 o2 k2 e2 hbv2 hst2
     have hle0 := e1.trans e2
     refine d_put (t := 18) rfl hbv2 ?_
     refine Da 12 rfl (y_struct rfl rfl rfl) ?_
     refine d_st 13 rfl (by kernel_rfl) rfl rfl rfl rfl rfl .free (.inl (by kernel_rfl)) ?_
     refine d_done (by kernel_rfl) ?_
     refine s_ret (.c rfl .nil) ?_
     exact ⟨J2, L, e1.trans e2, drops, o1, k1, o2, k2, rfl, ⟨hst1.mono e2, hst2, by simp [hlm], h.small.add hts⟩, rfl⟩
   ·skip
    refine i_lits 10 rfl rfl rfl rfl (by rfl) (by rfl) (by rfl) (by decide) (by decide) (by rfl) .free rfl (.inr heldx) ?_
    intro b17
    refine d_appendB 5 (B := B1) (xs := l.map sv) (ys := [sv x]) (m := l.length) (c := c1) rfl (by kernel_rfl) rfl (by intro kk; simp) (by rfl) rfl rfl hB1 (by first | exact fun _ h => h | exact fun _ h => h.u1 | exact fun _ h => h.u2 | exact fun _ h => h.u3) (by rfl) (fun a ha => by cases ha; exact reads_ownL (by repeat first | exact .head _ | apply List.Mem.tail | apply List.mem_append_right) (by rfl)) (by simp) (by rfl) (by decide) (by omega) (by decide) .free rfl (fun _ => .inr heldx) ?_
    intro B2 c2 hB2
    rw [show l.map sv ++ [sv x] = (l ++ [x]).map sv by simp] at hB2 ⊢
    refine d_freezeStrs hB2 (by simp) (by simp [maxN]; omega) (by intro s hs; rcases List.mem_append.1 hs with hs | hs; exact h.names.each s hs; rw [List.mem_singleton.1 hs]; exact hx) ?_
    intro J1 o1 k1 e1 hbv1 hst1
    refine d_put (t := 12) rfl hbv1 ?_
    have h := h.mono e1
    have ht := ht.mono e1
    refine d_call 8 rfl (by kernel_rfl) rfl rfl .free rfl (f_slices_CloneF h.types _) ?_
    rintro _ _ _ _ ⟨vs, B3, c3, hl3, rfl, hB3, rfl, rfl⟩
    refine ⟨(.inr heldx), ?_⟩
    refine d_appendB 11 (B := B3) (xs := vs) (ys := [.string (str t.tree.atom), .slice ot t.tree.parts.length ct]) (m := (m.map Ty.tree).length) (c := c3) rfl (by kernel_rfl) rfl (by intro kk; simp) (by rfl) rfl rfl hB3 (by first | exact fun _ h => h | exact fun _ h => h.u1 | exact fun _ h => h.u2 | exact fun _ h => h.u3) (by rfl) (fun a ha => by cases ha; exact reads_ownL (by repeat first | exact .head _ | apply List.Mem.tail | apply List.mem_append_right) (by rfl)) (by simp) (by rfl) (by decide) (by simp; omega) (by decide) .free rfl (fun _ => .inr heldx) ?_
    intro B4 c4 hB4
    refine d_freezeForms (ts := (m ++ [t]).map Ty.tree) (by simpa using hl3.append (.one ht)) hB4 (by simp) (by simp [maxN]; omega) ?_
    intro J2 o2 k2 e2 hbv2 hst2
    have hle0 := e1.trans e2
    refine d_put (t := 18) rfl hbv2 ?_
    refine Da 12 rfl (y_struct rfl rfl rfl) ?_
    refine d_st 13 rfl (by kernel_rfl) rfl rfl rfl rfl rfl .free (.inl (by kernel_rfl)) ?_
    refine d_done (by kernel_rfl) ?_
    refine s_ret (.c rfl .nil) ?_
    exact ⟨J2, L, e1.trans e2, drops, o1, k1, o2, k2, rfl, ⟨hst1.mono e2, hst2, by simp [hlm], h.small.add hts⟩, rfl⟩
  ·skip
   refine i_lits 10 rfl rfl rfl rfl (by rfl) (by rfl) (by rfl) (by decide) (by decide) (by rfl) .free rfl (.inr heldx) ?_
   intro b17
   refine d_lits 4 rfl (by kernel_rfl) rfl rfl rfl (by rfl) (by rfl) (by rfl) (by decide) (by decide) (by rfl) .free rfl (.inr heldx) ?_
   intro b11
   refine d_appendB 5 (B := B1) (xs := l.map sv) (ys := [sv x]) (m := l.length) (c := c1) rfl (by kernel_rfl) rfl (by intro kk; simp) (by rfl) rfl rfl hB1 (by first | exact fun _ h => h | exact fun _ h => h.u1 | exact fun _ h => h.u2 | exact fun _ h => h.u3) (by rfl) (fun a ha => by cases ha; exact reads_ownL (by repeat first | exact .head _ | apply List.Mem.tail | apply List.mem_append_right) (by rfl)) (by simp) (by rfl) (by decide) (by omega) (by decide) .free rfl (fun _ => .inr heldx) ?_
   intro B2 c2 hB2
   rw [show l.map sv ++ [sv x] = (l ++ [x]).map sv by simp] at hB2 ⊢
   refine d_freezeStrs hB2 (by simp) (by simp [maxN]; omega) (by intro s hs; rcases List.mem_append.1 hs with hs | hs; exact h.names.each s hs; rw [List.mem_singleton.1 hs]; exact hx) ?_
   intro J1 o1 k1 e1 hbv1 hst1
   refine d_put (t := 12) rfl hbv1 ?_
   have h := h.mono e1
   have ht := ht.mono e1
   refine d_call 8 rfl (by kernel_rfl) rfl rfl .free rfl (f_slices_CloneF h.types _) ?_
   rintro _ _ _ _ ⟨vs, B3, c3, hl3, rfl, hB3, rfl, rfl⟩
   refine ⟨(.inr heldx), ?_⟩
   refine d_appendB 11 (B := B3) (xs := vs) (ys := [.string (str t.tree.atom), .slice ot t.tree.parts.length ct]) (m := (m.map Ty.tree).length) (c := c3) rfl (by kernel_rfl) rfl (by intro kk; simp) (by rfl) rfl rfl hB3 (by first | exact fun _ h => h | exact fun _ h => h.u1 | exact fun _ h => h.u2 | exact fun _ h => h.u3) (by rfl) (fun a ha => by cases ha; exact reads_ownL (by repeat first | exact .head _ | apply List.Mem.tail | apply List.mem_append_right) (by rfl)) (by simp) (by rfl) (by decide) (by simp; omega) (by decide) .free rfl (fun _ => .inr heldx) ?_
   intro B4 c4 hB4
   refine d_freezeForms (ts := (m ++ [t]).map Ty.tree) (by simpa using hl3.append (.one ht)) hB4 (by simp) (by simp [maxN]; omega) ?_
   intro J2 o2 k2 e2 hbv2 hst2
   have hle0 := e1.trans e2
   refine d_put (t := 18) rfl hbv2 ?_
   refine Da 12 rfl (y_struct rfl rfl rfl) ?_
   refine d_st 13 rfl (by kernel_rfl) rfl rfl rfl rfl rfl .free (.inl (by kernel_rfl)) ?_
   refine d_done (by kernel_rfl) ?_
   refine s_ret (.c rfl .nil) ?_
   exact ⟨J2, L, e1.trans e2, drops, o1, k1, o2, k2, rfl, ⟨hst1.mono e2, hst2, by simp [hlm], h.small.add hts⟩, rfl⟩
 ·skip
  refine i_lits 4 rfl rfl rfl rfl (by rfl) (by rfl) (by rfl) (by decide) (by decide) (by rfl) .free rfl (.inr heldx) ?_
  intro b11
  refine d_two 2 10 (by kernel_rfl) ?_ ?_
  ·skip
   refine i_call 2 rfl rfl rfl .free rfl (f_slices_CloneS h.names _) ?_
   rintro _ _ _ _ ⟨B1, c1, rfl, hB1, rfl, rfl⟩
   refine ⟨(.inr heldx), ?_⟩
   refine d_two 5 10 (by kernel_rfl) ?_ ?_
   ·skip
    refine i_appendB 5 (B := B1) (xs := l.map sv) (ys := [sv x]) (m := l.length) (c := c1) rfl rfl (by intro kk; simp) (by rfl) rfl rfl hB1 (by first | exact fun _ h => h | exact fun _ h => h.u1 | exact fun _ h => h.u2 | exact fun _ h => h.u3) (by rfl) (fun a ha => by cases ha; exact reads_ownL (by repeat first | exact .head _ | apply List.Mem.tail | apply List.mem_append_right) (by rfl)) (by simp) (by rfl) (by decide) (by omega) (by decide) .free rfl (fun _ => .inr heldx) ?_
    intro B2 c2 hB2
    rw [show l.map sv ++ [sv x] = (l ++ [x]).map sv by simp] at hB2 ⊢
    refine d_freezeStrs hB2 (by simp) (by simp [maxN]; omega) (by intro s hs; rcases List.mem_append.1 hs with hs | hs; exact h.names.each s hs; rw [List.mem_singleton.1 hs]; exact hx) ?_
    intro J1 o1 k1 e1 hbv1 hst1
    refine d_put (t := 12) rfl hbv1 ?_
    have h := h.mono e1
    have ht := ht.mono e1
    refine d_two 8 10 (by kernel_rfl) ?_ ?_
    ·skip
     refine i_call 8 rfl rfl rfl .free rfl (f_slices_CloneF h.types _) ?_
     rintro _ _ _ _ ⟨vs, B3, c3, hl3, rfl, hB3, rfl, rfl⟩
     refine ⟨(.inr heldx), ?_⟩
     refine d_lits 10 rfl (by kernel_rfl) rfl rfl rfl (by rfl) (by rfl) (by rfl) (by decide) (by decide) (by rfl) .free rfl (.inr heldx) ?_
     intro b17
     refine d_appendB 11 (B := B3) (xs := vs) (ys := [.string (str t.tree.atom), .slice ot t.tree.parts.length ct]) (m := (m.map Ty.tree).length) (c := c3) rfl (by kernel_rfl) rfl (by intro kk; simp) (by rfl) rfl rfl hB3 (by first | exact fun _ h => h | exact fun _ h => h.u1 | exact fun _ h => h.u2 | exact fun _ h => h.u3) (by rfl) (fun a ha => by cases ha; exact reads_ownL (by repeat first | exact .head _ | apply List.Mem.tail | apply List.mem_append_right) (by rfl)) (by simp) (by rfl) (by decide) (by simp; omega) (by decide) .free rfl (fun _ => .inr heldx) ?_
     intro B4 c4 hB4
     refine d_freezeForms (ts := (m ++ [t]).map Ty.tree) (by simpa using hl3.append (.one ht)) hB4 (by simp) (by simp [maxN]; omega) ?_
     intro J2 o2 k2 e2 hbv2 hst2
     have hle0 := e1.trans e2
     refine d_put (t := 18) rfl hbv2 ?_
     refine Da 12 rfl (y_struct rfl rfl rfl) ?_
     refine d_st 13 rfl (by kernel_rfl) rfl rfl rfl rfl rfl .free (.inl (by kernel_rfl)) ?_
     refine d_done (by kernel_rfl) ?_
     refine s_ret (.c rfl .nil) ?_
     exact ⟨J2, L, e1.trans e2, drops, o1, k1, o2, k2, rfl, ⟨hst1.mono e2, hst2, by simp [hlm], h.small.add hts⟩, rfl⟩
    ·skip
     refine i_lits 10 rfl rfl rfl rfl (by rfl) (by rfl) (by rfl) (by decide) (by decide) (by rfl) .free rfl (.inr heldx) ?_
     intro b17
     refine d_call 8 rfl (by kernel_rfl) rfl rfl .free rfl (f_slices_CloneF h.types _) ?_
     rintro _ _ _ _ ⟨vs, B3, c3, hl3, rfl, hB3, rfl, rfl⟩
     refine ⟨(.inr heldx), ?_⟩
     refine d_appendB 11 (B := B3) (xs := vs) (ys := [.string (str t.tree.atom), .slice ot t.tree.parts.length ct]) (m := (m.map Ty.tree).length) (c := c3) rfl (by kernel_rfl) rfl (by intro kk; simp) (by rfl) rfl rfl hB3 (by first | exact fun _ h => h | exact fun _ h => h.u1 | exact fun _ h => h.u2 | exact fun _ h => h.u3) (by rfl) (fun a ha => by cases ha; exact reads_ownL (by repeat first | exact .head _ | apply List.Mem.tail | apply List.mem_append_right) (by rfl)) (by simp) (by rfl) (by decide) (by simp; omega) (by decide) .free rfl (fun _ => .inr heldx) ?_
     intro B4 c4 hB4
     refine d_freezeForms (ts := (m ++ [t]).map Ty.tree) (by simpa using hl3.append (.one ht)) hB4 (by simp) (by simp [maxN]; omega) ?_
     intro J2 o2 k2 e2 hbv2 hst2
     have hle0 := e1.trans e2
     refine d_put (t := 18) rfl hbv2 ?_
     refine Da 12 rfl (y_struct rfl rfl rfl) ?_
     refine d_st 13 rfl (by kernel_rfl) rfl rfl rfl rfl rfl .free (.inl (by kernel_rfl)) ?_
     refine d_done (by kernel_rfl) ?_
     refine s_ret (.c rfl .nil) ?_
     exact ⟨J2, L, e1.trans e2, drops, o1, k1, o2, k2, rfl, ⟨hst1.mono e2, hst2, by simp [hlm], h.small.add hts⟩, rfl⟩
   ·skip
    refine i_lits 10 rfl rfl rfl rfl (by rfl) (by rfl) (by rfl) (by decide) (by decide) (by rfl) .free rfl (.inr heldx) ?_
    intro b17
    refine d_appendB 5 (B := B1) (xs := l.map sv) (ys := [sv x]) (m := l.length) (c := c1) rfl (by kernel_rfl) rfl (by intro kk; simp) (by rfl) rfl rfl hB1 (by first | exact fun _ h => h | exact fun _ h => h.u1 | exact fun _ h => h.u2 | exact fun _ h => h.u3) (by rfl) (fun a ha => by cases ha; exact reads_ownL (by repeat first | exact .head _ | apply List.Mem.tail | apply List.mem_append_right) (by rfl)) (by simp) (by rfl) (by decide) (by omega) (by decide) .free rfl (fun _ => .inr heldx) ?_
    intro B2 c2 hB2
    rw [show l.map sv ++ [sv x] = (l ++ [x]).map sv by simp] at hB2 ⊢
    refine d_freezeStrs hB2 (by simp) (by simp [maxN]; omega) (by intro s hs; rcases List.mem_append.1 hs with hs | hs; exact h.names.each s hs; rw [List.mem_singleton.1 hs]; exact hx) ?_
    intro J1 o1 k1 e1 hbv1 hst1
    refine d_put (t := 12) rfl hbv1 ?_
    have h := h.mono e1
    have ht := ht.mono e1
    refine d_call 8 rfl (by kernel_rfl) rfl rfl .free rfl (f_slices_CloneF h.types _) ?_
    rintro _ _ _ _ ⟨vs, B3, c3, hl3, rfl, hB3, rfl, rfl⟩
    refine ⟨(.inr heldx), ?_⟩
    refine d_appendB 11 (B := B3) (xs := vs) (ys := [.string (str t.tree.atom), .slice ot t.tree.parts.length ct]) (m := (m.map Ty.tree).length) (c := c3) rfl (by kernel_rfl) rfl (by intro kk; simp) (by rfl) rfl rfl hB3 (by first | exact fun _ h => h | exact fun _ h => h.u1 | exact fun _ h => h.u2 | exact fun _ h => h.u3) (by rfl) (fun a ha => by cases ha; exact reads_ownL (by repeat first | exact .head _ | apply List.Mem.tail | apply List.mem_append_right) (by rfl)) (by simp) (by rfl) (by decide) (by simp; omega) (by decide) .free rfl (fun _ => .inr heldx) ?_
    intro B4 c4 hB4
    refine d_freezeForms (ts := (m ++ [t]).map Ty.tree) (by simpa using hl3.append (.one ht)) hB4 (by simp) (by simp [maxN]; omega) ?_
    intro J2 o2 k2 e2 hbv2 hst2
    have hle0 := e1.trans e2
    refine d_put (t := 18) rfl hbv2 ?_
    refine Da 12 rfl (y_struct rfl rfl rfl) ?_
    refine d_st 13 rfl (by kernel_rfl) rfl rfl rfl rfl rfl .free (.inl (by kernel_rfl)) ?_
    refine d_done (by kernel_rfl) ?_
    refine s_ret (.c rfl .nil) ?_
    exact ⟨J2, L, e1.trans e2, drops, o1, k1, o2, k2, rfl, ⟨hst1.mono e2, hst2, by simp [hlm], h.small.add hts⟩, rfl⟩
  ·skip
   refine i_lits 10 rfl rfl rfl rfl (by rfl) (by rfl) (by rfl) (by decide) (by decide) (by rfl) .free rfl (.inr heldx) ?_
   intro b17
   refine d_call 2 rfl (by kernel_rfl) rfl rfl .free rfl (f_slices_CloneS h.names _) ?_
   rintro _ _ _ _ ⟨B1, c1, rfl, hB1, rfl, rfl⟩
   refine ⟨(.inr heldx), ?_⟩
   refine d_appendB 5 (B := B1) (xs := l.map sv) (ys := [sv x]) (m := l.length) (c := c1) rfl (by kernel_rfl) rfl (by intro kk; simp) (by rfl) rfl rfl hB1 (by first | exact fun _ h => h | exact fun _ h => h.u1 | exact fun _ h => h.u2 | exact fun _ h => h.u3) (by rfl) (fun a ha => by cases ha; exact reads_ownL (by repeat first | exact .head _ | apply List.Mem.tail | apply List.mem_append_right) (by rfl)) (by simp) (by rfl) (by decide) (by omega) (by decide) .free rfl (fun _ => .inr heldx) ?_
   intro B2 c2 hB2
   rw [show l.map sv ++ [sv x] = (l ++ [x]).map sv by simp] at hB2 ⊢
   refine d_freezeStrs hB2 (by simp) (by simp [maxN]; omega) (by intro s hs; rcases List.mem_append.1 hs with hs | hs; exact h.names.each s hs; rw [List.mem_singleton.1 hs]; exact hx) ?_
   intro J1 o1 k1 e1 hbv1 hst1
   refine d_put (t := 12) rfl hbv1 ?_
   have h := h.mono e1
   have ht := ht.mono e1
   refine d_call 8 rfl (by kernel_rfl) rfl rfl .free rfl (f_slices_CloneF h.types _) ?_
   rintro _ _ _ _ ⟨vs, B3, c3, hl3, rfl, hB3, rfl, rfl⟩
   refine ⟨(.inr heldx), ?_⟩
   refine d_appendB 11 (B := B3) (xs := vs) (ys := [.string (str t.tree.atom), .slice ot t.tree.parts.length ct]) (m := (m.map Ty.tree).length) (c := c3) rfl (by kernel_rfl) rfl (by intro kk; simp) (by rfl) rfl rfl hB3 (by first | exact fun _ h => h | exact fun _ h => h.u1 | exact fun _ h => h.u2 | exact fun _ h => h.u3) (by rfl) (fun a ha => by cases ha; exact reads_ownL (by repeat first | exact .head _ | apply List.Mem.tail | apply List.mem_append_right) (by rfl)) (by simp) (by rfl) (by decide) (by simp; omega) (by decide) .free rfl (fun _ => .inr heldx) ?_
   intro B4 c4 hB4
   refine d_freezeForms (ts := (m ++ [t]).map Ty.tree) (by simpa using hl3.append (.one ht)) hB4 (by simp) (by simp [maxN]; omega) ?_
   intro J2 o2 k2 e2 hbv2 hst2
   have hle0 := e1.trans e2
   refine d_put (t := 18) rfl hbv2 ?_
   refine Da 12 rfl (y_struct rfl rfl rfl) ?_
   refine d_st 13 rfl (by kernel_rfl) rfl rfl rfl rfl rfl .free (.inl (by kernel_rfl)) ?_
   refine d_done (by kernel_rfl) ?_
   refine s_ret (.c rfl .nil) ?_
   exact ⟨J2, L, e1.trans e2, drops, o1, k1, o2, k2, rfl, ⟨hst1.mono e2, hst2, by simp [hlm], h.small.add hts⟩, rfl⟩
 ·skip
  refine i_lits 10 rfl rfl rfl rfl (by rfl) (by rfl) (by rfl) (by decide) (by decide) (by rfl) .free rfl (.inr heldx) ?_
  intro b17
  refine d_two 2 4 (by kernel_rfl) ?_ ?_
  ·skip
   refine i_call 2 rfl rfl rfl .free rfl (f_slices_CloneS h.names _) ?_
   rintro _ _ _ _ ⟨B1, c1, rfl, hB1, rfl, rfl⟩
   refine ⟨(.inr heldx), ?_⟩
   refine d_lits 4 rfl (by kernel_rfl) rfl rfl rfl (by rfl) (by rfl) (by rfl) (by decide) (by decide) (by rfl) .free rfl (.inr heldx) ?_
   intro b11
   refine d_appendB 5 (B := B1) (xs := l.map sv) (ys := [sv x]) (m := l.length) (c := c1) rfl (by kernel_rfl) rfl (by intro kk; simp) (by rfl) rfl rfl hB1 (by first | exact fun _ h => h | exact fun _ h => h.u1 | exact fun _ h => h.u2 | exact fun _ h => h.u3) (by rfl) (fun a ha => by cases ha; exact reads_ownL (by repeat first | exact .head _ | apply List.Mem.tail | apply List.mem_append_right) (by rfl)) (by simp) (by rfl) (by decide) (by omega) (by decide) .free rfl (fun _ => .inr heldx) ?_
   intro B2 c2 hB2
   rw [show l.map sv ++ [sv x] = (l ++ [x]).map sv by simp] at hB2 ⊢
   refine d_freezeStrs hB2 (by simp) (by simp [maxN]; omega) (by intro s hs; rcases List.mem_append.1 hs with hs | hs; exact h.names.each s hs; rw [List.mem_singleton.1 hs]; exact hx) ?_
   intro J1 o1 k1 e1 hbv1 hst1
   refine d_put (t := 12) rfl hbv1 ?_
   have h := h.mono e1
   have ht := ht.mono e1
   refine d_call 8 rfl (by kernel_rfl) rfl rfl .free rfl (f_slices_CloneF h.types _) ?_
   rintro _ _ _ _ ⟨vs, B3, c3, hl3, rfl, hB3, rfl, rfl⟩
   refine ⟨(.inr heldx), ?_⟩
   refine d_appendB 11 (B := B3) (xs := vs) (ys := [.string (str t.tree.atom), .slice ot t.tree.parts.length ct]) (m := (m.map Ty.tree).length) (c := c3) rfl (by kernel_rfl) rfl (by intro kk; simp) (by rfl) rfl rfl hB3 (by first | exact fun _ h => h | exact fun _ h => h.u1 | exact fun _ h => h.u2 | exact fun _ h => h.u3) (by rfl) (fun a ha => by cases ha; exact reads_ownL (by repeat first | exact .head _ | apply List.Mem.tail | apply List.mem_append_right) (by rfl)) (by simp) (by rfl) (by decide) (by simp; omega) (by decide) .free rfl (fun _ => .inr heldx) ?_
   intro B4 c4 hB4
   refine d_freezeForms (ts := (m ++ [t]).map Ty.tree) (by simpa using hl3.append (.one ht)) hB4 (by simp) (by simp [maxN]; omega) ?_
   intro J2 o2 k2 e2 hbv2 hst2
   have hle0 := e1.trans e2
   refine d_put (t := 18) rfl hbv2 ?_
   refine Da 12 rfl (y_struct rfl rfl rfl) ?_
   refine d_st 13 rfl (by kernel_rfl) rfl rfl rfl rfl rfl .free (.inl (by kernel_rfl)) ?_
   refine d_done (by kernel_rfl) ?_
   refine s_ret (.c rfl .nil) ?_
   exact ⟨J2, L, e1.trans e2, drops, o1, k1, o2, k2, rfl, ⟨hst1.mono e2, hst2, by simp [hlm], h.small.add hts⟩, rfl⟩
  ·skip
   refine i_lits 4 rfl rfl rfl rfl (by rfl) (by rfl) (by rfl) (by decide) (by decide) (by rfl) .free rfl (.inr heldx) ?_
   intro b11
   refine d_call 2 rfl (by kernel_rfl) rfl rfl .free rfl (f_slices_CloneS h.names _) ?_
   rintro _ _ _ _ ⟨B1, c1, rfl, hB1, rfl, rfl⟩
   refine ⟨(.inr heldx), ?_⟩
   refine d_appendB 5 (B := B1) (xs := l.map sv) (ys := [sv x]) (m := l.length) (c := c1) rfl (by kernel_rfl) rfl (by intro kk; simp) (by rfl) rfl rfl hB1 (by first | exact fun _ h => h | exact fun _ h => h.u1 | exact fun _ h => h.u2 | exact fun _ h => h.u3) (by rfl) (fun a ha => by cases ha; exact reads_ownL (by repeat first | exact .head _ | apply List.Mem.tail | apply List.mem_append_right) (by rfl)) (by simp) (by rfl) (by decide) (by omega) (by decide) .free rfl (fun _ => .inr heldx) ?_
   intro B2 c2 hB2
   rw [show l.map sv ++ [sv x] = (l ++ [x]).map sv by simp] at hB2 ⊢
   refine d_freezeStrs hB2 (by simp) (by simp [maxN]; omega) (by intro s hs; rcases List.mem_append.1 hs with hs | hs; exact h.names.each s hs; rw [List.mem_singleton.1 hs]; exact hx) ?_
   intro J1 o1 k1 e1 hbv1 hst1
   refine d_put (t := 12) rfl hbv1 ?_
   have h := h.mono e1
   have ht := ht.mono e1
   refine d_call 8 rfl (by kernel_rfl) rfl rfl .free rfl (f_slices_CloneF h.types _) ?_
   rintro _ _ _ _ ⟨vs, B3, c3, hl3, rfl, hB3, rfl, rfl⟩
   refine ⟨(.inr heldx), ?_⟩
   refine d_appendB 11 (B := B3) (xs := vs) (ys := [.string (str t.tree.atom), .slice ot t.tree.parts.length ct]) (m := (m.map Ty.tree).length) (c := c3) rfl (by kernel_rfl) rfl (by intro kk; simp) (by rfl) rfl rfl hB3 (by first | exact fun _ h => h | exact fun _ h => h.u1 | exact fun _ h => h.u2 | exact fun _ h => h.u3) (by rfl) (fun a ha => by cases ha; exact reads_ownL (by repeat first | exact .head _ | apply List.Mem.tail | apply List.mem_append_right) (by rfl)) (by simp) (by rfl) (by decide) (by simp; omega) (by decide) .free rfl (fun _ => .inr heldx) ?_
   intro B4 c4 hB4
   refine d_freezeForms (ts := (m ++ [t]).map Ty.tree) (by simpa using hl3.append (.one ht)) hB4 (by simp) (by simp [maxN]; omega) ?_
   intro J2 o2 k2 e2 hbv2 hst2
   have hle0 := e1.trans e2
   refine d_put (t := 18) rfl hbv2 ?_
   refine Da 12 rfl (y_struct rfl rfl rfl) ?_
   refine d_st 13 rfl (by kernel_rfl) rfl rfl rfl rfl rfl .free (.inl (by kernel_rfl)) ?_
   refine d_done (by kernel_rfl) ?_
   refine s_ret (.c rfl .nil) ?_
   exact ⟨J2, L, e1.trans e2, drops, o1, k1, o2, k2, rfl, ⟨hst1.mono e2, hst2, by simp [hlm], h.small.add hts⟩, rfl⟩
theorem reads_sub {I : Heap} {L L' : Own} {a : Addr} {vs : List Value} (h : Reads I L a vs) (hs : ∀ w, Mem I L' w → Mem I L w) : Reads I L' a vs := fun w hw => h w (hs w hw)
theorem reads_mono {I I' : Heap} (hle : HLe I I') {L : Own} {a : Addr} {vs : List Value} (h : Reads I L a vs) : Reads I' L a vs := fun w hw => h w (hw.le hle)
theorem add_add (a : Addr) (o i : Nat) : (a.add o).add i = a.add (o + i) := by
 unfold Addr.add
 by_cases h1 : o = 0
 ·by_cases h2 : i = 0 <;> simp [h1, h2]
 ·by_cases h2 : i = 0
  ·simp [h1, h2]
  ·have : ¬ o + i = 0 := by omega
   simp [h1, h2, this, Nat.add_assoc]
theorem reads_cut {I : Heap} {L : Own} {a : Addr} {vs us : List Value} {o k : Nat} (h : Reads I L a vs) (hc : cutN o k vs = some us) : Reads I L (a.add o) us := by
 intro w hw i hi
 obtain ⟨h1, h2⟩ := cutN_get hc
 have h3 := h2 i (by omega)
 rw [List.getElem?_eq_getElem hi] at h3
 obtain ⟨h4, h5⟩ := List.getElem?_eq_some_iff.1 h3
 rw [add_add, h w hw (o + i) h4, h5]
theorem loads_rd {P : Program} {I : Heap} {L : Own} {T : TypeId} {a : Addr} {vs : List Value} {fs : Array Field} {s b : Nat} {z : List Value} [ht : TyIs P T (.struct fs) s b z] (h : Reads I L a vs) (hl : vs.length = s) : Loads P I L T a (.agg vs.toArray) := loads_struct hl h
theorem loads_rdF {P : Program} {I : Heap} {L : Own} {T : TypeId} {a : Addr} {vs : List Value} {v : Value} {o : Nat} {d : TypeDesc} {s b : Nat} {z : List Value} [ht : TyIs P T d s b z] (h : Reads I L a vs) (hc : cutN o 1 vs = some [v]) (hd : scalar d = true) : Loads P I L T (a.add o) v := loads_scalar hd (reads_cut h hc)
/-- A list of types' forms that lies in a block of the call's own, or nowhere. -/
structure Have (I : Heap) (L : Own) (oh : Option Addr) (ts : List Ty) : Prop where
 rep : ∀ k (hk : k < ts.length), ∃ o1 c1, Rep I ts[k].tree [.string (str ts[k].tree.atom), .slice o1 ts[k].tree.parts.length c1] ∧ Reads I L ((oad oh).add (k * 2)) [.string (str ts[k].tree.atom), .slice o1 ts[k].tree.parts.length c1]
 nil : oh = none → ts.length = 0
theorem Have.mono {I I' : Heap} (hle : HLe I I') {L : Own} {oh : Option Addr} {ts : List Ty} (h : Have I L oh ts) : Have I' L oh ts :=
 ⟨fun k hk => by obtain ⟨o1, c1, h1, h2⟩ := h.rep k hk; exact ⟨o1, c1, h1.mono hle, reads_mono hle h2⟩, h.nil⟩
theorem Have.sub {I : Heap} {L L' : Own} {oh : Option Addr} {ts : List Ty} (h : Have I L oh ts) (hs : ∀ w, Mem I L' w → Mem I L w) : Have I L' oh ts :=
 ⟨fun k hk => by obtain ⟨o1, c1, h1, h2⟩ := h.rep k hk; exact ⟨o1, c1, h1, reads_sub h2 hs⟩, h.nil⟩
theorem rep_of {I : Heap} {t u : Tree} {cs : List Value} (h : Rep I t cs) (e : t = u) : Rep I u cs := e ▸ h
theorem list1 {α : Type} {l : List α} (h : l.length = 1) : ∃ a, l = [a] := by
 match l, h with
 | [a], _ => exact ⟨a, rfl⟩
theorem list2 {α : Type} {l : List α} (h : l.length = 2) : ∃ a b, l = [a, b] := by
 match l, h with
 | [a, b], _ => exact ⟨a, b, rfl⟩
theorem list3 {α : Type} {l : List α} (h : l.length = 3) : ∃ a b c, l = [a, b, c] := by
 match l, h with
 | [a, b, c], _ => exact ⟨a, b, c, rfl⟩

theorem f_env_inside {I : Heap} {l : List Txt} {m : List Ty} {oa ob : Option Addr} {c c' : Nat} (he : EnvAt I l m oa c ob c') {e : Ex} {cs : List Value} (h : Rep I e.tree cs) (hok : e.ok = true) (i : Nat) (hi : i ∈ kids e.tree)
  {oh : Option Addr} {ts : List Ty} {ch : Nat} {L : Own} (hh : Have I L oh ts) (hlt : ∀ x a b, e = .lt x a b → i = 3 → 0 < ts.length ∧ (ts.getD 0 .i).size ≤ 16) (hfn : ∀ f x s t b, e = .fn f x s t b → (Ty.fn s t).size ≤ 16) (hroom : l.length + 2 ≤ maxN) :
  Fun Tryz.prog 79 [.agg [.slice oa l.length c, .slice ob (m.map Ty.tree).length c'].toArray, .agg cs.toArray, .int .i64 (i : Nat), .slice oh ts.length ch] I L (RV (e.inL i l) (e.inM i (ts.getD 0 .i) m) L) := by
 obtain ⟨oc, cc, oaf, cf, rfl, hf⟩ := h.at'
 have hhn := hh.nil
 have hle0 : HLe I I := .refl _
 refine fun_intro (by simp) ?_
 refine Se rfl ?_
 refine o_box rfl rfl .free rfl ?_
 intro b4
 refine o_box rfl rfl .free rfl ?_
 intro b5
 refine o_alloc .free rfl ?_
 intro b8
 refine o_done (s_seq (s_block (Se rfl ?_)))
 refine o_lOS rfl .free rfl ?_
 refine o_call rfl .free rfl (f_form_head hf.rep _) ?_
 rintro _ _ _ _ ⟨rfl, rfl, rfl⟩
 refine Od rfl rfl rfl (Om rfl ?_)
 apply o_and 13 16 rfl
 ·intro g1_4 hk
  try simp only [nb] at g1_4
  refine Ow rfl ?_
  refine o_cmp rfl rfl rfl (.met rfl rfl) rfl ?_
  refine Ot rfl rfl ?_
  exact o_fin 2 rfl rfl hk
 ·intro _ hk
  refine o_skips 2 rfl ?_
  refine Of rfl rfl ?_
  exact o_fin 2 rfl rfl hk
 refine Oa rfl (o_done ?_)
 refine s_cond rfl ?_ ?_
 ·intro c0
  try simp only [nb] at c0
  obtain ⟨x, a, b, rfl⟩ := Ex.of_let c0.1
  obtain rfl : i = 3 := by omega
  simp only [Ex.ok, Bool.and_eq_true] at hok
  have hlen : (Ex.lt x a b).tree.parts.length = 4 := rfl
  obtain ⟨ht0, hts⟩ := hlt x a b rfl rfl
  have hg0 : ts.getD 0 .i = ts[0] := by simp [ht0]
  obtain ⟨o1, c1, hr0, hrd0⟩ := hh.rep 0 ht0
  refine s_seq ?_
  refine d_all 11 rfl rfl ?_
  refine Dt 0 [10] rfl (y_lOS rfl) ?_
  refine Da 1 rfl (y_fieldAddr rfl) ?_
  refine Dt 2 [10] rfl (y_lO1 rfl) ?_
  first | refine Da 3 rfl (y_ixD rfl rfl 1 rfl) ?_ | refine Da 3 rfl (y_ixP rfl rfl 1 rfl) ?_
  refine Da 4 rfl (y_fieldAddr' rfl) ?_
  refine Dt 5 [10] rfl (y_lIF rfl) ?_
  refine Da 6 rfl (y_move rfl) ?_
  first | refine Da 7 rfl (y_ixD rfl rfl 0 rfl) ?_ | refine Da 7 rfl (y_ixP rfl rfl 0 rfl) ?_
  refine Dt 8 [10] rfl (y_lIS rfl) ?_
  refine d_call 9 rfl (by kernel_rfl) rfl rfl .free rfl (f_env_with he x (Ex.name_len hok.1.1) hr0 (by rw [← hg0]; exact hts) (by unfold maxN at *; omega) _) ?_
  rintro _ J1 _ e1 ⟨o2, k2, o3, k3, rfl, he1, rfl⟩
  refine ⟨(.inr heldx), ?_⟩
  refine d_st 10 rfl (by kernel_rfl) rfl rfl rfl rfl rfl .free (.inl (by kernel_rfl)) ?_
  refine d_done (by kernel_rfl) ?_
  refine s_ret (.c rfl .nil) ?_
  exact ⟨J1, L, e1, drops, o2, k2, o3, k3, by rw [hg0]; rfl, by rw [hg0]; exact he1, rfl⟩
 intro c0
 try simp only [nb] at c0
 refine Se rfl ?_
 refine o_lOS rfl .free rfl ?_
 refine o_call rfl .free rfl (f_form_head hf.rep _) ?_
 rintro _ _ _ _ ⟨rfl, rfl, rfl⟩
 refine Od rfl rfl rfl (Oa rfl (o_done ?_))
 refine s_cond rfl ?_ ?_
 ·intro c1
  try simp only [nb] at c1
  obtain ⟨f, x, s, t, b, rfl⟩ := Ex.of_fun c1
  simp only [Ex.ok, Bool.and_eq_true, decide_eq_true_eq] at hok
  have hlen : (Ex.fn f x s t b).tree.parts.length = 6 := rfl
  have hfs := hfn f x s t b rfl
  refine s_seq ?_
  refine d_all 20 rfl rfl ?_
  refine Dt 0 [19] rfl (y_lOS rfl) ?_
  refine Da 1 rfl (y_fieldAddr rfl) ?_
  refine Dt 2 [19] rfl (y_lO1 rfl) ?_
  first | refine Da 3 rfl (y_ixD rfl rfl 1 rfl) ?_ | refine Da 3 rfl (y_ixP rfl rfl 1 rfl) ?_
  refine Da 4 rfl (y_fieldAddr' rfl) ?_
  refine Dt 5 [19] rfl (y_lIF rfl) ?_
  refine Dt 6 [19] rfl (y_lOS rfl) ?_
  refine Da 9 rfl (y_fieldAddr rfl) ?_
  refine Dt 10 [19] rfl (y_lO1 rfl) ?_
  first | refine Da 11 rfl (y_ixD rfl rfl 2 rfl) ?_ | refine Da 11 rfl (y_ixP rfl rfl 2 rfl) ?_
  refine Da 12 rfl (y_fieldAddr' rfl) ?_
  refine Dt 13 [19] rfl (y_lIF rfl) ?_
  refine Da 14 rfl (y_fieldAddr rfl) ?_
  refine Dt 15 [19] rfl (y_lO1 rfl) ?_
  first | refine Da 16 rfl (y_ixD rfl rfl 3 rfl) ?_ | refine Da 16 rfl (y_ixP rfl rfl 3 rfl) ?_
  refine Dt 17 [19] rfl (y_lIS rfl) ?_
  refine d_call 7 rfl (by kernel_rfl) rfl rfl .free rfl (f_funType hf.rep _) ?_
  rintro _ J1 _ e1 ⟨cs1, rfl, h1, rfl⟩
  have he := he.mono e1
  have hf := hf.mono e1
  refine ⟨(.inr heldx), ?_⟩
  refine d_call 8 rfl (by kernel_rfl) rfl rfl .free rfl (f_env_with he f (Ex.name_len hok.1.1.1.1.1) h1 hfs (by unfold maxN at *; omega) _) ?_
  rintro _ J2 _ e2 ⟨o2, k2, o3, k3, rfl, he1, rfl⟩
  have hf := hf.mono e2
  have hle1 := e1.trans e2
  refine ⟨(.inr heldx), ?_⟩
  refine d_call 18 rfl (by kernel_rfl) rfl rfl .free rfl (f_env_with he1 x (Ex.name_len hok.1.1.1.1.2) (hf.as 3 s.tree (by omega) rfl) hok.1.1.2 (by simp; unfold maxN at *; omega) _) ?_
  rintro _ J3 _ e3 ⟨o4, k4, o5, k5, rfl, he2, rfl⟩
  have hle2 := hle1.trans e3
  refine ⟨(.inr heldx), ?_⟩
  refine d_st 19 rfl (by kernel_rfl) rfl rfl rfl rfl rfl .free (.inl (by kernel_rfl)) ?_
  refine d_done (by kernel_rfl) ?_
  refine s_ret (.c rfl .nil) ?_
  exact ⟨J3, L, hle2, drops, o4, k4, o5, k5, rfl, he2, rfl⟩
 intro c1
 try simp only [nb] at c1
 refine s_skip (s_inBlock (Se rfl ?_))
 refine o_lOS rfl .free rfl ?_
 refine o_st rfl rfl rfl rfl .free ?_
 refine o_done ?_
 refine s_ret (.c rfl .nil) ?_
 have e1 : e.inL i l = l ∧ e.inM i (ts.getD 0 .i) m = m := by
  cases e with
  | lt x a b => exact ⟨if_neg fun hi => by rcases c0 with h | h; exact h rfl; omega, if_neg fun hi => by rcases c0 with h | h; exact h rfl; omega⟩
  | fn f x s t b => exact absurd rfl c1
  | _ => exact ⟨rfl, rfl⟩
 exact ⟨I, L, .refl _, drops, oa, c, ob, c', by rw [e1.1, e1.2]; rfl, by rw [e1.1, e1.2]; exact he, rfl⟩
def JO (r : Option Ty) (L : Own) : Post := fun v I' L' => ∃ u cs ok, v = .tuple #[.agg cs.toArray, .bool ok] ∧ Rep I' u cs ∧ L = L' ∧ match r with | some t => ok = true ∧ u = t.tree | none => ok = false
theorem Ty.tree_eq {a b : Ty} : a.tree = b.tree ↔ a = b := ⟨Ty.tree_inj, fun h => by rw [h]⟩
theorem rep_nil (I : Heap) : Rep I nil0 [.string (str []), .slice none 0 0] := .ofAtom (by simp [maxN])
theorem rep_i (I : Heap) : Rep I Ty.i.tree [.string (str [105]), .slice none 0 0] := .ofAtom (by simp [maxN])
theorem Ty.is_fn {t : Ty} : t.tree.is [62] 3 = true ↔ ∃ a b, t = .fn a b := by
 cases t with
 | i => simp [Ty.tree, Tree.is, Tree.parts]
 | fn a b => simp [Ty.tree, Tree.is, Tree.parts, Tree.head, Tree.atom]
 | pr a b => simp [Ty.tree, Tree.is, Tree.parts, Tree.head, Tree.atom]
theorem Ty.is_pr {t : Ty} : t.tree.is [42] 3 = true ↔ ∃ a b, t = .pr a b := by
 cases t with
 | i => simp [Ty.tree, Tree.is, Tree.parts]
 | fn a b => simp [Ty.tree, Tree.is, Tree.parts, Tree.head, Tree.atom]
 | pr a b => simp [Ty.tree, Tree.is, Tree.parts, Tree.head, Tree.atom]
theorem jo_if {p : Prop} [Decidable p] {b : Bool} {t : Ty} (hb : b = decide p) : match (if p then some t else none) with | some t' => b = true ∧ t.tree = t'.tree | none => b = false := by
 subst hb
 by_cases h : p <;> simp [h]
theorem jo_look {l : List Txt} {m : List Ty} {s : Txt} {ok : Bool} {t : Tree} (hlen : l.length = m.length) (hok : ok = (lastIdx l s).isSome) (hi : ∀ i, lastIdx l s = some i → (m.map Ty.tree)[i]? = some t) :
  match tyLook l m s with | some t' => ok = true ∧ t = t'.tree | none => ok = false := by
 unfold tyLook
 cases h : lastIdx l s with
 | none => rw [h] at hok; exact hok
 | some i =>
  have h1 := (lastAt_lt (show lastAt l s l.length = some i from h)).1
  have h2 := hi i h
  rw [h] at hok
  have h3 : i < m.length := by omega
  simp [h3] at h2
  simp [h3, hok, h2]
theorem f_same_ty {I : Heap} {a b : Ty} {cs ds : List Value} (h : Rep I a.tree cs) (h' : Rep I b.tree ds) (L : Own) : Fun Tryz.prog 126 [.agg cs.toArray, .agg ds.toArray] I L (Only (.bool (decide (a = b))) I L) := by
 have := f_form_same h h' L
 rwa [show decide (a.tree = b.tree) = decide (a = b) from by simp [Ty.tree_eq]] at this

theorem f_env_joined {I : Heap} {l : List Txt} {m : List Ty} {oa ob : Option Addr} {c c' : Nat} (he : EnvAt I l m oa c ob c') {e : Ex} {cs : List Value} (h : Rep I e.tree cs) (hok : e.ok = true)
  {oh : Option Addr} {ts : List Ty} {ch : Nat} {L : Own} (hh : Have I L oh ts) (hts : ts.length = (kids e.tree).length) (hfn : ∀ f x s t b, e = .fn f x s t b → (Ty.fn s t).size ≤ 16) :
  Fun Tryz.prog 80 [.agg [.slice oa l.length c, .slice ob (m.map Ty.tree).length c'].toArray, .agg cs.toArray, .slice oh ts.length ch] I L (JO (e.raw ts l m) L) := by
 obtain ⟨oc, cc, oaf, cf, rfl, hf⟩ := h.at'
 have ha := hf.alen
 have hhn := hh.nil
 have hle0 : HLe I I := .refl _
 refine fun_intro (by simp) ?_
 refine Se rfl ?_
 refine o_box rfl rfl .free rfl ?_
 intro b3
 refine o_box rfl rfl .free rfl ?_
 intro b4
 refine o_alloc .free rfl ?_
 intro b6
 refine Oa rfl (o_done (Se rfl ?_))
 refine o_call rfl .free rfl (f_atom [105] (by decide) _ _) ?_
 rintro _ _ _ _ ⟨rfl, rfl, rfl⟩
 refine o_alloc .free rfl ?_
 intro b8
 refine o_st rfl rfl rfl rfl .free ?_
 refine o_done (s_seq (Se rfl ?_))
 refine o_lOS rfl .free rfl ?_
 refine o_call rfl .free rfl (f_form_head hf.rep _) ?_
 rintro _ _ _ _ ⟨rfl, rfl, rfl⟩
 refine o_done (s_block (Se rfl (Od rfl rfl rfl (Oa rfl (o_done ?_)))))
 refine s_cond rfl ?_ ?_
 ·intro c0
  try simp only [nb] at c0
  have hb := Ex.of_nil c0
  refine s_seq (Se rfl (Oh rfl ?_))
  refine o_lO1 rfl .free rfl ?_
  refine o_call rfl .free rfl (f_isName e.tree.atom ha _ _) ?_
  rintro _ _ _ _ ⟨rfl, rfl, rfl⟩
  refine o_done ?_
  refine s_cond rfl ?_ ?_
  ·intro c1
   try simp only [nb] at c1
   refine Se rfl ?_
   refine o_lOS rfl .free rfl ?_
   refine Oh rfl ?_
   refine o_lO1 rfl .free rfl ?_
   refine o_call rfl .free rfl (f_env_look he.names (he.types.form [] (by decide)) (by simp [he.len]) e.tree.atom _) ?_
   rintro _ _ _ _ ⟨t, cs1, ok, rfl, rfl, rfl, hrt, hok1, hi1⟩
   obtain ⟨o1, k1, _, rfl, -⟩ := hrt.open
   refine Oe rfl rfl (Oe rfl rfl ?_)
   refine o_st rfl rfl rfl rfl .free ?_
   refine Oa rfl (o_done ?_)
   refine s_ret (.c rfl (.tmp rfl .nil)) ?_
   refine ⟨I, L, .refl _, drops, t, _, ok, rfl, hrt, rfl, ?_⟩
   cases e with
   | num s => have h1 := name_not_num (show isName s = true from c1); rw [show isNum s = true from hok] at h1; cases h1
   | name s => exact jo_look he.len hok1 hi1
   | _ => cases hb
  intro c1
  try simp only [nb] at c1
  refine s_skip (Se rfl ?_)
  refine o_lOS rfl .free rfl ?_
  refine o_st rfl rfl rfl rfl .free ?_
  refine Oa rfl (o_done ?_)
  refine s_ret (.c rfl (.tmp rfl .nil)) ?_
  refine ⟨I, L, .refl _, drops, Ty.i.tree, _, true, rfl, rep_i _, rfl, ?_⟩
  cases e with
  | num s => exact ⟨rfl, rfl⟩
  | name s => have h1 := c1.symm.trans (show isName s = true from hok); cases h1
  | _ => cases hb
 intro c0
 try simp only [nb] at c0
 refine s_seq (Se rfl (Od rfl rfl rfl (Oa rfl (o_done ?_))))
 refine s_cond rfl ?_ ?_
 ·intro c2
  try simp only [nb] at c2
  obtain ⟨a, b, rfl⟩ := Ex.of_bin (o := .add) c2
  obtain ⟨s, t, rfl⟩ := list2 (hts.trans (by rw [kids_bin]; rfl))
  obtain ⟨o0, k0, r0, d0⟩ := hh.rep 0 (by simp)
  obtain ⟨o1, k1, r1, d1⟩ := hh.rep 1 (by simp)
  simp only [List.getElem_cons_zero, List.getElem_cons_succ] at r0 r1 d0 d1
  refine s_skip ?_
  first | refine s_tp rfl (by first | assumption | omega) ?_ | refine s_tn rfl (by first | assumption | omega) ?_ | refine s_true (by simp [look, opd, *]) ?_
  refine s_seq ?_
  refine d_all 15 rfl rfl ?_
  refine Dt 0 [13] rfl (y_lOS rfl) ?_
  refine Da 1 rfl (y_move rfl) ?_
  first | refine Da 2 rfl (y_ixD rfl rfl 0 rfl) ?_ | refine Da 2 rfl (y_ixP rfl rfl 0 rfl) ?_
  refine Dt 3 [5, 6, 11, 13] rfl (y_lIS rfl) ?_
  refine Dt 4 [5, 6, 11, 13] rfl (y_lOS rfl) ?_
  refine d_call 5 rfl (by kernel_rfl) rfl rfl .free rfl (f_same_ty r0 (rep_i _) _) ?_
  rintro _ _ _ _ ⟨rfl, rfl, rfl⟩
  refine ⟨(.inr heldx), ?_⟩
  refine Da 6 rfl (y_move rfl) ?_
  apply d_and 34 40 rfl
  ·intro g10_7 hk
   try simp only [nb] at g10_7
   refine d_takeA 7 rfl (by kernel_rfl) rfl (.inr heldx) (y_move rfl) (.met rfl rfl) rfl ?_
   first | refine d_takeA 8 rfl (by kernel_rfl) rfl (.inr heldx) (y_ixD rfl rfl 1 rfl) (.met rfl rfl) rfl ?_ | refine d_takeA 8 rfl (by kernel_rfl) rfl (.inr heldx) (y_ixP rfl rfl 1 rfl) (.met rfl rfl) rfl ?_
   refine d_take 9 [11, 13] rfl (by kernel_rfl) rfl heldx (y_lIS rfl) (.met rfl rfl) rfl ?_
   refine d_take 10 [11, 13] rfl (by kernel_rfl) rfl heldx (y_lOS rfl) (.met rfl rfl) rfl ?_
   refine d_call 11 rfl (by kernel_rfl) rfl rfl (.met rfl rfl) rfl (f_same_ty r1 (rep_i _) _) ?_
   rintro _ _ _ _ ⟨rfl, rfl, rfl⟩
   refine ⟨(.inr heldx), ?_⟩
   refine Da 12 rfl (y_pick_true rfl rfl) ?_
   exact d_fin 5 rfl rfl hk
  ·intro _ hk
   refine Ds 7 rfl rfl rfl ?_
   refine Ds 8 rfl rfl rfl ?_
   refine Ds 9 rfl rfl rfl ?_
   refine Ds 10 rfl rfl rfl ?_
   refine Ds 11 rfl rfl rfl ?_
   refine Da 12 rfl (y_pick_false rfl rfl) ?_
   exact d_fin 5 rfl rfl hk
  refine d_st 13 rfl (by kernel_rfl) rfl rfl rfl rfl rfl .free (.inl (by kernel_rfl)) ?_
  refine d_takeA 14 rfl (by kernel_rfl) rfl (.inl (by kernel_rfl)) (y_assign rfl) .free rfl ?_
  refine d_done (by kernel_rfl) ?_
  refine s_ret (.c rfl (.tmp rfl .nil)) ?_
  exact ⟨I, L, .refl _, drops, Ty.i.tree, _, _, rfl, rep_i _, rfl, jo_if (p := s = .i ∧ t = .i) (by simp)⟩
 intro c2
 try simp only [nb] at c2
 refine Se rfl (Od rfl rfl rfl (Oa rfl (o_done ?_)))
 refine s_cond rfl ?_ ?_
 ·intro c3
  try simp only [nb] at c3
  obtain ⟨a, b, rfl⟩ := Ex.of_bin (o := .sub) c3
  obtain ⟨s, t, rfl⟩ := list2 (hts.trans (by rw [kids_bin]; rfl))
  obtain ⟨o0, k0, r0, d0⟩ := hh.rep 0 (by simp)
  obtain ⟨o1, k1, r1, d1⟩ := hh.rep 1 (by simp)
  simp only [List.getElem_cons_zero, List.getElem_cons_succ] at r0 r1 d0 d1
  refine s_skip ?_
  first | refine s_tp rfl (by first | assumption | omega) ?_ | refine s_tn rfl (by first | assumption | omega) ?_ | refine s_true (by simp [look, opd, *]) ?_
  refine s_seq ?_
  refine d_all 15 rfl rfl ?_
  refine Dt 0 [13] rfl (y_lOS rfl) ?_
  refine Da 1 rfl (y_move rfl) ?_
  first | refine Da 2 rfl (y_ixD rfl rfl 0 rfl) ?_ | refine Da 2 rfl (y_ixP rfl rfl 0 rfl) ?_
  refine Dt 3 [5, 6, 11, 13] rfl (y_lIS rfl) ?_
  refine Dt 4 [5, 6, 11, 13] rfl (y_lOS rfl) ?_
  refine d_call 5 rfl (by kernel_rfl) rfl rfl .free rfl (f_same_ty r0 (rep_i _) _) ?_
  rintro _ _ _ _ ⟨rfl, rfl, rfl⟩
  refine ⟨(.inr heldx), ?_⟩
  refine Da 6 rfl (y_move rfl) ?_
  apply d_and 34 40 rfl
  ·intro g10_7 hk
   try simp only [nb] at g10_7
   refine d_takeA 7 rfl (by kernel_rfl) rfl (.inr heldx) (y_move rfl) (.met rfl rfl) rfl ?_
   first | refine d_takeA 8 rfl (by kernel_rfl) rfl (.inr heldx) (y_ixD rfl rfl 1 rfl) (.met rfl rfl) rfl ?_ | refine d_takeA 8 rfl (by kernel_rfl) rfl (.inr heldx) (y_ixP rfl rfl 1 rfl) (.met rfl rfl) rfl ?_
   refine d_take 9 [11, 13] rfl (by kernel_rfl) rfl heldx (y_lIS rfl) (.met rfl rfl) rfl ?_
   refine d_take 10 [11, 13] rfl (by kernel_rfl) rfl heldx (y_lOS rfl) (.met rfl rfl) rfl ?_
   refine d_call 11 rfl (by kernel_rfl) rfl rfl (.met rfl rfl) rfl (f_same_ty r1 (rep_i _) _) ?_
   rintro _ _ _ _ ⟨rfl, rfl, rfl⟩
   refine ⟨(.inr heldx), ?_⟩
   refine Da 12 rfl (y_pick_true rfl rfl) ?_
   exact d_fin 5 rfl rfl hk
  ·intro _ hk
   refine Ds 7 rfl rfl rfl ?_
   refine Ds 8 rfl rfl rfl ?_
   refine Ds 9 rfl rfl rfl ?_
   refine Ds 10 rfl rfl rfl ?_
   refine Ds 11 rfl rfl rfl ?_
   refine Da 12 rfl (y_pick_false rfl rfl) ?_
   exact d_fin 5 rfl rfl hk
  refine d_st 13 rfl (by kernel_rfl) rfl rfl rfl rfl rfl .free (.inl (by kernel_rfl)) ?_
  refine d_takeA 14 rfl (by kernel_rfl) rfl (.inl (by kernel_rfl)) (y_assign rfl) .free rfl ?_
  refine d_done (by kernel_rfl) ?_
  refine s_ret (.c rfl (.tmp rfl .nil)) ?_
  exact ⟨I, L, .refl _, drops, Ty.i.tree, _, _, rfl, rep_i _, rfl, jo_if (p := s = .i ∧ t = .i) (by simp)⟩
 intro c3
 try simp only [nb] at c3
 refine o_enter rfl (Od rfl rfl rfl (Oa rfl (o_done ?_)))
 refine s_cond rfl ?_ ?_
 ·intro c4
  try simp only [nb] at c4
  obtain ⟨a, b, rfl⟩ := Ex.of_bin (o := .mul) c4
  obtain ⟨s, t, rfl⟩ := list2 (hts.trans (by rw [kids_bin]; rfl))
  obtain ⟨o0, k0, r0, d0⟩ := hh.rep 0 (by simp)
  obtain ⟨o1, k1, r1, d1⟩ := hh.rep 1 (by simp)
  simp only [List.getElem_cons_zero, List.getElem_cons_succ] at r0 r1 d0 d1
  refine s_seq ?_
  refine d_all 15 rfl rfl ?_
  refine Dt 0 [13] rfl (y_lOS rfl) ?_
  refine Da 1 rfl (y_move rfl) ?_
  first | refine Da 2 rfl (y_ixD rfl rfl 0 rfl) ?_ | refine Da 2 rfl (y_ixP rfl rfl 0 rfl) ?_
  refine Dt 3 [5, 6, 11, 13] rfl (y_lIS rfl) ?_
  refine Dt 4 [5, 6, 11, 13] rfl (y_lOS rfl) ?_
  refine d_call 5 rfl (by kernel_rfl) rfl rfl .free rfl (f_same_ty r0 (rep_i _) _) ?_
  rintro _ _ _ _ ⟨rfl, rfl, rfl⟩
  refine ⟨(.inr heldx), ?_⟩
  refine Da 6 rfl (y_move rfl) ?_
  apply d_and 34 40 rfl
  ·intro g10_7 hk
   try simp only [nb] at g10_7
   refine d_takeA 7 rfl (by kernel_rfl) rfl (.inr heldx) (y_move rfl) (.met rfl rfl) rfl ?_
   first | refine d_takeA 8 rfl (by kernel_rfl) rfl (.inr heldx) (y_ixD rfl rfl 1 rfl) (.met rfl rfl) rfl ?_ | refine d_takeA 8 rfl (by kernel_rfl) rfl (.inr heldx) (y_ixP rfl rfl 1 rfl) (.met rfl rfl) rfl ?_
   refine d_take 9 [11, 13] rfl (by kernel_rfl) rfl heldx (y_lIS rfl) (.met rfl rfl) rfl ?_
   refine d_take 10 [11, 13] rfl (by kernel_rfl) rfl heldx (y_lOS rfl) (.met rfl rfl) rfl ?_
   refine d_call 11 rfl (by kernel_rfl) rfl rfl (.met rfl rfl) rfl (f_same_ty r1 (rep_i _) _) ?_
   rintro _ _ _ _ ⟨rfl, rfl, rfl⟩
   refine ⟨(.inr heldx), ?_⟩
   refine Da 12 rfl (y_pick_true rfl rfl) ?_
   exact d_fin 5 rfl rfl hk
  ·intro _ hk
   refine Ds 7 rfl rfl rfl ?_
   refine Ds 8 rfl rfl rfl ?_
   refine Ds 9 rfl rfl rfl ?_
   refine Ds 10 rfl rfl rfl ?_
   refine Ds 11 rfl rfl rfl ?_
   refine Da 12 rfl (y_pick_false rfl rfl) ?_
   exact d_fin 5 rfl rfl hk
  refine d_st 13 rfl (by kernel_rfl) rfl rfl rfl rfl rfl .free (.inl (by kernel_rfl)) ?_
  refine d_takeA 14 rfl (by kernel_rfl) rfl (.inl (by kernel_rfl)) (y_assign rfl) .free rfl ?_
  refine d_done (by kernel_rfl) ?_
  refine s_ret (.c rfl (.tmp rfl .nil)) ?_
  exact ⟨I, L, .refl _, drops, Ty.i.tree, _, _, rfl, rep_i _, rfl, jo_if (p := s = .i ∧ t = .i) (by simp)⟩
 intro c4
 try simp only [nb] at c4
 refine Se rfl (Od rfl rfl rfl (Oa rfl (o_done ?_)))
 refine s_cond rfl ?_ ?_
 ·intro c5
  try simp only [nb] at c5
  obtain ⟨a, b, d, rfl⟩ := Ex.of_if c5
  obtain ⟨s, t, u, rfl⟩ := list3 hts
  obtain ⟨o0, k0, r0, d0⟩ := hh.rep 0 (by simp)
  obtain ⟨o1, k1, r1, d1⟩ := hh.rep 1 (by simp)
  obtain ⟨o2, k2, r2, d2⟩ := hh.rep 2 (by simp)
  simp only [List.getElem_cons_zero, List.getElem_cons_succ] at r0 r1 r2 d0 d1 d2
  refine s_seq ?_
  refine d_all 19 rfl rfl ?_
  refine Da 0 rfl (y_move rfl) ?_
  first | refine Da 1 rfl (y_ixD rfl rfl 1 rfl) ?_ | refine Da 1 rfl (y_ixP rfl rfl 1 rfl) ?_
  refine Dt 2 [17] rfl (y_lIS rfl) ?_
  refine Da 3 rfl (y_move rfl) ?_
  first | refine Da 4 rfl (y_ixD rfl rfl 0 rfl) ?_ | refine Da 4 rfl (y_ixP rfl rfl 0 rfl) ?_
  refine Dt 5 [7, 8, 15, 17] rfl (y_lIS rfl) ?_
  refine Dt 6 [7, 8, 15, 17] rfl (y_lOS rfl) ?_
  refine d_call 7 rfl (by kernel_rfl) rfl rfl .free rfl (f_same_ty r0 (rep_i _) _) ?_
  rintro _ _ _ _ ⟨rfl, rfl, rfl⟩
  refine ⟨(.inr heldx), ?_⟩
  refine Da 8 rfl (y_move rfl) ?_
  apply d_and 51 59 rfl
  ·intro g12_9 hk
   try simp only [nb] at g12_9
   refine d_takeA 9 rfl (by kernel_rfl) rfl (.inr heldx) (y_move rfl) (.met rfl rfl) rfl ?_
   first | refine d_takeA 10 rfl (by kernel_rfl) rfl (.inr heldx) (y_ixD rfl rfl 1 rfl) (.met rfl rfl) rfl ?_ | refine d_takeA 10 rfl (by kernel_rfl) rfl (.inr heldx) (y_ixP rfl rfl 1 rfl) (.met rfl rfl) rfl ?_
   refine d_take 11 [15, 17] rfl (by kernel_rfl) rfl heldx (y_lIS rfl) (.met rfl rfl) rfl ?_
   refine d_takeA 12 rfl (by kernel_rfl) rfl (.inr heldx) (y_move rfl) (.met rfl rfl) rfl ?_
   first | refine d_takeA 13 rfl (by kernel_rfl) rfl (.inr heldx) (y_ixD rfl rfl 2 rfl) (.met rfl rfl) rfl ?_ | refine d_takeA 13 rfl (by kernel_rfl) rfl (.inr heldx) (y_ixP rfl rfl 2 rfl) (.met rfl rfl) rfl ?_
   refine d_take 14 [15, 17] rfl (by kernel_rfl) rfl heldx (y_lIS rfl) (.met rfl rfl) rfl ?_
   refine d_call 15 rfl (by kernel_rfl) rfl rfl (.met rfl rfl) rfl (f_same_ty r1 r2 _) ?_
   rintro _ _ _ _ ⟨rfl, rfl, rfl⟩
   refine ⟨(.inr heldx), ?_⟩
   refine Da 16 rfl (y_pick_true rfl rfl) ?_
   exact d_fin 7 rfl rfl hk
  ·intro _ hk
   refine Ds 9 rfl rfl rfl ?_
   refine Ds 10 rfl rfl rfl ?_
   refine Ds 11 rfl rfl rfl ?_
   refine Ds 12 rfl rfl rfl ?_
   refine Ds 13 rfl rfl rfl ?_
   refine Ds 14 rfl rfl rfl ?_
   refine Ds 15 rfl rfl rfl ?_
   refine Da 16 rfl (y_pick_false rfl rfl) ?_
   exact d_fin 7 rfl rfl hk
  refine d_st 17 rfl (by kernel_rfl) rfl rfl rfl rfl rfl .free (.inl (by kernel_rfl)) ?_
  refine d_takeA 18 rfl (by kernel_rfl) rfl (.inl (by kernel_rfl)) (y_assign rfl) .free rfl ?_
  refine d_done (by kernel_rfl) ?_
  refine s_ret (.c rfl (.tmp rfl .nil)) ?_
  exact ⟨I, L, .refl _, drops, t.tree, _, _, rfl, r1, rfl, jo_if (p := s = .i ∧ t = u) (by simp)⟩
 intro c5
 try simp only [nb] at c5
 refine Se rfl (Od rfl rfl rfl (Oa rfl (o_done ?_)))
 refine s_cond rfl ?_ ?_
 ·intro c6
  try simp only [nb] at c6
  obtain ⟨x, a, b, rfl⟩ := Ex.of_let c6
  obtain ⟨s, t, rfl⟩ := list2 hts
  obtain ⟨o1, k1, r1, d1⟩ := hh.rep 1 (by simp)
  simp only [List.getElem_cons_zero, List.getElem_cons_succ] at r1 d1
  refine Se rfl (Om rfl ?_)
  first | refine o_ixD rfl rfl 1 rfl .free rfl ?_ | refine o_ixP rfl rfl 1 rfl .free rfl ?_
  refine o_lIS rfl .free rfl ?_
  refine o_st rfl rfl rfl rfl .free ?_
  refine Oa rfl (o_done ?_)
  refine s_ret (.c rfl (.tmp rfl .nil)) ?_
  exact ⟨I, L, .refl _, drops, t.tree, _, _, rfl, r1, rfl, rfl, rfl⟩
 intro c6
 try simp only [nb] at c6
 refine Se rfl (Od rfl rfl rfl (Oa rfl (o_done ?_)))
 refine s_cond rfl ?_ ?_
 ·intro c7
  try simp only [nb] at c7
  obtain ⟨f, x, s, t, b, rfl⟩ := Ex.of_fun c7
  obtain ⟨u, rfl⟩ := list1 hts
  obtain ⟨o0, k0, r0, d0⟩ := hh.rep 0 (by simp)
  simp only [List.getElem_cons_zero, List.getElem_cons_succ] at r0 d0
  have hlen : (Ex.fn f x s t b).tree.parts.length = 6 := rfl
  refine s_seq ?_
  refine d_all 12 rfl rfl ?_
  refine Dt 0 [10] rfl (y_lOS rfl) ?_
  refine Da 2 rfl (y_move rfl) ?_
  first | refine Da 3 rfl (y_ixD rfl rfl 0 rfl) ?_ | refine Da 3 rfl (y_ixP rfl rfl 0 rfl) ?_
  refine Dt 4 [9, 10] rfl (y_lIS rfl) ?_
  refine Da 5 rfl (y_fieldAddr rfl) ?_
  refine Dt 6 [7, 8, 9, 10] rfl (y_lO1 rfl) ?_
  first | refine Da 7 rfl (y_ixD rfl rfl 4 rfl) ?_ | refine Da 7 rfl (y_ixP rfl rfl 4 rfl) ?_
  refine Dt 8 [9, 10] rfl (y_lIS rfl) ?_
  refine d_call 1 rfl (by kernel_rfl) rfl rfl .free rfl (f_funType hf.rep _) ?_
  rintro _ J1 _ e1 ⟨cs1, rfl, h1, rfl⟩
  obtain ⟨o1, k1, _, rfl, -⟩ := h1.open
  have hf := hf.mono e1
  have r0 := r0.mono e1
  have d0 := reads_mono e1 d0
  refine ⟨(.inr heldx), ?_⟩
  refine d_call 9 rfl (by kernel_rfl) rfl rfl .free rfl (f_same_ty r0 (hf.as 4 t.tree (by omega) rfl) _) ?_
  rintro _ _ _ _ ⟨rfl, rfl, rfl⟩
  refine ⟨(.inr heldx), ?_⟩
  refine d_st 10 rfl (by kernel_rfl) rfl rfl rfl rfl rfl .free (.inl (by kernel_rfl)) ?_
  refine d_takeA 11 rfl (by kernel_rfl) rfl (.inl (by kernel_rfl)) (y_assign rfl) .free rfl ?_
  refine d_done (by kernel_rfl) ?_
  refine s_ret (.c rfl (.tmp rfl .nil)) ?_
  exact ⟨J1, L, e1, drops, (Ty.fn s t).tree, _, _, rfl, h1, rfl, jo_if (p := u = t) (by simp)⟩
 intro c7
 try simp only [nb] at c7
 refine Se rfl (Od rfl rfl rfl (Oa rfl (o_done ?_)))
 refine s_cond rfl ?_ ?_
 ·intro c8
  try simp only [nb] at c8
  obtain ⟨a, b, rfl⟩ := Ex.of_bin (o := .call) c8
  obtain ⟨s, t, rfl⟩ := list2 (hts.trans (by rw [kids_bin]; rfl))
  obtain ⟨o0, k0, r0, d0⟩ := hh.rep 0 (by simp)
  obtain ⟨o1, k1, r1, d1⟩ := hh.rep 1 (by simp)
  simp only [List.getElem_cons_zero, List.getElem_cons_succ] at r0 r1 d0 d1
  obtain ⟨o2, k2, of2, cf2, hc2, hf2⟩ := r0.at'
  simp only [List.cons.injEq, Value.slice.injEq, and_true, true_and] at hc2
  obtain ⟨rfl, rfl⟩ := hc2
  have hfn2 := hf2.nil
  refine s_seq (s_seq ?_)
  refine d_all 18 rfl rfl ?_
  refine Da 0 rfl (y_move rfl) ?_
  first | refine Da 1 rfl (y_ixD rfl rfl 0 rfl) ?_ | refine Da 1 rfl (y_ixP rfl rfl 0 rfl) ?_
  refine Dt 2 [18] rfl (y_lIS rfl) ?_
  refine d_call 3 rfl (by kernel_rfl) rfl rfl .free rfl (f_form_is r0 [62] 3 _) ?_
  rintro _ _ _ _ ⟨rfl, rfl, rfl⟩
  refine ⟨(.inr heldx), ?_⟩
  refine Da 4 rfl (y_not rfl) ?_
  refine Da 5 rfl (y_move rfl) ?_
  apply d_or 84 96 rfl
  ·intro g18_6 hk
   try simp only [nb] at g18_6
   have hp2 : s.tree.parts.length = 3 := by obtain ⟨s1, s2, rfl⟩ := Ty.is_fn.1 g18_6; rfl
   refine d_takeA 6 rfl (by kernel_rfl) rfl (.inr heldx) (y_move rfl) (.met rfl rfl) rfl ?_
   first | refine d_takeA 7 rfl (by kernel_rfl) rfl (.inr heldx) (y_ixD rfl rfl 0 rfl) (.met rfl rfl) rfl ?_ | refine d_takeA 7 rfl (by kernel_rfl) rfl (.inr heldx) (y_ixP rfl rfl 0 rfl) (.met rfl rfl) rfl ?_
   refine d_takeA 8 rfl (by kernel_rfl) rfl (.inr heldx) (y_fieldAddr' rfl) (.met rfl rfl) rfl ?_
   refine d_take 9 [18] rfl (by kernel_rfl) rfl heldx (y_lIF rfl) (.met rfl rfl) rfl ?_
   first | refine d_takeA 10 rfl (by kernel_rfl) rfl (.inr heldx) (y_ixD rfl rfl 1 rfl) (.met rfl rfl) rfl ?_ | refine d_takeA 10 rfl (by kernel_rfl) rfl (.inr heldx) (y_ixP rfl rfl 1 rfl) (.met rfl rfl) rfl ?_
   refine d_take 11 [18] rfl (by kernel_rfl) rfl heldx (y_lIS rfl) (.met rfl rfl) rfl ?_
   refine d_takeA 12 rfl (by kernel_rfl) rfl (.inr heldx) (y_move rfl) (.met rfl rfl) rfl ?_
   first | refine d_takeA 13 rfl (by kernel_rfl) rfl (.inr heldx) (y_ixD rfl rfl 1 rfl) (.met rfl rfl) rfl ?_ | refine d_takeA 13 rfl (by kernel_rfl) rfl (.inr heldx) (y_ixP rfl rfl 1 rfl) (.met rfl rfl) rfl ?_
   refine d_take 14 [18] rfl (by kernel_rfl) rfl heldx (y_lIS rfl) (.met rfl rfl) rfl ?_
   refine d_call 15 rfl (by kernel_rfl) rfl rfl (.met rfl rfl) rfl (f_form_same (hf2.rp 1 (by omega)) r1 _) ?_
   rintro _ _ _ _ ⟨rfl, rfl, rfl⟩
   refine ⟨(.inr heldx), ?_⟩
   refine d_takeA 16 rfl (by kernel_rfl) rfl (.inr heldx) (y_not rfl) (.met rfl rfl) rfl ?_
   refine Da 17 rfl (y_pick_false rfl rfl) ?_
   exact d_fin 11 rfl rfl hk
  ·intro _ hk
   refine Ds 6 rfl rfl rfl ?_
   refine Ds 7 rfl rfl rfl ?_
   refine Ds 8 rfl rfl rfl ?_
   refine Ds 9 rfl rfl rfl ?_
   refine Ds 10 rfl rfl rfl ?_
   refine Ds 11 rfl rfl rfl ?_
   refine Ds 12 rfl rfl rfl ?_
   refine Ds 13 rfl rfl rfl ?_
   refine Ds 14 rfl rfl rfl ?_
   refine Ds 15 rfl rfl rfl ?_
   refine Ds 16 rfl rfl rfl ?_
   refine Da 17 rfl (y_pick_true rfl rfl) ?_
   exact d_fin 11 rfl rfl hk
  refine d_done (by kernel_rfl) ?_
  refine s_cond rfl ?_ ?_
  ·intro c9
   try simp only [nb] at c9
   refine Se rfl ?_
   refine o_struct rfl rfl rfl .free rfl ?_
   refine o_st rfl rfl rfl rfl .free ?_
   refine Oa rfl (o_done ?_)
   refine s_ret (.c rfl (.tmp rfl .nil)) ?_
   refine ⟨I, L, .refl _, drops, nil0, _, _, rfl, rep_nil _, rfl, ?_⟩
   have : (Ex.bin .call a b).raw [s, t] l m = none := by
    cases s with
    | fn s1 s2 =>
     have hs : ¬ s1 = t := by
      intro h
      rcases c9 with h1 | h2
      ·have := Ty.is_fn.2 ⟨s1, s2, rfl⟩; rw [h1] at this; cases this
      ·exact h2 (congrArg Ty.tree h)
     exact if_neg hs
    | _ => rfl
   rw [this]
  intro c9
  try simp only [nb] at c9
  obtain ⟨s1, s2, rfl⟩ := Ty.is_fn.1 c9.1
  have hp2 : (Ty.fn s1 s2).tree.parts.length = 3 := rfl
  refine s_skip (Se rfl (Om rfl ?_))
  first | refine o_ixD rfl rfl 0 rfl .free rfl ?_ | refine o_ixP rfl rfl 0 rfl .free rfl ?_
  refine o_fieldAddr' rfl .free rfl ?_
  refine o_lIF rfl .free rfl ?_
  first | refine o_ixD rfl rfl 2 rfl .free rfl ?_ | refine o_ixP rfl rfl 2 rfl .free rfl ?_
  refine o_lIS rfl .free rfl ?_
  refine o_st rfl rfl rfl rfl .free ?_
  refine Oa rfl (o_done ?_)
  refine s_ret (.c rfl (.tmp rfl .nil)) ?_
  refine ⟨I, L, .refl _, drops, s2.tree, _, _, rfl, hf2.as 2 s2.tree (by omega) rfl, rfl, ?_⟩
  have : (Ex.bin .call a b).raw [.fn s1 s2, t] l m = some s2 := if_pos (Ty.tree_inj (show s1.tree = t.tree from c9.2))
  rw [this]; exact ⟨rfl, rfl⟩
 intro c8
 try simp only [nb] at c8
 refine Se rfl (Od rfl rfl rfl (Oa rfl (o_done ?_)))
 refine s_cond rfl ?_ ?_
 ·intro c10
  try simp only [nb] at c10
  obtain ⟨a, b, rfl⟩ := Ex.of_bin (o := .pair) c10
  obtain ⟨s, t, rfl⟩ := list2 (hts.trans (by rw [kids_bin]; rfl))
  obtain ⟨o0, k0, r0, d0⟩ := hh.rep 0 (by simp)
  obtain ⟨o1, k1, r1, d1⟩ := hh.rep 1 (by simp)
  simp only [List.getElem_cons_zero, List.getElem_cons_succ] at r0 r1 d0 d1
  refine s_seq ?_
  refine d_all 10 rfl rfl ?_
  refine Da 0 rfl (y_move rfl) ?_
  first | refine Da 1 rfl (y_ixD rfl rfl 0 rfl) ?_ | refine Da 1 rfl (y_ixP rfl rfl 0 rfl) ?_
  refine Dt 2 [8] rfl (y_lIS rfl) ?_
  refine Da 3 rfl (y_move rfl) ?_
  first | refine Da 4 rfl (y_ixD rfl rfl 1 rfl) ?_ | refine Da 4 rfl (y_ixP rfl rfl 1 rfl) ?_
  refine Dt 5 [8] rfl (y_lIS rfl) ?_
  refine d_lits 6 rfl (by kernel_rfl) rfl rfl rfl (by rfl) (by rfl) (by rfl) (by decide) (by decide) (by rfl) .free rfl (.inr heldx) ?_
  intro b112
  refine d_freeze ?_
  intro hz
  have hfs := forms_lit0 (c := 2) (b := b112) (RepL.two r0 r1) hz (by simp) (by simp [maxN])
  refine d_call 7 rfl (by kernel_rfl) rfl rfl .free rfl (f_headed [42] (by decide) hfs (by simp [maxN]) _) ?_
  rintro _ J2 _ e2 ⟨cs2, rfl, h2, rfl⟩
  have e3 := hz.trans e2
  obtain ⟨o2, k2, _, rfl, -⟩ := h2.open
  refine ⟨(.inr heldx), ?_⟩
  refine d_st 8 rfl (by kernel_rfl) rfl rfl rfl rfl rfl .free (.inl (by kernel_rfl)) ?_
  refine d_takeA 9 rfl (by kernel_rfl) rfl (.inl (by kernel_rfl)) (y_assign rfl) .free rfl ?_
  refine d_done (by kernel_rfl) ?_
  refine s_ret (.c rfl (.tmp rfl .nil)) ?_
  exact ⟨J2, L, e3, drops, (Ty.pr s t).tree, _, _, rfl, h2, rfl, rfl, rfl⟩
 intro c10
 try simp only [nb] at c10
 obtain ⟨o, a, rfl⟩ : ∃ o a, e = .un o a := by
  rcases Ex.of_other c0 c6 c5 c7 with ⟨o, a, b, rfl⟩ | h
  ·cases o
   ·exact absurd rfl c2
   ·exact absurd rfl c3
   ·exact absurd rfl c4
   ·exact absurd rfl c8
   ·exact absurd rfl c10
  ·exact h
 obtain ⟨s, rfl⟩ := list1 (hts.trans (by rw [kids_un]; rfl))
 obtain ⟨o0, k0, r0, d0⟩ := hh.rep 0 (by simp)
 simp only [List.getElem_cons_zero] at r0 d0
 obtain ⟨o2, k2, of2, cf2, hc2, hf2⟩ := r0.at'
 simp only [List.cons.injEq, Value.slice.injEq, and_true, true_and] at hc2
 obtain ⟨rfl, rfl⟩ := hc2
 have hfn2 := hf2.nil
 refine s_skip (s_inBlock (s_seq (Se rfl (Om rfl ?_))))
 first | refine o_ixD rfl rfl 0 rfl .free rfl ?_ | refine o_ixP rfl rfl 0 rfl .free rfl ?_
 refine o_lIS rfl .free rfl ?_
 refine o_call rfl .free rfl (f_form_is r0 [42] 3 _) ?_
 rintro _ _ _ _ ⟨rfl, rfl, rfl⟩
 refine o_not rfl .free rfl ?_
 refine o_done ?_
 refine s_cond rfl ?_ ?_
 ·intro c11
  try simp only [nb] at c11
  refine Se rfl ?_
  refine o_struct rfl rfl rfl .free rfl ?_
  refine o_st rfl rfl rfl rfl .free ?_
  refine Oa rfl (o_done ?_)
  refine s_ret (.c rfl (.tmp rfl .nil)) ?_
  refine ⟨I, L, .refl _, drops, nil0, _, _, rfl, rep_nil _, rfl, ?_⟩
  have : (Ex.un o a).raw [s] l m = none := by
   cases s with
   | pr s1 s2 => have := Ty.is_pr.2 ⟨s1, s2, rfl⟩; rw [c11] at this; cases this
   | _ => cases o <;> rfl
  rw [this]
 intro c11
 try simp only [nb] at c11
 obtain ⟨s1, s2, rfl⟩ := Ty.is_pr.1 c11
 have hp2 : (Ty.pr s1 s2).tree.parts.length = 3 := rfl
 refine s_skip (s_seq (Se rfl ?_))
 refine o_lOS rfl .free rfl ?_
 refine o_call rfl .free rfl (f_form_head hf.rep _) ?_
 rintro _ _ _ _ ⟨rfl, rfl, rfl⟩
 refine Od rfl rfl rfl (o_done ?_)
 refine s_cond rfl ?_ ?_
 ·intro c12
  try simp only [nb] at c12
  refine Se rfl (Om rfl ?_)
  first | refine o_ixD rfl rfl 0 rfl .free rfl ?_ | refine o_ixP rfl rfl 0 rfl .free rfl ?_
  refine o_fieldAddr' rfl .free rfl ?_
  refine o_lIF rfl .free rfl ?_
  first | refine o_ixD rfl rfl 1 rfl .free rfl ?_ | refine o_ixP rfl rfl 1 rfl .free rfl ?_
  refine o_lIS rfl .free rfl ?_
  refine o_st rfl rfl rfl rfl .free ?_
  refine Oa rfl (o_done ?_)
  refine s_ret (.c rfl (.tmp rfl .nil)) ?_
  refine ⟨I, L, .refl _, drops, s1.tree, _, _, rfl, hf2.as 1 s1.tree (by omega) rfl, rfl, ?_⟩
  obtain rfl : o = .fst := by cases o; rfl; exact absurd (show tSnd = tFst from c12) (by decide)
  exact ⟨rfl, rfl⟩
 intro c12
 try simp only [nb] at c12
 refine s_skip (Se rfl (Om rfl ?_))
 first | refine o_ixD rfl rfl 0 rfl .free rfl ?_ | refine o_ixP rfl rfl 0 rfl .free rfl ?_
 refine o_fieldAddr' rfl .free rfl ?_
 refine o_lIF rfl .free rfl ?_
 first | refine o_ixD rfl rfl 2 rfl .free rfl ?_ | refine o_ixP rfl rfl 2 rfl .free rfl ?_
 refine o_lIS rfl .free rfl ?_
 refine o_st rfl rfl rfl rfl .free ?_
 refine Oa rfl (o_done ?_)
 refine s_ret (.c rfl (.tmp rfl .nil)) ?_
 refine ⟨I, L, .refl _, drops, s2.tree, _, _, rfl, hf2.as 2 s2.tree (by omega) rfl, rfl, ?_⟩
 obtain rfl : o = .snd := by cases o; exact absurd rfl c12; rfl
 exact ⟨rfl, rfl⟩
end Go.Proofs.YtfddjcmeejjhiaaGreatDoor

/- Bare parts and whole expressions made normal, by the reference. No conditions. -/
import Derived.Test.YtmfagaajiakgoaaGreatDoorG13

namespace Go.Proofs.YtmfagaajiakgoaaGreatDoor
set_option maxRecDepth 100000
set_option linter.unusedVariables false
set_option linter.unusedSimpArgs false

def Q0 (N : Nat) : Prop := ∀ {I : Heap} {e : Ex} {cs : List Value} (_ : SizeOf.sizeOf e < N) (_ : Rep I e.tree cs) (_ : e.ok = true) {ot : Option Addr} {tk : List As} {ct : Nat} (_ : Strs I ot tk ct) (b n : Nat) (_ : n + e.size + tk.length ≤ 900 + E5 121 tk n) (x : MS) (_ : x.ok I) (_ : x.ns.length + e.size ≤ 100000) (_ : x.es.length = x.ns.length) (L : Bo),
 Fun Tryz.prog 171 [.pointer (some ⟨b, 0, none⟩), .agg cs.toArray] I (x.own b ot tk ct n L) (MP b ot tk ct x (e.mk tk n) L)
theorem Mem.sw {I : Heap} {m a b : Nat × Obj} {L : Bo} {w : World} (h : Mem I (m :: a :: b :: L) w) : Mem I (m :: b :: a :: L) w := h.perm (List.Perm.cons _ (List.Perm.swap ..))
theorem Mem.rev3 {I : Heap} {a b c : Nat × Obj} {L : Bo} {w : World} (h : Mem I (a :: b :: c :: L) w) : Mem I (c :: b :: a :: L) w := h.perm ((List.Perm.cons a (List.Perm.swap c b L)).trans ((List.Perm.swap c a (b :: L)).trans (List.Perm.cons c (List.Perm.swap b a L))))
theorem Aga {P : Program} {f : FuncId} {n : Nat} {I₀ : Heap} {Q : De} {k : List Item} {E : Hy} {I : Heap} {id : Nat} {ops : Array Oper} {a b c p q r : Nat × Obj} {B L : Bo} (N : Nat) (hN : ops.size = N) (hm : P.follows .mixedOrders = true)
  (h : Cv P f n I₀ Q ops (Mem I (p :: q :: r :: L)) N (Array.replicate N false) k E I (a :: b :: c :: p :: q :: r :: (B ++ L))) : RunS P f n I₀ Q (.code (.region id ops true) :: k) E I (a :: b :: c :: p :: q :: r :: (B ++ L)) := Lb I (p :: q :: r :: L) N hN hm h
theorem L6 {N : Nat} (ih : Q0 N) {I : Heap} {e : Ex} {cs : List Value} (hlt : SizeOf.sizeOf e < N) (h : Rep I e.tree cs) (hok : e.ok = true) {ot : Option Addr} {tk : List As} {ct : Nat} (htk : Strs I ot tk ct) (b n : Nat) (hn : n + e.size + tk.length ≤ 900 + E5 121 tk n) (x : MS) (hx : x.ok I) (hxl : x.ns.length + e.size ≤ 100000) (hxe : x.es.length = x.ns.length) (L : Bo) :
  Fun Tryz.prog 201 [.pointer (some ⟨b, 0, none⟩), .agg cs.toArray] I (x.own b ot tk ct n L) (MP b ot tk ct x ((e.mk tk n).pt tk) L) := by
 obtain ⟨oa, c, oaf, cf, rfl, hf⟩ := h.at'
 have hmo := Ex.mk_ok (tk := tk) (n := n) hok hn
 have hmh := e.mk_hits tk n
 have hmg := e.mk_g tk n
 have hml := e.mk_len tk n
 have hh0 := Bs 121 tk n
 have hh1 := Bs 121 tk (e.mk tk n).n
 generalize hp : e.mk tk n = p at *
 refine Ao Af ?_; refine Se rfl ?_; refine Cn rfl rfl .free rfl ?_; intro b3; refine Aw .free rfl ?_; intro b4; refine Ab (Se rfl (Om rfl ?_)); refine A2 rfl .free rfl ?_; refine Dp (fun w h => Mem.mv (X := [_, _]) h) ?_; refine Ca rfl (ih hlt hf.rep hok htk b n hn x hx hxl hxe _) ?_; rw [hp]; rintro _ J1 _ e1 ⟨cs1, y, rfl, hr, hy, hyn, hye, rfl⟩; obtain ⟨o1, k1, _, rfl, -⟩ := hr.open
 have hyl : y.ns.length = x.ns.length + p.ns.length := by rw [hyn]; simp
 have hyl2 : y.es.length = y.ns.length := by rw [hye, hyn]; simp [hxe]
 obtain ⟨a1, k2, hu1⟩ := Hn hy.b1; obtain ⟨a2, k3, hu2⟩ := Hn hy.b2; refine Dp (fun w h => Mem.vm (X := [_, _]) h) ?_; rw [hu1, hu2]
 simp only [List.cons_append, List.nil_append]
 refine Aw .free rfl ?_; intro b5; refine Bu rfl rfl rfl rfl .free ?_; refine Ab (Ah (Se rfl (Oh rfl ?_))); refine Bz rfl .free rfl ?_; refine Od rfl rfl rfl (Ab ?_); refine A0 rfl ?_ ?_
 ·intro c0
  try simp only [nb] at c0
  have hb : p.e.bare = true := by
   cases hb : p.e.bare with
   | true => rfl
   | false => exact absurd ((Ex.atom_iff hmo.2).2 hb) c0
  refine Se rfl ?_; refine A2 rfl .free rfl ?_; refine Bu rfl rfl rfl rfl .free ?_; refine Ab ?_; refine Al (.c rfl .nil) ?_; refine ⟨J1, _, e1, fun w h => Mem.sub (L' := y.own b ot tk ct p.n L) (by unfold MS.own; rw [hu1, hu2]; repeat (first | exact List.Sublist.refl _ | apply List.Sublist.cons_cons | apply List.Sublist.cons)) h, _, y, rfl, by unfold MK.pt; rw [if_pos hb]; exact hr, hy, by unfold MK.pt; rw [if_pos hb]; exact hyn, by unfold MK.pt; rw [if_pos hb]; exact hye, by unfold MK.pt; rw [if_pos hb]⟩
 intro c0
 try simp only [nb] at c0
 have hb : p.e.bare = false := (Ex.atom_iff hmo.2).1 Fv
 have htk := htk.mono e1
 refine Ak (Se rfl (Om rfl ?_)); refine Dp (fun w h => h.f3) ?_; refine Ca rfl (Aan htk b p.n Aa Aa _) ?_; rintro _ _ _ _ ⟨rfl, rfl, rfl⟩
 have hfr := D2 121 tk p.n
 have hfr2 := Bs 121 tk (fr 121 tk p.n)
 have hnl : (nm 121 (fr 121 tk p.n)).length ≤ Ba := Ex.name_len (L9 Ae Aa)
 generalize hn1e : nm 121 (fr 121 tk p.n) = n1 at hnl ⊢
 have hpt : p.pt tk = ⟨.name n1, p.ns ++ [(n1, p.e)], fr 121 tk p.n + 1, p.g + 1⟩ := by unfold MK.pt; rw [if_neg (by rw [hb]; simp), hn1e]
 rw [hpt]
 unfold P6
 refine Oa rfl (Ab (Se rfl (Om rfl (Om rfl ?_)))); refine Bw rfl .free rfl ?_
 first | refine Oh rfl ?_ | refine Oj rfl ?_
 refine O1 rfl .free rfl ?_; refine Om rfl ?_; refine Ol rfl rfl ?_; intro b22; refine Es (B := y.B1) (xs := y.ns.map sv) (ys := [sv n1]) (m := y.ns.length) (c := y.c1) Au Ac (by rw [hu1]; rfl) rfl hy.b1 (fun _ h => h.u5) Ac (fun a ha => by cases ha; exact Bm (.head _) Ac) Af Ac Ae Ae Aa Ae .free rfl ?_; intro bb sp c2 hB'; refine Bw rfl .free rfl ?_
 first | refine Oh rfl ?_ | refine Oj rfl ?_
 refine Bu rfl rfl rfl rfl .free ?_; refine Ab (Ah ?_); refine Aga 13 rfl rfl ?_; refine Da 0 rfl (Ag rfl) ?_; refine Da 1 rfl (Cy rfl) ?_
 first | refine Da 2 rfl (Aj rfl) ?_ | refine Da 2 rfl (Bi rfl) ?_
 refine Dt 4 [9] rfl (Cd rfl) ?_; refine El 3 6 Ad ?_ ?_
 ·skip
  refine Lw 3 rfl rfl (O9 rfl) .free rfl (.inr Ap) ?_; refine Da 5 rfl (E4 rfl) ?_; refine C5 6 rfl Ad rfl rfl rfl Ac Ac Ac Ae Ae Ac .free rfl (.inr Ap) ?_; intro b32; refine Bt 7 (B := y.B2) (xs := y.xs) (ys := [.string (str []), .slice none 0 0]) (m := y.es.length) (c := y.c2) rfl Ad rfl Au Ac (by rw [hu2]; rfl) rfl hy.b2 (fun _ h => h.u7) Ac (fun a ha => by cases ha; exact Bm (.head _) Ac) Af Ac Ae Aa Ae .free rfl (fun _ => .inr Ap) ?_; intro B2 c3 hB2; obtain ⟨bq, sq, rfl⟩ : ∃ bq sq, B2 = some (bq, sq) := by
   cases B2 with
   | none => exact absurd hB2.1 Af
   | some z => exact ⟨z.1, z.2, rfl⟩
  have hxl2 := hy.rep.length
  rw [List.length_map] at hxl2
  simp only [A8, List.cons_append, List.nil_append, List.append_assoc]
  refine Da 8 rfl (F8 rfl rfl _ rfl Aa rfl) ?_; refine Eh (t := 34) rfl (congrArg (fun a => Value.pointer (some a)) (Pd bq (y.es.length * 2))) ?_; refine Da 10 rfl (Cy rfl) ?_
  first | refine Da 11 rfl (Aj rfl) ?_ | refine Da 11 rfl (Bi rfl) ?_
  refine El 9 12 Ad ?_ ?_
  ·skip
   refine Oy 9 rfl rfl rfl rfl rfl rfl .free (.inl Ad) ?_ (hu := u0) (hus := Iu (xs := y.xs) (zs := [_, _]) (sp := sq) Aa rfl); refine Dx 12 rfl rfl rfl rfl ?_; refine At Ad ?_; refine Se rfl (Om rfl ?_); refine Ca rfl (H8 ..) ?_; rintro _ _ _ _ ⟨rfl, rfl, rfl⟩; refine Bu rfl rfl rfl rfl .free ?_; refine Ab ?_; refine Al (.c rfl .nil) ?_
   refine ⟨J1, _, e1, fun w h => Mem.rev3 (Mem.sub (L' := (bq, _) :: (bb, _) :: (b, _) :: L) Bf h), _, ⟨y.ns ++ [n1], y.es ++ [p.e], some (bb, sp), c2, y.xs ++ [.string (str p.e.tree.atom), .slice o1 p.e.tree.parts.length k1], some (bq, sq), c3⟩, rfl, .ofAtom hnl, ⟨by simpa using hB', ⟨by have := hB2.1; simp at this ⊢; omega, by simpa using hB2.2.1, by simpa using hB2.2.2⟩, by simpa using hy.rep.append (.one hr), ?_⟩, ?_, ?_, ?_⟩
   ·intro s hs
    rcases List.mem_append.1 hs with hs | hs
    ·exact hy.each s hs
    ·rw [List.mem_singleton.1 hs]; exact hnl
   ·simp only [hyn, List.map_append, List.map_cons, List.map_nil, List.append_assoc]
   ·simp only [hye, List.map_append, List.map_cons, List.map_nil, List.append_assoc]
   ·simp only [MS.own, P6, A8, Bn, List.map_append, List.map_cons, List.map_nil, List.append_assoc, List.length_append, List.length_cons, List.length_nil, List.cons_append, List.nil_append]
  ·skip
   refine Oy 12 rfl rfl rfl rfl rfl rfl .free (.inr Ap) ?_; refine Dx 9 rfl rfl rfl rfl ?_ (hu := u0) (hus := Iu (xs := y.xs) (zs := [_, _]) (sp := sq) Aa rfl); refine At Ad ?_; refine Se rfl (Om rfl ?_); refine Ca rfl (H8 ..) ?_; rintro _ _ _ _ ⟨rfl, rfl, rfl⟩; refine Bu rfl rfl rfl rfl .free ?_; refine Ab ?_; refine Al (.c rfl .nil) ?_
   refine ⟨J1, _, e1, fun w h => Mem.rev3 (Mem.sub (L' := (bq, _) :: (bb, _) :: (b, _) :: L) Bf h), _, ⟨y.ns ++ [n1], y.es ++ [p.e], some (bb, sp), c2, y.xs ++ [.string (str p.e.tree.atom), .slice o1 p.e.tree.parts.length k1], some (bq, sq), c3⟩, rfl, .ofAtom hnl, ⟨by simpa using hB', ⟨by have := hB2.1; simp at this ⊢; omega, by simpa using hB2.2.1, by simpa using hB2.2.2⟩, by simpa using hy.rep.append (.one hr), ?_⟩, ?_, ?_, ?_⟩
   ·intro s hs
    rcases List.mem_append.1 hs with hs | hs
    ·exact hy.each s hs
    ·rw [List.mem_singleton.1 hs]; exact hnl
   ·simp only [hyn, List.map_append, List.map_cons, List.map_nil, List.append_assoc]
   ·simp only [hye, List.map_append, List.map_cons, List.map_nil, List.append_assoc]
   ·simp only [MS.own, P6, A8, Bn, List.map_append, List.map_cons, List.map_nil, List.append_assoc, List.length_append, List.length_cons, List.length_nil, List.cons_append, List.nil_append]
 ·skip
  refine D3 6 rfl rfl rfl rfl Ac Ac Ac Ae Ae Ac .free rfl (.inr Ap) ?_; intro b32; refine M2 3 rfl Ad rfl (O9 rfl) .free rfl (.inr Ap) ?_; refine Da 5 rfl (E4 rfl) ?_; refine Bt 7 (B := y.B2) (xs := y.xs) (ys := [.string (str []), .slice none 0 0]) (m := y.es.length) (c := y.c2) rfl Ad rfl Au Ac (by rw [hu2]; rfl) rfl hy.b2 (fun _ h => h.u7) Ac (fun a ha => by cases ha; exact Bm (.head _) Ac) Af Ac Ae Aa Ae .free rfl (fun _ => .inr Ap) ?_; intro B2 c3 hB2; obtain ⟨bq, sq, rfl⟩ : ∃ bq sq, B2 = some (bq, sq) := by
   cases B2 with
   | none => exact absurd hB2.1 Af
   | some z => exact ⟨z.1, z.2, rfl⟩
  have hxl2 := hy.rep.length
  rw [List.length_map] at hxl2
  simp only [A8, List.cons_append, List.nil_append, List.append_assoc]
  refine Da 8 rfl (F8 rfl rfl _ rfl Aa rfl) ?_; refine Eh (t := 34) rfl (congrArg (fun a => Value.pointer (some a)) (Pd bq (y.es.length * 2))) ?_; refine Da 10 rfl (Cy rfl) ?_
  first | refine Da 11 rfl (Aj rfl) ?_ | refine Da 11 rfl (Bi rfl) ?_
  refine El 9 12 Ad ?_ ?_
  ·skip
   refine Oy 9 rfl rfl rfl rfl rfl rfl .free (.inl Ad) ?_ (hu := u0) (hus := Iu (xs := y.xs) (zs := [_, _]) (sp := sq) Aa rfl); refine Dx 12 rfl rfl rfl rfl ?_; refine At Ad ?_; refine Se rfl (Om rfl ?_); refine Ca rfl (H8 ..) ?_; rintro _ _ _ _ ⟨rfl, rfl, rfl⟩; refine Bu rfl rfl rfl rfl .free ?_; refine Ab ?_; refine Al (.c rfl .nil) ?_
   refine ⟨J1, _, e1, fun w h => Mem.rev3 (Mem.sub (L' := (bq, _) :: (bb, _) :: (b, _) :: L) Bf h), _, ⟨y.ns ++ [n1], y.es ++ [p.e], some (bb, sp), c2, y.xs ++ [.string (str p.e.tree.atom), .slice o1 p.e.tree.parts.length k1], some (bq, sq), c3⟩, rfl, .ofAtom hnl, ⟨by simpa using hB', ⟨by have := hB2.1; simp at this ⊢; omega, by simpa using hB2.2.1, by simpa using hB2.2.2⟩, by simpa using hy.rep.append (.one hr), ?_⟩, ?_, ?_, ?_⟩
   ·intro s hs
    rcases List.mem_append.1 hs with hs | hs
    ·exact hy.each s hs
    ·rw [List.mem_singleton.1 hs]; exact hnl
   ·simp only [hyn, List.map_append, List.map_cons, List.map_nil, List.append_assoc]
   ·simp only [hye, List.map_append, List.map_cons, List.map_nil, List.append_assoc]
   ·simp only [MS.own, P6, A8, Bn, List.map_append, List.map_cons, List.map_nil, List.append_assoc, List.length_append, List.length_cons, List.length_nil, List.cons_append, List.nil_append]
  ·skip
   refine Oy 12 rfl rfl rfl rfl rfl rfl .free (.inr Ap) ?_; refine Dx 9 rfl rfl rfl rfl ?_ (hu := u0) (hus := Iu (xs := y.xs) (zs := [_, _]) (sp := sq) Aa rfl); refine At Ad ?_; refine Se rfl (Om rfl ?_); refine Ca rfl (H8 ..) ?_; rintro _ _ _ _ ⟨rfl, rfl, rfl⟩; refine Bu rfl rfl rfl rfl .free ?_; refine Ab ?_; refine Al (.c rfl .nil) ?_
   refine ⟨J1, _, e1, fun w h => Mem.rev3 (Mem.sub (L' := (bq, _) :: (bb, _) :: (b, _) :: L) Bf h), _, ⟨y.ns ++ [n1], y.es ++ [p.e], some (bb, sp), c2, y.xs ++ [.string (str p.e.tree.atom), .slice o1 p.e.tree.parts.length k1], some (bq, sq), c3⟩, rfl, .ofAtom hnl, ⟨by simpa using hB', ⟨by have := hB2.1; simp at this ⊢; omega, by simpa using hB2.2.1, by simpa using hB2.2.2⟩, by simpa using hy.rep.append (.one hr), ?_⟩, ?_, ?_, ?_⟩
   ·intro s hs
    rcases List.mem_append.1 hs with hs | hs
    ·exact hy.each s hs
    ·rw [List.mem_singleton.1 hs]; exact hnl
   ·simp only [hyn, List.map_append, List.map_cons, List.map_nil, List.append_assoc]
   ·simp only [hye, List.map_append, List.map_cons, List.map_nil, List.append_assoc]
   ·simp only [MS.own, P6, A8, Bn, List.map_append, List.map_cons, List.map_nil, List.append_assoc, List.length_append, List.length_cons, List.length_nil, List.cons_append, List.nil_append]
theorem Forms.at' {I : Heap} {oa : Option Addr} {ts : List Tree} {c : Nat} (h : Forms I oa ts c) : ∃ oaf cf, FormAt I (.node [] ts) oa c oaf cf := by
 obtain ⟨oa', c', oaf, cf, he, hf⟩ := (h.form [] Ae).at'
 simp only [List.cons.injEq, Value.slice.injEq, and_true, true_and] at he
 obtain ⟨_, rfl, _, rfl⟩ := he
 exact ⟨oaf, cf, hf⟩
theorem T7 {P : Program} {f : FuncId} {n : Nat} {I₀ : Heap} {Q : De} {k : List Item} {E : Hy} {I : Heap} {L : Bo} {ops : Array Oper} {ol : List Oper} {e : TypeId} {ts : List Tree} {vs : List Value} {B : Kd} {m c : Nat} (hl : RepL I ts vs) (hB : C8 2 m c vs B) (hm : m = ts.length) (hn : ts.length ≤ Ba)
  (h : ∀ I' oa c', HLe I I' → Bn m c B = .slice oa ts.length c' → Forms I' oa ts c' → Bd P f n I₀ Q ops ol k E I' L) : Bd P f n I₀ Q ops ol k E I (A8 e vs B ++ L) := by
 rcases Qb (e := e) hl hB hm hn with ⟨rfl, rfl⟩ | ⟨b, sp, rfl, _, hc⟩
 ·exact h I none 0 (.refl _) rfl (Ox _)
 ·exact G2 fun hle => h _ (some ⟨b, 0, none⟩) c hle (by rw [← hm]; rfl) (Nq hl hle hc hn)
theorem RepL.four {I : Heap} {t u v x : Tree} {cs ds es gs : List Value} (h : Rep I t cs) (h' : Rep I u ds) (h'' : Rep I v es) (h3 : Rep I x gs) : RepL I [t, u, v, x] (cs ++ (ds ++ (es ++ gs))) := (RepL.one h).append ((RepL.one h').append ((RepL.one h'').append (.one h3)))
theorem Acg {I : Heap} {oa : Option Addr} {ts : List Tree} {c : Nat} (h : Forms I oa ts c) (L : Bo) : Fun Tryz.prog 172 [.slice oa ts.length c] I L (RP (.node [] ts) L) := by
 refine Ao Af ?_; refine Se rfl ?_; refine Aw .free rfl ?_; intro b2; refine Ab (Se rfl (Om rfl ?_)); refine Cg rfl rfl rfl .free rfl ?_; refine Bu rfl rfl rfl rfl .free ?_; refine Ab ?_; refine Al (.c rfl .nil) ?_
 exact ⟨I, L, .refl _, Bk, _, rfl, h.form [] Ae, rfl⟩
theorem Ad6 {ns : List As} {es : List Ex} {k : Nat} (h : k < ns.length) (h2 : es.length = ns.length) (f : Ex) : Ft ((ns.zip es).drop k) f = .lt (ns.getD k []) (es.getD k (.num [])) (Ft ((ns.zip es).drop (k + 1)) f) := by
 have h3 : k < (ns.zip es).length := by simp [List.length_zip, h2]; exact h
 rw [Ur h3]
 simp [List.getElem_zip, h, show k < es.length by omega]
theorem Yi : ∀ (l : Wo), (l.map (·.1)).zip (l.map (·.2)) = l
 | [] => rfl
 | p :: l => by simp only [List.map_cons, List.zip_cons_cons, Yi l]
theorem L7 {N : Nat} (ih : Q0 N) {I : Heap} {e : Ex} {cs : List Value} (hlt : SizeOf.sizeOf e < N) (h : Rep I e.tree cs) (hok : e.ok = true) {ot : Option Addr} {tk : List As} {ct : Nat} (htk : Strs I ot tk ct) (b n : Nat) (hn : n + e.size + tk.length ≤ 900 + E5 121 tk n) (hz : e.size ≤ 100000) {a1 a2 : Option Addr} {q1 j1 q2 j2 : Nat} (L : Bo) :
  Fun Tryz.prog 125 [.pointer (some ⟨b, 0, none⟩), .agg cs.toArray] I (P6 b ot tk ct n (.slice a1 q1 j1) (.slice a2 q2 j2) :: L) (fun v I' L' => ∃ cs, v = .agg (List.toArray cs) ∧ Rep I' (e.mk tk n).all.tree cs ∧ L' = P6 b ot tk ct (e.mk tk n).n (.slice a1 q1 j1) (.slice a2 q2 j2) :: L) := by
 obtain ⟨oa, c, oaf, cf, rfl, hf⟩ := h.at'
 have hmo := Ex.mk_ok (tk := tk) (n := n) hok hn
 have hml := e.mk_len tk n
 generalize hp : e.mk tk n = p at *
 unfold P6
 refine Ao Af ?_; refine Se rfl ?_; refine Cn rfl rfl .free rfl ?_; intro b3; refine Aw .free rfl ?_; intro b4; refine Ab (Se rfl (Om rfl ?_)); refine Bw rfl .free rfl ?_
 first | refine Oh rfl ?_ | refine Oj rfl ?_
 refine O1 rfl .free rfl ?_; refine Oa rfl (Ab (Se rfl (Om rfl ?_))); refine Bw rfl .free rfl ?_
 first | refine Oh rfl ?_ | refine Oj rfl ?_
 refine O1 rfl .free rfl ?_; refine Oa rfl (Ab (Se rfl (Om rfl ?_))); refine Do .free rfl ?_; intro b18; refine Bw rfl .free rfl ?_
 first | refine Oh rfl ?_ | refine Oj rfl ?_
 refine Bu rfl rfl rfl rfl .free ?_; refine Ab (Se rfl (Om rfl ?_)); refine Do .free rfl ?_; intro b22; refine Bw rfl .free rfl ?_
 first | refine Oh rfl ?_ | refine Oj rfl ?_
 refine Bu rfl rfl rfl rfl .free ?_; refine Ab (Se rfl (Om rfl ?_)); refine A2 rfl .free rfl ?_; refine Dp (L' := MS.own b ot tk ct n ⟨[], [], some (b18, []), 0, [], some (b22, []), 0⟩ (_ :: _ :: L)) (fun w h => h.f4.sw) ?_; refine Ca rfl (ih hlt hf.rep hok htk b n hn ⟨[], [], some (b18, []), 0, [], some (b22, []), 0⟩ ⟨⟨rfl, Nat.le_refl _, rfl⟩, ⟨rfl, Nat.le_refl _, rfl⟩, .nil, by simp⟩ Cm rfl _) ?_; rw [hp]; rintro _ J1 _ e1 ⟨cs1, y, rfl, hr, hy, hyn, hye, rfl⟩; obtain ⟨o1, k1, _, rfl, -⟩ := hr.open
 simp only [List.nil_append] at hyn hye
 have hyl : y.ns.length = p.ns.length := by rw [hyn]; simp
 have hyl2 : y.es.length = y.ns.length := by rw [hye, hyn]; simp
 unfold MS.own
 refine Dp (fun w h => Mem.seg2 (A := [_]) h) ?_; refine Mc hy.b1 rfl Ch hy.each ?_; intro J2 oz cz ez hu1 hst; refine Dp (fun w h => Mem.seg2 (A := [_]) (B := A8 _ _ _) h) ?_
 have hy := hy.mono ez
 refine T7 hy.rep hy.b2 Af Ip ?_; intro J3 oy cy ey hu2 hfm; rw [hu1, hu2]; refine Dp (L' := (_ :: _ :: _ :: L)) (fun w h => h) ?_
 have hst := hst.mono ey
 have hr := (hr.mono ez).mono ey
 have hle := (e1.trans ez).trans ey
 obtain ⟨oaf2, cf2, hff⟩ := hfm.at'
 unfold P6
 refine Aw .free rfl ?_; intro b7; refine Bu rfl rfl rfl rfl .free ?_; refine Ab (Ah (Se rfl (Om rfl ?_))); refine Bw rfl .free rfl ?_
 first | refine Oh rfl ?_ | refine Oj rfl ?_
 refine O1 rfl .free rfl ?_; refine On rfl ?_; refine Or rfl rfl rfl ?_; refine Oa rfl (Ab (Aq ?_))
 refine C7 (X := YS) (fun z => z.k) (fun z => [(0, .pointer (some ⟨b, 0, none⟩)), (4, .pointer (some ⟨b4, 0, none⟩)), (5, .slice a1 q1 j1), (6, .slice a2 q2 j2), (7, .pointer (some ⟨b7, 0, none⟩)), (8, .int .i64 ((z.k : Int) - 1))]) (fun z => z.I) (fun z => (b7, .cells [.string (str (Ft ((y.ns.zip y.es).drop z.k) p.e).tree.atom), .slice z.oa (Ft ((y.ns.zip y.es).drop z.k) p.e).tree.parts.length z.c].toArray 68 (0, 0)) :: (b, .cells [.slice ot tk.length ct, .int .i64 (p.n : Nat), .slice oz y.ns.length cz, .slice oy (y.es.map Ex.tree).length cy].toArray 145 (0, 0)) :: (b4, .cells [.string (str []), .slice none 0 0].toArray 68 (0, 0)) :: (b3, .cells [.string (str e.tree.atom), .slice oa e.tree.parts.length c].toArray 68 (0, 0)) :: L) (fun z => HLe J3 z.I ∧ z.k ≤ y.ns.length ∧ Rep z.I (Ft ((y.ns.zip y.es).drop z.k) p.e).tree [.string (str (Ft ((y.ns.zip y.es).drop z.k) p.e).tree.atom), .slice z.oa (Ft ((y.ns.zip y.es).drop z.k) p.e).tree.parts.length z.c]) ⟨J3, y.ns.length, o1, k1⟩ ⟨.refl _, Nat.le_refl _, by rw [List.drop_of_length_le (by simp [List.length_zip, hyl2])]; exact hr⟩ ⟨rfl, rfl, rfl, rfl, rfl, rfl, trivial⟩ (fun w hw => by rw [List.drop_of_length_le (by simp [List.length_zip, hyl2])]; exact hw) ?_
 rintro ⟨J, k, ob, d⟩ ⟨hlz, hk, hrz⟩ ih2
 simp only at hlz hk hrz ih2
 dsimp only
 refine Ah (Se rfl (Om rfl (Oc rfl rfl rfl (Ab ?_)))); refine A0 rfl ?_ ?_
 ·intro c0
  try simp only [nb] at c0
  obtain ⟨k, rfl⟩ : ∃ m, k = m + 1 := ⟨k - 1, by omega⟩; refine I9 (t := 8) (v' := .int .i64 (k : Nat)) rfl Gl ?_
  have hst := hst.mono hlz
  have hff := hff.mono hlz
  have hkn : k < y.ns.length := by omega
  have hke : k < (Tree.node [] (y.es.map Ex.tree)).parts.length := by show k < (y.es.map Ex.tree).length; rw [List.length_map]; omega
  have hpt : (Tree.node [] (y.es.map Ex.tree)).pt k = (y.es.getD k (.num [])).tree := by
   rw [Tree.pt_at hke]; exact (List.getElem_map ..).trans (by simp [show k < y.es.length by omega])
  have hrk := hff.rp k hke
  have hnk := hst.each _ (List.getElem_mem hkn)
  rw [show y.ns[k] = y.ns.getD k [] by simp [hkn]] at hnk; refine Ak (Ah (Aq ?_)); refine Dn 20 rfl rfl ?_; refine Da 1 rfl (Ag rfl) ?_; refine Da 2 rfl (Cy rfl) ?_
  first | refine Da 3 rfl (Aj rfl) ?_ | refine Da 3 rfl (Bi rfl) ?_
  refine Dt 4 [19] rfl (O9 rfl) ?_; refine Da 5 rfl (Ag rfl) ?_
  first | refine Da 6 rfl (A3 rfl rfl _ rfl) ?_ | refine Da 6 rfl (A4 rfl rfl _ rfl) ?_
  refine Dt 7 [19] rfl (Tr rfl) ?_; refine Da 9 rfl (Ag rfl) ?_; refine Da 10 rfl (Cy rfl) ?_
  first | refine Da 11 rfl (Aj rfl) ?_ | refine Da 11 rfl (Bi rfl) ?_
  refine Dt 12 [19] rfl (O9 rfl) ?_; refine Da 13 rfl (Ag rfl) ?_
  first | refine Da 14 rfl (A3 rfl rfl _ rfl) ?_ | refine Da 14 rfl (A4 rfl rfl _ rfl) ?_
  refine Dt 15 [19] rfl (B7 rfl) ?_; refine Dt 16 [19] rfl (Cd rfl) ?_; refine Dc 0 rfl rfl (H8 Dq _ _) ?_; rintro _ _ _ _ ⟨rfl, rfl, rfl⟩; refine Hx ?_; refine Dc 8 rfl rfl (H8 (y.ns.getD k []) _ _) ?_; rintro _ _ _ _ ⟨rfl, rfl, rfl⟩; refine Hx ?_; refine C5 17 rfl Ad rfl rfl rfl Ac Ac Ac Ae Ae Ac .free rfl (.inr Ap) ?_; intro b55; refine Cp ?_; intro hz
  have hfs := L4 (c := 4) (b := b55) (RepL.four (.ofAtom (a := Dq) Ae) (.ofAtom hnk) hrk hrz) hz Af Be
  refine Dc 18 rfl rfl (Acg hfs _) ?_; rintro _ J5 _ e5 ⟨cs5, rfl, hr5, rfl⟩; rw [hpt] at hr5
  have e6 := hz.trans e5
  obtain ⟨oq, cq, _, rfl, -⟩ := hr5.open; refine Hx ?_; refine Dx 19 rfl rfl rfl rfl ?_; refine At Ad ?_; refine Ar (Am rfl (Om rfl ?_)); refine Or rfl rfl rfl ?_; refine Oa rfl (Ab ?_); refine Dy (E' := [(0, .pointer (some ⟨b, 0, none⟩)), (4, .pointer (some ⟨b4, 0, none⟩)), (5, .slice a1 q1 j1), (6, .slice a2 q2 j2), (7, .pointer (some ⟨b7, 0, none⟩)), (8, .int .i64 ((k : Int) - 1))]) ⟨rfl, rfl, rfl, rfl, rfl, rfl, trivial⟩ ?_
  have hd := Ad6 hkn hyl2 p.e
  refine Cs (fun w hw => ?_) (ih2 ⟨J5, k, oq, cq⟩ ⟨hlz.trans e6, by simp only; omega, by simp only; rw [hd]; exact hr5⟩ Eo)
  simp only; rw [hd]; exact hw
 intro c0
 try simp only [nb] at c0
 obtain rfl : k = 0 := by omega
 rw [List.drop_zero] at hrz
 simp only [List.drop_zero]
 have hzz : y.ns.zip y.es = p.ns := by rw [hyn, hye, Yi]
 rw [hzz] at hrz ⊢; refine Ce rfl ?_; refine Se rfl (Om rfl (Om rfl ?_)); refine Bw rfl .free rfl ?_
 first | refine Oh rfl ?_ | refine Oj rfl ?_
 refine Bu rfl rfl rfl rfl .free ?_; refine Ab (Se rfl (Om rfl (Om rfl ?_))); refine Bw rfl .free rfl ?_
 first | refine Oh rfl ?_ | refine Oj rfl ?_
 refine Bu rfl rfl rfl rfl .free ?_; refine Ab (Se rfl ?_); refine A2 rfl .free rfl ?_; refine Bu rfl rfl rfl rfl .free ?_; refine Ab ?_; refine Al (.c rfl .nil) ?_
 exact ⟨J, _, hle.trans hlz, Ms (L' := (b, _) :: L), _, rfl, hrz, rfl⟩
section
variable {P : Program} {f : FuncId} {n : Nat} {I₀ : Heap} {Q : De} {k : List Item} {E : Hy} {I : Heap} {id : Nat} {ops : Array Oper} {a b c d e m p q r s t : Nat × Obj} {A B L : Bo} {w : World}
theorem Mem.vm1 (h : Mem I (m :: (A ++ (B ++ (p :: L)))) w) : Mem I (p :: m :: (A ++ (B ++ L))) w := Mem.vm (X := [p]) h
theorem Mem.mv4 (h : Mem I (p :: q :: r :: s :: m :: (A ++ (B ++ L))) w) : Mem I (m :: (A ++ (B ++ (p :: q :: r :: s :: L)))) w := Mem.mv (X := [p, q, r, s]) h
theorem Mem.vm4 (h : Mem I (m :: (A ++ (B ++ (p :: q :: r :: s :: L)))) w) : Mem I (p :: q :: r :: s :: m :: (A ++ (B ++ L))) w := Mem.vm (X := [p, q, r, s]) h
theorem Aee (N : Nat) (hN : ops.size = N) (hm : P.follows .mixedOrders = true) (h : Cv P f n I₀ Q ops (Mem I (p :: q :: r :: s :: L)) N (Array.replicate N false) k E I (p :: q :: r :: s :: m :: (A ++ (B ++ L)))) :
  RunS P f n I₀ Q (.code (.region id ops true) :: k) E I (p :: q :: r :: s :: m :: (A ++ (B ++ L))) := Lb I (p :: q :: r :: s :: L) N hN hm h
theorem Ag2 (N : Nat) (hN : ops.size = N) (hm : P.follows .mixedOrders = true) (h : Cv P f n I₀ Q ops (Mem I (a :: p :: q :: r :: s :: m :: L)) N (Array.replicate N false) k E I (a :: p :: q :: r :: s :: m :: (A ++ L))) :
  RunS P f n I₀ Q (.code (.region id ops true) :: k) E I (a :: p :: q :: r :: s :: m :: (A ++ L)) := Lb I (a :: p :: q :: r :: s :: m :: L) N hN hm h
theorem Ag1 (N : Nat) (hN : ops.size = N) (hm : P.follows .mixedOrders = true) (h : Cv P f n I₀ Q ops (Mem I (p :: q :: r :: s :: t :: L)) N (Array.replicate N false) k E I (a :: b :: p :: q :: r :: s :: t :: m :: (A ++ L))) :
  RunS P f n I₀ Q (.code (.region id ops true) :: k) E I (a :: b :: p :: q :: r :: s :: t :: m :: (A ++ L)) := Lb I (p :: q :: r :: s :: t :: L) N hN hm h
end
set_option maxHeartbeats 1000000 in
theorem Acz {N : Nat} (ihn : Q0 N) {o : B5} {a b : Ex} {I : Heap} {cs : List Value} (hlt : SizeOf.sizeOf (Ex.bin o a b) < N + 1) (h : Rep I (Ex.bin o a b).tree cs) (hok : (Ex.bin o a b).ok = true) {ot : Option Addr} {tk : List As} {ct : Nat} (htk : Strs I ot tk ct) (b0 n : Nat) (hn : n + (Ex.bin o a b).size + tk.length ≤ 900 + E5 121 tk n) (x : MS) (hx : x.ok I) (hxl : x.ns.length + (Ex.bin o a b).size ≤ 100000) (hxe : x.es.length = x.ns.length) (L : Bo) :
  Fun Tryz.prog 171 [.pointer (some ⟨b0, 0, none⟩), .agg cs.toArray] I (x.own b0 ot tk ct n L) (MP b0 ot tk ct x ((Ex.bin o a b).mk tk n) L) := by
 obtain ⟨oa, c, oaf, cf1, rfl, hf, hcl, hcs⟩ := h.cells
 have hle : HLe I I := .refl _
 have hh0 := Bs 121 tk n
 have hpos : 0 < (Ex.bin o a b).tree.parts.length := by show 0 < 3; decide
 obtain ⟨xa, rfl⟩ : ∃ xa, oa = some xa := ⟨_, Fu hf.nil hpos⟩
 have hlen : (Ex.bin o a b).tree.parts.length = 3 := rfl
 have hp0 : ((Ex.bin o a b).tree.pt 0).atom = o.txt := rfl
 simp only [Ex.bin.sizeOf_spec] at hlt
 simp only [Ex.ok, Bool.and_eq_true, decide_eq_true_eq] at hok
 simp only [Ex.size] at hn hxl
 simp only [Ex.mk]
 unfold MS.own
 refine Ao Af ?_; refine Se rfl ?_; refine Cn rfl rfl .free rfl ?_; intro b3; refine Aw .free rfl ?_; intro b4; refine Ab (Ah (Se rfl (Oh rfl ?_))); refine Bz rfl .free rfl ?_; refine Od rfl rfl rfl (Ab ?_)
 first | refine Fq rfl En ?_ | refine Fp rfl En ?_ | refine Bl Av ?_
 refine Ak (Se rfl (Oh rfl ?_)); refine Bz rfl .free rfl ?_; refine Oa rfl (Ab (Se rfl ?_)); refine Do .free rfl ?_; intro b15; refine Om rfl ?_; refine Es (B := some (b15, [])) (xs := []) (ys := Ea oaf cf1 0 (Ex.bin o a b).tree.parts) (m := 0) (c := 0) Au Ac rfl rfl ⟨rfl, Nat.le_refl _, rfl⟩ (fun _ h => h) Fj (fun a ha => by cases ha; exact (hcs _ rfl).reads) Af hcl.plain hpos Ae Aa Ae .free rfl ?_; intro bc sp cc hB'
 have hcc : (Ex.bin o a b).tree.parts.length ≤ cc := by have := hB'.2.1; omega
 refine Hu (t := 17) (v' := .slice (some ⟨bc, 0, none⟩) (Ex.bin o a b).tree.parts.length cc) rfl Hh ?_
 simp only [List.nil_append]
 simp only [show (Ex.bin o a b).tree.parts = [.node o.txt [], a.tree, b.tree] from rfl, Ea, List.cons_append, List.nil_append]
 refine Cg rfl rfl rfl .free rfl ?_; refine Aw .free rfl ?_; intro b6; refine Bu rfl rfl rfl rfl .free ?_; refine Ab (Ah (Se rfl (Om rfl ?_)))
 first | refine Bx rfl rfl 0 rfl .free rfl ?_ | refine By rfl rfl 0 rfl .free rfl ?_
 refine Bg rfl .free rfl ?_; refine Gb rfl .free rfl ?_; refine Ab (Aq (Se rfl (Od rfl rfl rfl (Oa rfl (Ab ?_)))))
 first | refine Fq rfl Em ?_ | refine Fp rfl Em ?_ | refine Bl Av ?_
 refine Se rfl (Od rfl rfl rfl (Oa rfl (Ab ?_)))
 first | refine Fq rfl Em ?_ | refine Fp rfl Em ?_ | refine Bl Av ?_
 refine Se rfl (Od rfl rfl rfl (Oa rfl (Ab ?_)))
 first | refine Fq rfl Em ?_ | refine Fp rfl Em ?_ | refine Bl Av ?_
 refine Ak (Ar (Ah (Se rfl (Oa rfl (Ab (Aq ?_)))))); refine Ed ?_; refine Ah (Se rfl (Om rfl (Om rfl (On rfl (Oc rfl rfl rfl (Ab ?_)))))); refine Cb rfl Ax ?_; refine Ak (Ah (Aq ?_)); refine Dl fun hlr => ?_
 have g1 := a.mk_g tk n
 have mh1 := a.mk_hits tk n
 have gp1 := MK.pt_g tk _ g1.1 g1.2
 have mp1 := MK.pt_hits tk _ mh1
 have lp1 := MK.pt_len tk _ (a.mk_len tk n)
 have hz1 := Bs 121 tk n
 refine Aee 11 rfl rfl ?_; refine Da 0 rfl (Aj rfl) ?_; refine Dt 1 [10] rfl (Bc rfl) ?_; refine Da 2 rfl (Ag rfl) ?_; refine Da 3 rfl (Ag rfl) ?_; refine Da 4 rfl (Ag rfl) ?_; refine Da 5 rfl (Ag rfl) ?_
 first | refine Da 6 rfl (A3 rfl rfl _ rfl) ?_ | refine Da 6 rfl (A4 rfl rfl _ rfl) ?_
 refine Dt 7 [10] rfl (B7 rfl) ?_; refine Br (fun w h => Mem.mv4 h) ?_; refine Dc 8 rfl rfl (L6 ihn Aa (hf.as 1 a.tree Aa rfl) hok.1 htk b0 n Aa x hx Aa hxe _) ?_; rintro _ J1 _ e1 ⟨cs1, y1, rfl, hr_1, hy1, hy1n, hy1s, rfl⟩; obtain ⟨o1, k1, _, rfl, -⟩ := hr_1.open
 have hy1l : y1.ns.length = x.ns.length + ((a.mk tk n).pt tk).ns.length := by rw [hy1n]; simp
 have hy1e : y1.es.length = y1.ns.length := by rw [hy1s, hy1n]; simp [hxe]
 have hlr := hlr.trans e1
 have hf := hf.mono e1
 have htk := htk.mono e1
 have hle := hle.trans e1
 unfold MS.own
 refine Hx ?_; refine Br (fun w h => Mem.vm4 h) ?_
 first | refine Da 9 rfl (A3 rfl rfl _ rfl) ?_ | refine Da 9 rfl (A4 rfl rfl _ rfl) ?_
 refine Dx 10 rfl rfl rfl rfl ?_; refine At Ad ?_; refine Ar (Am rfl (Om rfl ?_)); refine Or rfl rfl rfl ?_; refine Oa rfl (Ab ?_); refine B6 ?_; refine Ah (Se rfl (Om rfl (Om rfl (On rfl (Oc rfl rfl rfl (Ab ?_)))))); refine Cb rfl Ax ?_; refine Ak (Ah (Aq ?_)); refine Dl fun hlr => ?_
 have g2 := b.mk_g tk ((a.mk tk n).pt tk).n
 have mh2 := b.mk_hits tk ((a.mk tk n).pt tk).n
 have gp2 := MK.pt_g tk _ g2.1 g2.2
 have mp2 := MK.pt_hits tk _ mh2
 have lp2 := MK.pt_len tk _ (b.mk_len tk ((a.mk tk n).pt tk).n)
 have hz2 := Bs 121 tk ((a.mk tk n).pt tk).n
 refine Aee 11 rfl rfl ?_; refine Da 0 rfl (Aj rfl) ?_; refine Dt 1 [10] rfl (Bc rfl) ?_; refine Da 2 rfl (Ag rfl) ?_; refine Da 3 rfl (Ag rfl) ?_; refine Da 4 rfl (Ag rfl) ?_; refine Da 5 rfl (Ag rfl) ?_
 first | refine Da 6 rfl (A3 rfl rfl _ rfl) ?_ | refine Da 6 rfl (A4 rfl rfl _ rfl) ?_
 refine Dt 7 [10] rfl (B7 rfl) ?_; refine Br (fun w h => Mem.mv4 h) ?_; refine Dc 8 rfl rfl (L6 ihn Aa (hf.as 2 b.tree Aa rfl) hok.2 htk b0 ((a.mk tk n).pt tk).n Aa y1 hy1 Aa hy1e _) ?_; rintro _ J2 _ e2 ⟨cs2, y2, rfl, hr_2, hy2, hy2n, hy2s, rfl⟩; obtain ⟨o2, k2, _, rfl, -⟩ := hr_2.open
 have hy2l : y2.ns.length = y1.ns.length + ((b.mk tk ((a.mk tk n).pt tk).n).pt tk).ns.length := by rw [hy2n]; simp
 have hy2e : y2.es.length = y2.ns.length := by rw [hy2s, hy2n]; simp [hy1e]
 have hlr := hlr.trans e2
 have hf := hf.mono e2
 have htk := htk.mono e2
 have hle := hle.trans e2
 have hr_1 := hr_1.mono e2
 unfold MS.own
 refine Hx ?_; refine Br (fun w h => Mem.vm4 h) ?_
 first | refine Da 9 rfl (A3 rfl rfl _ rfl) ?_ | refine Da 9 rfl (A4 rfl rfl _ rfl) ?_
 refine Dx 10 rfl rfl rfl rfl ?_; refine At Ad ?_; refine Ar (Am rfl (Om rfl ?_)); refine Or rfl rfl rfl ?_; refine Oa rfl (Ab ?_); refine B6 ?_; refine Ah (Se rfl (Om rfl (Om rfl (On rfl (Oc rfl rfl rfl (Ab ?_)))))); refine Dg rfl Ax ?_; refine Ce rfl ?_; refine Se rfl ?_; refine A2 rfl .free rfl ?_; refine Bu rfl rfl rfl rfl .free ?_; refine Ab ?_; refine Cs (fun w h => h.f1) (Ci ?_); intro hz
 have hf := hf.mono hz
 refine Al (.c rfl .nil) ?_; refine ⟨_, _, hle.trans hz, fun w h => h.drop.drop.drop, _, y2, rfl, .mk' rfl (.cons (hf.as 0 (.node o.txt []) Aa rfl) (.cons (hr_1.mono hz) (.cons (hr_2.mono hz) (.nil)))) (fun y hy => by cases hy; exact A6 (xs := [_, _, _, _, _, _])) Af hcc Be Be, hy2.mono hz, by simp only [hy2n, hy1n, List.map_append, List.append_assoc], by simp only [hy2s, hy1s, List.map_append, List.append_assoc], ?_⟩
 rfl
set_option maxHeartbeats 1000000 in
theorem Ac0 {N : Nat} (ihn : Q0 N) {a b d : Ex} {I : Heap} {cs : List Value} (hlt : SizeOf.sizeOf (Ex.ite a b d) < N + 1) (h : Rep I (Ex.ite a b d).tree cs) (hok : (Ex.ite a b d).ok = true) {ot : Option Addr} {tk : List As} {ct : Nat} (htk : Strs I ot tk ct) (b0 n : Nat) (hn : n + (Ex.ite a b d).size + tk.length ≤ 900 + E5 121 tk n) (x : MS) (hx : x.ok I) (hxl : x.ns.length + (Ex.ite a b d).size ≤ 100000) (hxe : x.es.length = x.ns.length) (L : Bo) :
  Fun Tryz.prog 171 [.pointer (some ⟨b0, 0, none⟩), .agg cs.toArray] I (x.own b0 ot tk ct n L) (MP b0 ot tk ct x ((Ex.ite a b d).mk tk n) L) := by
 obtain ⟨oa, c, oaf, cf1, rfl, hf, hcl, hcs⟩ := h.cells
 have hle : HLe I I := .refl _
 have hh0 := Bs 121 tk n
 have hpos : 0 < (Ex.ite a b d).tree.parts.length := by show 0 < 4; decide
 obtain ⟨xa, rfl⟩ : ∃ xa, oa = some xa := ⟨_, Fu hf.nil hpos⟩
 have hlen : (Ex.ite a b d).tree.parts.length = 4 := rfl
 have hp0 : ((Ex.ite a b d).tree.pt 0).atom = Gi := rfl
 simp only [Ex.ite.sizeOf_spec] at hlt
 simp only [Ex.ok, Bool.and_eq_true, decide_eq_true_eq] at hok
 simp only [Ex.size] at hn hxl
 simp only [Ex.mk]
 unfold MS.own
 refine Ao Af ?_; refine Se rfl ?_; refine Cn rfl rfl .free rfl ?_; intro b3; refine Aw .free rfl ?_; intro b4; refine Ab (Ah (Se rfl (Oh rfl ?_))); refine Bz rfl .free rfl ?_; refine Od rfl rfl rfl (Ab ?_)
 first | refine Fq rfl En ?_ | refine Fp rfl En ?_ | refine Bl Av ?_
 refine Ak (Se rfl (Oh rfl ?_)); refine Bz rfl .free rfl ?_; refine Oa rfl (Ab (Se rfl ?_)); refine Do .free rfl ?_; intro b15; refine Om rfl ?_; refine Es (B := some (b15, [])) (xs := []) (ys := Ea oaf cf1 0 (Ex.ite a b d).tree.parts) (m := 0) (c := 0) Au Ac rfl rfl ⟨rfl, Nat.le_refl _, rfl⟩ (fun _ h => h) Fj (fun a ha => by cases ha; exact (hcs _ rfl).reads) Af hcl.plain hpos Ae Aa Ae .free rfl ?_; intro bc sp cc hB'
 have hcc : (Ex.ite a b d).tree.parts.length ≤ cc := by have := hB'.2.1; omega
 refine Hu (t := 17) (v' := .slice (some ⟨bc, 0, none⟩) (Ex.ite a b d).tree.parts.length cc) rfl Hh ?_
 simp only [List.nil_append]
 simp only [show (Ex.ite a b d).tree.parts = [.node Gi [], a.tree, b.tree, d.tree] from rfl, Ea, List.cons_append, List.nil_append]
 refine Cg rfl rfl rfl .free rfl ?_; refine Aw .free rfl ?_; intro b6; refine Bu rfl rfl rfl rfl .free ?_; refine Ab (Ah (Se rfl (Om rfl ?_)))
 first | refine Bx rfl rfl 0 rfl .free rfl ?_ | refine By rfl rfl 0 rfl .free rfl ?_
 refine Bg rfl .free rfl ?_; refine Gb rfl .free rfl ?_; refine Ab (Aq (Se rfl (Od rfl rfl rfl (Oa rfl (Ab ?_)))))
 first | refine Fq rfl Gk ?_ | refine Fp rfl Gk ?_ | refine Bl Av ?_
 refine Se rfl (Od rfl rfl rfl (Oa rfl (Ab ?_)))
 first | refine Fq rfl Gk ?_ | refine Fp rfl Gk ?_ | refine Bl Av ?_
 refine Se rfl (Od rfl rfl rfl (Oa rfl (Ab ?_)))
 first | refine L2 rfl (by rw [hp0]; rfl) ?_ | refine L1 rfl (by rw [hp0]; rfl) ?_ | refine Cx Av ?_
 refine Ah ?_; refine Dl fun hlr => ?_
 have g1 := a.mk_g tk n
 have mh1 := a.mk_hits tk n
 have gp1 := MK.pt_g tk _ g1.1 g1.2
 have mp1 := MK.pt_hits tk _ mh1
 have lp1 := MK.pt_len tk _ (a.mk_len tk n)
 have hz1 := Bs 121 tk n
 refine Aee 9 rfl rfl ?_; refine Da 0 rfl (Aj rfl) ?_; refine Dt 1 [8] rfl (Bc rfl) ?_; refine Da 2 rfl (Ag rfl) ?_; refine Da 3 rfl (Ag rfl) ?_
 first | refine Da 4 rfl (A3 rfl rfl 1 rfl) ?_ | refine Da 4 rfl (A4 rfl rfl 1 rfl) ?_
 refine Dt 5 [8] rfl (B7 rfl) ?_; refine Br (fun w h => Mem.mv4 h) ?_; refine Dc 6 rfl rfl (L6 ihn Aa (hf.as 1 a.tree Aa rfl) hok.1.1 htk b0 n Aa x hx Aa hxe _) ?_; rintro _ J1 _ e1 ⟨cs1, y1, rfl, hr_1, hy1, hy1n, hy1s, rfl⟩; obtain ⟨o1, k1, _, rfl, -⟩ := hr_1.open
 have hy1l : y1.ns.length = x.ns.length + ((a.mk tk n).pt tk).ns.length := by rw [hy1n]; simp
 have hy1e : y1.es.length = y1.ns.length := by rw [hy1s, hy1n]; simp [hxe]
 have hlr := hlr.trans e1
 have hf := hf.mono e1
 have htk := htk.mono e1
 have hle := hle.trans e1
 unfold MS.own
 refine Hx ?_; refine Br (fun w h => Mem.vm4 h) ?_
 first | refine Da 7 rfl (A3 rfl rfl 1 rfl) ?_ | refine Da 7 rfl (A4 rfl rfl 1 rfl) ?_
 refine Dx 8 rfl rfl rfl rfl ?_; refine At Ad ?_; refine Ah ?_; obtain ⟨a1, k2', hu1⟩ := Hn hy1.b1; obtain ⟨a2, k3', hu2⟩ := Hn hy1.b2; rw [hu1, hu2]
 unfold P6
 refine Dl fun hlr => ?_
 have g2 := b.mk_g tk ((a.mk tk n).pt tk).n
 have mh2 := b.mk_hits tk ((a.mk tk n).pt tk).n
 have hz2 := Bs 121 tk ((a.mk tk n).pt tk).n
 refine Cs (fun w h => h.f4) ?_; refine Hp 9 rfl rfl ?_; refine Da 0 rfl (Aj rfl) ?_; refine Dt 1 [8] rfl (Bc rfl) ?_; refine Da 2 rfl (Ag rfl) ?_; refine Da 3 rfl (Ag rfl) ?_
 first | refine Da 4 rfl (A3 rfl rfl 2 rfl) ?_ | refine Da 4 rfl (A4 rfl rfl 2 rfl) ?_
 refine Dt 5 [8] rfl (B7 rfl) ?_; refine Dc 6 rfl rfl (L7 ihn Aa (hf.as 2 b.tree Aa rfl) hok.1.2 htk b0 ((a.mk tk n).pt tk).n Aa Aa _) ?_; rintro _ J2 _ e2 ⟨cs2, rfl, hr_2, rfl⟩; obtain ⟨o2, k2, _, rfl, -⟩ := hr_2.open
 have hlr := hlr.trans e2
 have hf := hf.mono e2
 have htk := htk.mono e2
 have hle := hle.trans e2
 have hr_1 := hr_1.mono e2
 unfold P6
 refine Hx ?_
 first | refine Da 7 rfl (A3 rfl rfl 2 rfl) ?_ | refine Da 7 rfl (A4 rfl rfl 2 rfl) ?_
 refine Dx 8 rfl rfl rfl rfl ?_; refine At Ad ?_; refine Ah ?_; refine Dl fun hlr => ?_
 have g3 := d.mk_g tk (b.mk tk ((a.mk tk n).pt tk).n).n
 have mh3 := d.mk_hits tk (b.mk tk ((a.mk tk n).pt tk).n).n
 have hz3 := Bs 121 tk (b.mk tk ((a.mk tk n).pt tk).n).n
 refine Hp 9 rfl rfl ?_; refine Da 0 rfl (Aj rfl) ?_; refine Dt 1 [8] rfl (Bc rfl) ?_; refine Da 2 rfl (Ag rfl) ?_; refine Da 3 rfl (Ag rfl) ?_
 first | refine Da 4 rfl (A3 rfl rfl 3 rfl) ?_ | refine Da 4 rfl (A4 rfl rfl 3 rfl) ?_
 refine Dt 5 [8] rfl (B7 rfl) ?_; refine Dc 6 rfl rfl (L7 ihn Aa (hf.as 3 d.tree Aa rfl) hok.2 htk b0 (b.mk tk ((a.mk tk n).pt tk).n).n Aa Aa _) ?_; rintro _ J3 _ e3 ⟨cs3, rfl, hr_3, rfl⟩; obtain ⟨o3, k3, _, rfl, -⟩ := hr_3.open
 have hlr := hlr.trans e3
 have hf := hf.mono e3
 have htk := htk.mono e3
 have hle := hle.trans e3
 have hr_1 := hr_1.mono e3
 have hr_2 := hr_2.mono e3
 unfold P6
 refine Hx ?_
 first | refine Da 7 rfl (A3 rfl rfl 3 rfl) ?_ | refine Da 7 rfl (A4 rfl rfl 3 rfl) ?_
 refine Dx 8 rfl rfl rfl rfl ?_; refine At Ad ?_; refine Se rfl ?_; refine A2 rfl .free rfl ?_; refine Bu rfl rfl rfl rfl .free ?_; refine Ab ?_; refine Cs (fun w h => h.f2) (Ci ?_); intro hz
 have hf := hf.mono hz
 refine Al (.c rfl .nil) ?_; refine ⟨_, _, hle.trans hz, fun w h => Mem.sub (L' := (b0, _) :: (A8 9 (y1.ns.map sv) y1.B1 ++ (A8 68 y1.xs y1.B2 ++ L))) Bf h, _, y1, rfl, .mk' rfl (.cons (hf.as 0 (.node Gi []) Aa rfl) (.cons (hr_1.mono hz) (.cons (hr_2.mono hz) (.cons (hr_3.mono hz) (.nil))))) (fun y hy => by cases hy; exact A6 (xs := [_, _, _, _, _, _, _, _])) Af hcc Be Be, hy1.mono ((e2.trans e3).trans hz), by simpa using hy1n, by simpa using hy1s, ?_⟩
 unfold MS.own P6; rw [hu1, hu2]
set_option maxHeartbeats 1000000 in
theorem Aeq {N : Nat} (ihn : Q0 N) {z : As} {a b : Ex} {I : Heap} {cs : List Value} (hlt : SizeOf.sizeOf (Ex.lt z a b) < N + 1) (h : Rep I (Ex.lt z a b).tree cs) (hok : (Ex.lt z a b).ok = true) {ot : Option Addr} {tk : List As} {ct : Nat} (htk : Strs I ot tk ct) (b0 n : Nat) (hn : n + (Ex.lt z a b).size + tk.length ≤ 900 + E5 121 tk n) (x : MS) (hx : x.ok I) (hxl : x.ns.length + (Ex.lt z a b).size ≤ 100000) (hxe : x.es.length = x.ns.length) (L : Bo) :
  Fun Tryz.prog 171 [.pointer (some ⟨b0, 0, none⟩), .agg cs.toArray] I (x.own b0 ot tk ct n L) (MP b0 ot tk ct x ((Ex.lt z a b).mk tk n) L) := by
 obtain ⟨oa, c, oaf, cf1, rfl, hf, hcl, hcs⟩ := h.cells
 have hle : HLe I I := .refl _
 have hh0 := Bs 121 tk n
 have hpos : 0 < (Ex.lt z a b).tree.parts.length := by show 0 < 4; decide
 obtain ⟨xa, rfl⟩ : ∃ xa, oa = some xa := ⟨_, Fu hf.nil hpos⟩
 have hlen : (Ex.lt z a b).tree.parts.length = 4 := rfl
 have hp0 : ((Ex.lt z a b).tree.pt 0).atom = Dq := rfl
 simp only [Ex.lt.sizeOf_spec] at hlt
 simp only [Ex.ok, Bool.and_eq_true, decide_eq_true_eq] at hok
 simp only [Ex.size] at hn hxl
 simp only [Ex.mk]
 unfold MS.own
 refine Ao Af ?_; refine Se rfl ?_; refine Cn rfl rfl .free rfl ?_; intro b3; refine Aw .free rfl ?_; intro b4; refine Ab (Ah (Se rfl (Oh rfl ?_))); refine Bz rfl .free rfl ?_; refine Od rfl rfl rfl (Ab ?_)
 first | refine Fq rfl En ?_ | refine Fp rfl En ?_ | refine Bl Av ?_
 refine Ak (Se rfl (Oh rfl ?_)); refine Bz rfl .free rfl ?_; refine Oa rfl (Ab (Se rfl ?_)); refine Do .free rfl ?_; intro b15; refine Om rfl ?_; refine Es (B := some (b15, [])) (xs := []) (ys := Ea oaf cf1 0 (Ex.lt z a b).tree.parts) (m := 0) (c := 0) Au Ac rfl rfl ⟨rfl, Nat.le_refl _, rfl⟩ (fun _ h => h) Fj (fun a ha => by cases ha; exact (hcs _ rfl).reads) Af hcl.plain hpos Ae Aa Ae .free rfl ?_; intro bc sp cc hB'
 have hcc : (Ex.lt z a b).tree.parts.length ≤ cc := by have := hB'.2.1; omega
 refine Hu (t := 17) (v' := .slice (some ⟨bc, 0, none⟩) (Ex.lt z a b).tree.parts.length cc) rfl Hh ?_
 simp only [List.nil_append]
 simp only [show (Ex.lt z a b).tree.parts = [.node Dq [], .node z [], a.tree, b.tree] from rfl, Ea, List.cons_append, List.nil_append]
 refine Cg rfl rfl rfl .free rfl ?_; refine Aw .free rfl ?_; intro b6; refine Bu rfl rfl rfl rfl .free ?_; refine Ab (Ah (Se rfl (Om rfl ?_)))
 first | refine Bx rfl rfl 0 rfl .free rfl ?_ | refine By rfl rfl 0 rfl .free rfl ?_
 refine Bg rfl .free rfl ?_; refine Gb rfl .free rfl ?_; refine Ab (Aq (Se rfl (Od rfl rfl rfl (Oa rfl (Ab ?_)))))
 first | refine L2 rfl (by rw [hp0]; rfl) ?_ | refine L1 rfl (by rw [hp0]; rfl) ?_ | refine Cx Av ?_
 refine Ah ?_
 have g1 := a.mk_g tk n
 have mh1 := a.mk_hits tk n
 have ml1 := a.mk_len tk n
 have ml2 := b.mk_len tk (a.mk tk n).n
 have mo1 := Ex.mk_ok (tk := tk) (n := n) hok.1.2 Aa
 refine Am rfl (Om rfl (Om rfl ?_))
 first | refine Bx rfl rfl 2 rfl .free rfl ?_ | refine By rfl rfl 2 rfl .free rfl ?_
 refine Fy rfl .free rfl ?_; refine Dp (fun w h => Mem.mv4 h) ?_; refine Ca rfl (ihn Aa (hf.as 2 a.tree Aa rfl) hok.1.2 htk b0 n Aa x hx Aa hxe _) ?_; rintro _ J1 _ e1 ⟨cs1, y, rfl, hr, hy, hyn, hys, rfl⟩; obtain ⟨o1, k1, _, rfl, -⟩ := hr.open
 have hyl : y.ns.length = x.ns.length + (a.mk tk n).ns.length := by rw [hyn]; simp
 have hyl2 : y.es.length = y.ns.length := by rw [hys, hyn]; simp [hxe]
 have hzl := Ex.name_len hok.1.1
 obtain ⟨a1, k2, hu1⟩ := Hn hy.b1; obtain ⟨a2, k3, hu2⟩ := Hn hy.b2
 have hf := hf.mono e1
 have htk := htk.mono e1
 have hle := hle.trans e1
 unfold MS.own
 refine Dp (fun w h => Mem.vm4 h) ?_; rw [hu1, hu2]
 unfold P6
 refine Aw .free rfl ?_; intro b7; refine Bu rfl rfl rfl rfl .free ?_; refine Ab (Ah ?_); refine Dl fun hlr => ?_
 refine Ag2 14 rfl rfl ?_; refine Da 0 rfl (Ag rfl) ?_; refine Da 1 rfl (Ag rfl) ?_; refine Da 2 rfl (Cy rfl) ?_
 first | refine Da 3 rfl (Aj rfl) ?_ | refine Da 3 rfl (Bi rfl) ?_
 refine Dt 4 [13] rfl (O9 rfl) ?_; refine Da 5 rfl (Ag rfl) ?_
 first | refine Da 6 rfl (A3 rfl rfl 1 rfl) ?_ | refine Da 6 rfl (A4 rfl rfl 1 rfl) ?_
 refine Da 7 rfl (Bi rfl) ?_; refine Dt 8 [13] rfl (I6 rfl) ?_; refine C5 9 rfl Ad rfl rfl rfl Ac Ac Ac Ae Ae Ac .free rfl (.inr Ap) ?_; intro b39; refine Bt 10 (B := y.B1) (xs := y.ns.map sv) (ys := [sv z]) (m := y.ns.length) (c := y.c1) rfl Ad rfl Au Ac (by rw [hu1]; rfl) rfl hy.b1 (fun _ h => h.u7) Ac (fun a ha => by cases ha; exact Bm (.head _) Ac) Af Ac Ae Aa Ae .free rfl (fun _ => .inr Ap) ?_; intro B1 c2 hB1; obtain ⟨bb, sb, rfl⟩ : ∃ bb sb, B1 = some (bb, sb) := by
  cases B1 with
  | none => exact absurd hB1.1 Af
  | some z => exact ⟨z.1, z.2, rfl⟩
 simp only [A8, List.cons_append, List.nil_append]
 refine Da 11 rfl (Cy rfl) ?_
 first | refine Da 12 rfl (Aj rfl) ?_ | refine Da 12 rfl (Bi rfl) ?_
 refine Dx 13 rfl rfl rfl rfl ?_ (hu := u7); refine At Ad ?_; refine Ah ?_; refine Ag1 13 rfl rfl ?_; refine Da 0 rfl (Ag rfl) ?_; refine Da 1 rfl (Cy rfl) ?_
 first | refine Da 2 rfl (Aj rfl) ?_ | refine Da 2 rfl (Bi rfl) ?_
 refine Dt 4 [9] rfl (Cd rfl) ?_; refine El 3 6 Ad ?_ ?_
 ·skip
  refine Lw 3 rfl rfl (K0 rfl (by first | exact Er (.tail _ m6) Ac rfl | exact Er (.tail _ (.tail _ m6)) Ac rfl)) .free rfl (.inr Ap) ?_; refine Da 5 rfl (E4 rfl) ?_; refine C5 6 rfl Ad rfl rfl rfl Ac Ac Ac Ae Ae Ac .free rfl (.inr Ap) ?_; intro b49; refine Bt 7 (B := y.B2) (xs := y.xs) (ys := [.string (str []), .slice none 0 0]) (m := y.es.length) (c := y.c2) rfl Ad rfl Au Ac (by rw [hu2]; rfl) rfl hy.b2 (fun _ h => h.u9) Ac (fun a ha => by cases ha; exact Bm (.head _) Ac) Af Ac Ae Aa Ae .free rfl (fun _ => .inr Ap) ?_; intro B2 c3 hB2; obtain ⟨bq, sq, rfl⟩ : ∃ bq sq, B2 = some (bq, sq) := by
   cases B2 with
   | none => exact absurd hB2.1 Af
   | some z => exact ⟨z.1, z.2, rfl⟩
  have hxl2 := hy.rep.length
  rw [List.length_map] at hxl2
  simp only [A8, List.cons_append, List.nil_append, List.append_assoc]
  refine Da 8 rfl (F8 rfl rfl _ rfl Aa rfl) ?_; refine Eh (t := 51) rfl (congrArg (fun a => Value.pointer (some a)) (Pd bq (y.es.length * 2))) ?_; refine Da 10 rfl (Cy rfl) ?_
  first | refine Da 11 rfl (Aj rfl) ?_ | refine Da 11 rfl (Bi rfl) ?_
  refine El 9 12 Ad ?_ ?_
  ·skip
   refine Oy 9 rfl rfl rfl rfl rfl rfl .free (.inl Ad) ?_ (hu := u0) (hus := Iu (xs := y.xs) (zs := [_, _]) (sp := sq) Aa rfl); refine Afn 12 rfl Ad rfl rfl rfl rfl rfl .free (.inr Ap) ?_ (hu := u9); refine At Ad ?_; refine Ah ?_
   have hy2 : MS.ok J1 ⟨y.ns ++ [z], y.es ++ [(a.mk tk n).e], some (bb, sb), c2, y.xs ++ [.string (str (a.mk tk n).e.tree.atom), .slice o1 (a.mk tk n).e.tree.parts.length k1], some (bq, sq), c3⟩ := by
    refine ⟨by simpa using hB1, ⟨by have := hB2.1; simp at this ⊢; omega, by simpa using hB2.2.1, by simpa using hB2.2.2⟩, by simpa using hy.rep.append (.one hr), ?_⟩; intro s hs
    rcases List.mem_append.1 hs with hs | hs
    ·exact hy.each s hs
    ·rw [List.mem_singleton.1 hs]; exact hzl
   refine Am rfl (Om rfl (Om rfl ?_))
   first | refine Bx rfl rfl 3 rfl .free rfl ?_ | refine By rfl rfl 3 rfl .free rfl ?_
   refine Fy rfl .free rfl ?_; refine Dp (I' := J1) (L' := MS.own b0 ot tk ct (a.mk tk n).n ⟨y.ns ++ [z], y.es ++ [(a.mk tk n).e], some (bb, sb), c2, y.xs ++ [.string (str (a.mk tk n).e.tree.atom), .slice o1 (a.mk tk n).e.tree.parts.length k1], some (bq, sq), c3⟩ ((b4, .cells [.string (str []), .slice none 0 0].toArray 68 (0, 0)) :: L)) (fun w h => ?_) ?_
   ·have h2 := (Mem.sub (L' := (bq, _) :: (bb, _) :: (b4, _) :: (b0, _) :: L) Bf h).f3.sw
    simpa only [MS.own, P6, A8, Bn, List.map_append, List.map_cons, List.map_nil, List.append_assoc, List.length_append, List.length_cons, List.length_nil, List.cons_append, List.nil_append] using h2
   refine Ca rfl (ihn Aa (hf.as 3 b.tree Aa rfl) hok.2 htk b0 (a.mk tk n).n Aa _ hy2 Lk (by simp [hyl2]) _) ?_; rintro _ J2 _ e2 ⟨cs2, y2, rfl, hr2, hy3, hyn2, hys2, rfl⟩; obtain ⟨o2, k4, _, rfl, -⟩ := hr2.open
   have hle := hle.trans e2
   unfold MS.own
   refine Dp (fun w h => Mem.vm1 h) ?_; refine Bu rfl rfl rfl rfl .free ?_; refine Ab ?_; refine Al (.c rfl .nil) ?_; refine ⟨J2, _, hle, fun w h => h.drop, _, y2, rfl, hr2, hy3, ?_, ?_, rfl⟩
   ·simp only [hyn2, hyn, List.map_append, List.map_cons, List.append_assoc, List.cons_append, List.nil_append]
   ·simp only [hys2, hys, List.map_append, List.map_cons, List.append_assoc, List.cons_append, List.nil_append]
  ·skip
   refine Oy 12 rfl rfl rfl rfl rfl rfl .free (.inr Ap) ?_ (hu := u9); refine Dx 9 rfl rfl rfl rfl ?_ (hu := u0) (hus := Iu (xs := y.xs) (zs := [_, _]) (sp := sq) Aa rfl); refine At Ad ?_; refine Ah ?_
   have hy2 : MS.ok J1 ⟨y.ns ++ [z], y.es ++ [(a.mk tk n).e], some (bb, sb), c2, y.xs ++ [.string (str (a.mk tk n).e.tree.atom), .slice o1 (a.mk tk n).e.tree.parts.length k1], some (bq, sq), c3⟩ := by
    refine ⟨by simpa using hB1, ⟨by have := hB2.1; simp at this ⊢; omega, by simpa using hB2.2.1, by simpa using hB2.2.2⟩, by simpa using hy.rep.append (.one hr), ?_⟩; intro s hs
    rcases List.mem_append.1 hs with hs | hs
    ·exact hy.each s hs
    ·rw [List.mem_singleton.1 hs]; exact hzl
   refine Am rfl (Om rfl (Om rfl ?_))
   first | refine Bx rfl rfl 3 rfl .free rfl ?_ | refine By rfl rfl 3 rfl .free rfl ?_
   refine Fy rfl .free rfl ?_; refine Dp (I' := J1) (L' := MS.own b0 ot tk ct (a.mk tk n).n ⟨y.ns ++ [z], y.es ++ [(a.mk tk n).e], some (bb, sb), c2, y.xs ++ [.string (str (a.mk tk n).e.tree.atom), .slice o1 (a.mk tk n).e.tree.parts.length k1], some (bq, sq), c3⟩ ((b4, .cells [.string (str []), .slice none 0 0].toArray 68 (0, 0)) :: L)) (fun w h => ?_) ?_
   ·have h2 := (Mem.sub (L' := (bq, _) :: (bb, _) :: (b4, _) :: (b0, _) :: L) Bf h).f3.sw
    simpa only [MS.own, P6, A8, Bn, List.map_append, List.map_cons, List.map_nil, List.append_assoc, List.length_append, List.length_cons, List.length_nil, List.cons_append, List.nil_append] using h2
   refine Ca rfl (ihn Aa (hf.as 3 b.tree Aa rfl) hok.2 htk b0 (a.mk tk n).n Aa _ hy2 Lk (by simp [hyl2]) _) ?_; rintro _ J2 _ e2 ⟨cs2, y2, rfl, hr2, hy3, hyn2, hys2, rfl⟩; obtain ⟨o2, k4, _, rfl, -⟩ := hr2.open
   have hle := hle.trans e2
   unfold MS.own
   refine Dp (fun w h => Mem.vm1 h) ?_; refine Bu rfl rfl rfl rfl .free ?_; refine Ab ?_; refine Al (.c rfl .nil) ?_; refine ⟨J2, _, hle, fun w h => h.drop, _, y2, rfl, hr2, hy3, ?_, ?_, rfl⟩
   ·simp only [hyn2, hyn, List.map_append, List.map_cons, List.append_assoc, List.cons_append, List.nil_append]
   ·simp only [hys2, hys, List.map_append, List.map_cons, List.append_assoc, List.cons_append, List.nil_append]
 ·skip
  refine D3 6 rfl rfl rfl rfl Ac Ac Ac Ae Ae Ac .free rfl (.inr Ap) ?_; intro b49; refine M2 3 rfl Ad rfl (K0 rfl (by first | exact Er (.tail _ m6) Ac rfl | exact Er (.tail _ (.tail _ m6)) Ac rfl)) .free rfl (.inr Ap) ?_; refine Da 5 rfl (E4 rfl) ?_; refine Bt 7 (B := y.B2) (xs := y.xs) (ys := [.string (str []), .slice none 0 0]) (m := y.es.length) (c := y.c2) rfl Ad rfl Au Ac (by rw [hu2]; rfl) rfl hy.b2 (fun _ h => h.u9) Ac (fun a ha => by cases ha; exact Bm (.head _) Ac) Af Ac Ae Aa Ae .free rfl (fun _ => .inr Ap) ?_; intro B2 c3 hB2; obtain ⟨bq, sq, rfl⟩ : ∃ bq sq, B2 = some (bq, sq) := by
   cases B2 with
   | none => exact absurd hB2.1 Af
   | some z => exact ⟨z.1, z.2, rfl⟩
  have hxl2 := hy.rep.length
  rw [List.length_map] at hxl2
  simp only [A8, List.cons_append, List.nil_append, List.append_assoc]
  refine Da 8 rfl (F8 rfl rfl _ rfl Aa rfl) ?_; refine Eh (t := 51) rfl (congrArg (fun a => Value.pointer (some a)) (Pd bq (y.es.length * 2))) ?_; refine Da 10 rfl (Cy rfl) ?_
  first | refine Da 11 rfl (Aj rfl) ?_ | refine Da 11 rfl (Bi rfl) ?_
  refine El 9 12 Ad ?_ ?_
  ·skip
   refine Oy 9 rfl rfl rfl rfl rfl rfl .free (.inl Ad) ?_ (hu := u0) (hus := Iu (xs := y.xs) (zs := [_, _]) (sp := sq) Aa rfl); refine Afn 12 rfl Ad rfl rfl rfl rfl rfl .free (.inr Ap) ?_ (hu := u9); refine At Ad ?_; refine Ah ?_
   have hy2 : MS.ok J1 ⟨y.ns ++ [z], y.es ++ [(a.mk tk n).e], some (bb, sb), c2, y.xs ++ [.string (str (a.mk tk n).e.tree.atom), .slice o1 (a.mk tk n).e.tree.parts.length k1], some (bq, sq), c3⟩ := by
    refine ⟨by simpa using hB1, ⟨by have := hB2.1; simp at this ⊢; omega, by simpa using hB2.2.1, by simpa using hB2.2.2⟩, by simpa using hy.rep.append (.one hr), ?_⟩; intro s hs
    rcases List.mem_append.1 hs with hs | hs
    ·exact hy.each s hs
    ·rw [List.mem_singleton.1 hs]; exact hzl
   refine Am rfl (Om rfl (Om rfl ?_))
   first | refine Bx rfl rfl 3 rfl .free rfl ?_ | refine By rfl rfl 3 rfl .free rfl ?_
   refine Fy rfl .free rfl ?_; refine Dp (I' := J1) (L' := MS.own b0 ot tk ct (a.mk tk n).n ⟨y.ns ++ [z], y.es ++ [(a.mk tk n).e], some (bb, sb), c2, y.xs ++ [.string (str (a.mk tk n).e.tree.atom), .slice o1 (a.mk tk n).e.tree.parts.length k1], some (bq, sq), c3⟩ ((b4, .cells [.string (str []), .slice none 0 0].toArray 68 (0, 0)) :: L)) (fun w h => ?_) ?_
   ·have h2 := (Mem.sub (L' := (bq, _) :: (bb, _) :: (b4, _) :: (b0, _) :: L) Bf h).f3.sw
    simpa only [MS.own, P6, A8, Bn, List.map_append, List.map_cons, List.map_nil, List.append_assoc, List.length_append, List.length_cons, List.length_nil, List.cons_append, List.nil_append] using h2
   refine Ca rfl (ihn Aa (hf.as 3 b.tree Aa rfl) hok.2 htk b0 (a.mk tk n).n Aa _ hy2 Lk (by simp [hyl2]) _) ?_; rintro _ J2 _ e2 ⟨cs2, y2, rfl, hr2, hy3, hyn2, hys2, rfl⟩; obtain ⟨o2, k4, _, rfl, -⟩ := hr2.open
   have hle := hle.trans e2
   unfold MS.own
   refine Dp (fun w h => Mem.vm1 h) ?_; refine Bu rfl rfl rfl rfl .free ?_; refine Ab ?_; refine Al (.c rfl .nil) ?_; refine ⟨J2, _, hle, fun w h => h.drop, _, y2, rfl, hr2, hy3, ?_, ?_, rfl⟩
   ·simp only [hyn2, hyn, List.map_append, List.map_cons, List.append_assoc, List.cons_append, List.nil_append]
   ·simp only [hys2, hys, List.map_append, List.map_cons, List.append_assoc, List.cons_append, List.nil_append]
  ·skip
   refine Oy 12 rfl rfl rfl rfl rfl rfl .free (.inr Ap) ?_ (hu := u9); refine Dx 9 rfl rfl rfl rfl ?_ (hu := u0) (hus := Iu (xs := y.xs) (zs := [_, _]) (sp := sq) Aa rfl); refine At Ad ?_; refine Ah ?_
   have hy2 : MS.ok J1 ⟨y.ns ++ [z], y.es ++ [(a.mk tk n).e], some (bb, sb), c2, y.xs ++ [.string (str (a.mk tk n).e.tree.atom), .slice o1 (a.mk tk n).e.tree.parts.length k1], some (bq, sq), c3⟩ := by
    refine ⟨by simpa using hB1, ⟨by have := hB2.1; simp at this ⊢; omega, by simpa using hB2.2.1, by simpa using hB2.2.2⟩, by simpa using hy.rep.append (.one hr), ?_⟩; intro s hs
    rcases List.mem_append.1 hs with hs | hs
    ·exact hy.each s hs
    ·rw [List.mem_singleton.1 hs]; exact hzl
   refine Am rfl (Om rfl (Om rfl ?_))
   first | refine Bx rfl rfl 3 rfl .free rfl ?_ | refine By rfl rfl 3 rfl .free rfl ?_
   refine Fy rfl .free rfl ?_; refine Dp (I' := J1) (L' := MS.own b0 ot tk ct (a.mk tk n).n ⟨y.ns ++ [z], y.es ++ [(a.mk tk n).e], some (bb, sb), c2, y.xs ++ [.string (str (a.mk tk n).e.tree.atom), .slice o1 (a.mk tk n).e.tree.parts.length k1], some (bq, sq), c3⟩ ((b4, .cells [.string (str []), .slice none 0 0].toArray 68 (0, 0)) :: L)) (fun w h => ?_) ?_
   ·have h2 := (Mem.sub (L' := (bq, _) :: (bb, _) :: (b4, _) :: (b0, _) :: L) Bf h).f3.sw
    simpa only [MS.own, P6, A8, Bn, List.map_append, List.map_cons, List.map_nil, List.append_assoc, List.length_append, List.length_cons, List.length_nil, List.cons_append, List.nil_append] using h2
   refine Ca rfl (ihn Aa (hf.as 3 b.tree Aa rfl) hok.2 htk b0 (a.mk tk n).n Aa _ hy2 Lk (by simp [hyl2]) _) ?_; rintro _ J2 _ e2 ⟨cs2, y2, rfl, hr2, hy3, hyn2, hys2, rfl⟩; obtain ⟨o2, k4, _, rfl, -⟩ := hr2.open
   have hle := hle.trans e2
   unfold MS.own
   refine Dp (fun w h => Mem.vm1 h) ?_; refine Bu rfl rfl rfl rfl .free ?_; refine Ab ?_; refine Al (.c rfl .nil) ?_; refine ⟨J2, _, hle, fun w h => h.drop, _, y2, rfl, hr2, hy3, ?_, ?_, rfl⟩
   ·simp only [hyn2, hyn, List.map_append, List.map_cons, List.append_assoc, List.cons_append, List.nil_append]
   ·simp only [hys2, hys, List.map_append, List.map_cons, List.append_assoc, List.cons_append, List.nil_append]
set_option maxHeartbeats 1000000 in
theorem Aep {N : Nat} (ihn : Q0 N) {h1 z : As} {s u : Ty} {b : Ex} {I : Heap} {cs : List Value} (hlt : SizeOf.sizeOf (Ex.fn h1 z s u b) < N + 1) (h : Rep I (Ex.fn h1 z s u b).tree cs) (hok : (Ex.fn h1 z s u b).ok = true) {ot : Option Addr} {tk : List As} {ct : Nat} (htk : Strs I ot tk ct) (b0 n : Nat) (hn : n + (Ex.fn h1 z s u b).size + tk.length ≤ 900 + E5 121 tk n) (x : MS) (hx : x.ok I) (hxl : x.ns.length + (Ex.fn h1 z s u b).size ≤ 100000) (hxe : x.es.length = x.ns.length) (L : Bo) :
  Fun Tryz.prog 171 [.pointer (some ⟨b0, 0, none⟩), .agg cs.toArray] I (x.own b0 ot tk ct n L) (MP b0 ot tk ct x ((Ex.fn h1 z s u b).mk tk n) L) := by
 obtain ⟨oa, c, oaf, cf1, rfl, hf, hcl, hcs⟩ := h.cells
 have hle : HLe I I := .refl _
 have hh0 := Bs 121 tk n
 have hpos : 0 < (Ex.fn h1 z s u b).tree.parts.length := by show 0 < 6; decide
 obtain ⟨xa, rfl⟩ : ∃ xa, oa = some xa := ⟨_, Fu hf.nil hpos⟩
 have hlen : (Ex.fn h1 z s u b).tree.parts.length = 6 := rfl
 have hp0 : ((Ex.fn h1 z s u b).tree.pt 0).atom = C6 := rfl
 simp only [Ex.fn.sizeOf_spec] at hlt
 simp only [Ex.ok, Bool.and_eq_true, decide_eq_true_eq] at hok
 simp only [Ex.size] at hn hxl
 simp only [Ex.mk]
 unfold MS.own
 refine Ao Af ?_; refine Se rfl ?_; refine Cn rfl rfl .free rfl ?_; intro b3; refine Aw .free rfl ?_; intro b4; refine Ab (Ah (Se rfl (Oh rfl ?_))); refine Bz rfl .free rfl ?_; refine Od rfl rfl rfl (Ab ?_)
 first | refine Fq rfl En ?_ | refine Fp rfl En ?_ | refine Bl Av ?_
 refine Ak (Se rfl (Oh rfl ?_)); refine Bz rfl .free rfl ?_; refine Oa rfl (Ab (Se rfl ?_)); refine Do .free rfl ?_; intro b15; refine Om rfl ?_; refine Es (B := some (b15, [])) (xs := []) (ys := Ea oaf cf1 0 (Ex.fn h1 z s u b).tree.parts) (m := 0) (c := 0) Au Ac rfl rfl ⟨rfl, Nat.le_refl _, rfl⟩ (fun _ h => h) Fj (fun a ha => by cases ha; exact (hcs _ rfl).reads) Af hcl.plain hpos Ae Aa Ae .free rfl ?_; intro bc sp cc hB'
 have hcc : (Ex.fn h1 z s u b).tree.parts.length ≤ cc := by have := hB'.2.1; omega
 refine Hu (t := 17) (v' := .slice (some ⟨bc, 0, none⟩) (Ex.fn h1 z s u b).tree.parts.length cc) rfl Hh ?_
 simp only [List.nil_append]
 simp only [show (Ex.fn h1 z s u b).tree.parts = [.node C6 [], .node h1 [], .node z [], s.tree, u.tree, b.tree] from rfl, Ea, List.cons_append, List.nil_append]
 refine Cg rfl rfl rfl .free rfl ?_; refine Aw .free rfl ?_; intro b6; refine Bu rfl rfl rfl rfl .free ?_; refine Ab (Ah (Se rfl (Om rfl ?_)))
 first | refine Bx rfl rfl 0 rfl .free rfl ?_ | refine By rfl rfl 0 rfl .free rfl ?_
 refine Bg rfl .free rfl ?_; refine Gb rfl .free rfl ?_; refine Ab (Aq (Ah ?_)); obtain ⟨a1, k2, hu1⟩ := Hn hx.b1; obtain ⟨a2, k3, hu2⟩ := Hn hx.b2; rw [hu1, hu2]
 unfold P6
 refine Am rfl (Od rfl rfl rfl (Oa rfl (Ab ?_)))
 first | refine Fq rfl Gk ?_ | refine Fp rfl Gk ?_ | refine Bl Av ?_
 refine Se rfl (Od rfl rfl rfl (Oa rfl (Ab ?_)))
 first | refine L2 rfl (by rw [hp0]; rfl) ?_ | refine L1 rfl (by rw [hp0]; rfl) ?_ | refine Cx Av ?_
 refine Ah ?_; refine Dl fun hlr => ?_
 have g1 := b.mk_g tk n
 have mh1 := b.mk_hits tk n
 have hz1 := Bs 121 tk n
 refine Cs (fun w h => h.f4) ?_; refine Hp 9 rfl rfl ?_; refine Da 0 rfl (Aj rfl) ?_; refine Dt 1 [8] rfl (Bc rfl) ?_; refine Da 2 rfl (Ag rfl) ?_; refine Da 3 rfl (Ag rfl) ?_
 first | refine Da 4 rfl (A3 rfl rfl 5 rfl) ?_ | refine Da 4 rfl (A4 rfl rfl 5 rfl) ?_
 refine Dt 5 [8] rfl (B7 rfl) ?_; refine Dc 6 rfl rfl (L7 ihn Aa (hf.as 5 b.tree Aa rfl) hok.2 htk b0 n Aa Aa _) ?_; rintro _ J1 _ e1 ⟨cs1, rfl, hr_1, rfl⟩; obtain ⟨o1, k1, _, rfl, -⟩ := hr_1.open
 have hlr := hlr.trans e1
 have hf := hf.mono e1
 have htk := htk.mono e1
 have hle := hle.trans e1
 unfold P6
 refine Hx ?_
 first | refine Da 7 rfl (A3 rfl rfl 5 rfl) ?_ | refine Da 7 rfl (A4 rfl rfl 5 rfl) ?_
 refine Dx 8 rfl rfl rfl rfl ?_; refine At Ad ?_; refine Se rfl ?_; refine A2 rfl .free rfl ?_; refine Bu rfl rfl rfl rfl .free ?_; refine Ab ?_; refine Cs (fun w h => h.f2) (Ci ?_); intro hz
 have hf := hf.mono hz
 refine Al (.c rfl .nil) ?_; refine ⟨_, _, hle.trans hz, fun w h => Mem.sub (L' := (b0, _) :: (A8 9 (x.ns.map sv) x.B1 ++ (A8 68 x.xs x.B2 ++ L))) Bf h, _, x, rfl, .mk' rfl (.cons (hf.as 0 (.node C6 []) Aa rfl) (.cons (hf.as 1 (.node h1 []) Aa rfl) (.cons (hf.as 2 (.node z []) Aa rfl) (.cons (hf.as 3 s.tree Aa rfl) (.cons (hf.as 4 u.tree Aa rfl) (.cons (hr_1.mono hz) (.nil))))))) (fun y hy => by cases hy; exact A6 (xs := [_, _, _, _, _, _, _, _, _, _, _, _])) Af hcc Be Be, hx.mono (hle.trans hz), by simp, by simp, ?_⟩
 unfold MS.own P6; rw [hu1, hu2]
set_option maxHeartbeats 1000000 in
theorem Aer {N : Nat} (ihn : Q0 N) {o : U2} {a : Ex} {I : Heap} {cs : List Value} (hlt : SizeOf.sizeOf (Ex.un o a) < N + 1) (h : Rep I (Ex.un o a).tree cs) (hok : (Ex.un o a).ok = true) {ot : Option Addr} {tk : List As} {ct : Nat} (htk : Strs I ot tk ct) (b0 n : Nat) (hn : n + (Ex.un o a).size + tk.length ≤ 900 + E5 121 tk n) (x : MS) (hx : x.ok I) (hxl : x.ns.length + (Ex.un o a).size ≤ 100000) (hxe : x.es.length = x.ns.length) (L : Bo) :
  Fun Tryz.prog 171 [.pointer (some ⟨b0, 0, none⟩), .agg cs.toArray] I (x.own b0 ot tk ct n L) (MP b0 ot tk ct x ((Ex.un o a).mk tk n) L) := by
 obtain ⟨oa, c, oaf, cf1, rfl, hf, hcl, hcs⟩ := h.cells
 have hle : HLe I I := .refl _
 have hh0 := Bs 121 tk n
 have hpos : 0 < (Ex.un o a).tree.parts.length := by show 0 < 2; decide
 obtain ⟨xa, rfl⟩ : ∃ xa, oa = some xa := ⟨_, Fu hf.nil hpos⟩
 have hlen : (Ex.un o a).tree.parts.length = 2 := rfl
 have hp0 : ((Ex.un o a).tree.pt 0).atom = o.txt := rfl
 simp only [Ex.un.sizeOf_spec] at hlt
 have hok : a.ok = true := hok
 simp only [Ex.size] at hn hxl
 simp only [Ex.mk]
 unfold MS.own
 refine Ao Af ?_; refine Se rfl ?_; refine Cn rfl rfl .free rfl ?_; intro b3; refine Aw .free rfl ?_; intro b4; refine Ab (Ah (Se rfl (Oh rfl ?_))); refine Bz rfl .free rfl ?_; refine Od rfl rfl rfl (Ab ?_)
 first | refine Fq rfl En ?_ | refine Fp rfl En ?_ | refine Bl Av ?_
 refine Ak (Se rfl (Oh rfl ?_)); refine Bz rfl .free rfl ?_; refine Oa rfl (Ab (Se rfl ?_)); refine Do .free rfl ?_; intro b15; refine Om rfl ?_; refine Es (B := some (b15, [])) (xs := []) (ys := Ea oaf cf1 0 (Ex.un o a).tree.parts) (m := 0) (c := 0) Au Ac rfl rfl ⟨rfl, Nat.le_refl _, rfl⟩ (fun _ h => h) Fj (fun a ha => by cases ha; exact (hcs _ rfl).reads) Af hcl.plain hpos Ae Aa Ae .free rfl ?_; intro bc sp cc hB'
 have hcc : (Ex.un o a).tree.parts.length ≤ cc := by have := hB'.2.1; omega
 refine Hu (t := 17) (v' := .slice (some ⟨bc, 0, none⟩) (Ex.un o a).tree.parts.length cc) rfl Hh ?_
 simp only [List.nil_append]
 simp only [show (Ex.un o a).tree.parts = [.node o.txt [], a.tree] from rfl, Ea, List.cons_append, List.nil_append]
 refine Cg rfl rfl rfl .free rfl ?_; refine Aw .free rfl ?_; intro b6; refine Bu rfl rfl rfl rfl .free ?_; refine Ab (Ah (Se rfl (Om rfl ?_)))
 first | refine Bx rfl rfl 0 rfl .free rfl ?_ | refine By rfl rfl 0 rfl .free rfl ?_
 refine Bg rfl .free rfl ?_; refine Gb rfl .free rfl ?_; refine Ab (Aq (Se rfl (Od rfl rfl rfl (Oa rfl (Ab ?_)))))
 first | refine Fq rfl Em ?_ | refine Fp rfl Em ?_ | refine Bl Av ?_
 refine Se rfl (Od rfl rfl rfl (Oa rfl (Ab ?_)))
 first | refine Fq rfl Em ?_ | refine Fp rfl Em ?_ | refine Bl Av ?_
 refine Se rfl (Od rfl rfl rfl (Oa rfl (Ab ?_)))
 first | refine Fq rfl Em ?_ | refine Fp rfl Em ?_ | refine Bl Av ?_
 refine Ak (Ar (Ah (Se rfl (Oa rfl (Ab (Aq ?_)))))); refine Ed ?_; refine Ah (Se rfl (Om rfl (Om rfl (On rfl (Oc rfl rfl rfl (Ab ?_)))))); refine Cb rfl Ax ?_; refine Ak (Ah (Aq ?_)); refine Dl fun hlr => ?_
 have g1 := a.mk_g tk n
 have mh1 := a.mk_hits tk n
 have gp1 := MK.pt_g tk _ g1.1 g1.2
 have mp1 := MK.pt_hits tk _ mh1
 have lp1 := MK.pt_len tk _ (a.mk_len tk n)
 have hz1 := Bs 121 tk n
 refine Aee 11 rfl rfl ?_; refine Da 0 rfl (Aj rfl) ?_; refine Dt 1 [10] rfl (Bc rfl) ?_; refine Da 2 rfl (Ag rfl) ?_; refine Da 3 rfl (Ag rfl) ?_; refine Da 4 rfl (Ag rfl) ?_; refine Da 5 rfl (Ag rfl) ?_
 first | refine Da 6 rfl (A3 rfl rfl _ rfl) ?_ | refine Da 6 rfl (A4 rfl rfl _ rfl) ?_
 refine Dt 7 [10] rfl (B7 rfl) ?_; refine Br (fun w h => Mem.mv4 h) ?_; refine Dc 8 rfl rfl (L6 ihn Aa (hf.as 1 a.tree Aa rfl) hok htk b0 n Aa x hx Aa hxe _) ?_; rintro _ J1 _ e1 ⟨cs1, y1, rfl, hr_1, hy1, hy1n, hy1s, rfl⟩; obtain ⟨o1, k1, _, rfl, -⟩ := hr_1.open
 have hy1l : y1.ns.length = x.ns.length + ((a.mk tk n).pt tk).ns.length := by rw [hy1n]; simp
 have hy1e : y1.es.length = y1.ns.length := by rw [hy1s, hy1n]; simp [hxe]
 have hlr := hlr.trans e1
 have hf := hf.mono e1
 have htk := htk.mono e1
 have hle := hle.trans e1
 unfold MS.own
 refine Hx ?_; refine Br (fun w h => Mem.vm4 h) ?_
 first | refine Da 9 rfl (A3 rfl rfl _ rfl) ?_ | refine Da 9 rfl (A4 rfl rfl _ rfl) ?_
 refine Dx 10 rfl rfl rfl rfl ?_; refine At Ad ?_; refine Ar (Am rfl (Om rfl ?_)); refine Or rfl rfl rfl ?_; refine Oa rfl (Ab ?_); refine B6 ?_; refine Ah (Se rfl (Om rfl (Om rfl (On rfl (Oc rfl rfl rfl (Ab ?_)))))); refine Dg rfl Ax ?_; refine Ce rfl ?_; refine Se rfl ?_; refine A2 rfl .free rfl ?_; refine Bu rfl rfl rfl rfl .free ?_; refine Ab ?_; refine Cs (fun w h => h.f1) (Ci ?_); intro hz
 have hf := hf.mono hz
 refine Al (.c rfl .nil) ?_; refine ⟨_, _, hle.trans hz, fun w h => h.drop.drop.drop, _, y1, rfl, .mk' rfl (.cons (hf.as 0 (.node o.txt []) Aa rfl) (.cons (hr_1.mono hz) (.nil))) (fun y hy => by cases hy; exact A6 (xs := [_, _, _, _])) Af hcc Be Be, hy1.mono hz, by simpa using hy1n, by simpa using hy1s, ?_⟩
 rfl
theorem Aax {e : Ex} {I : Heap} {cs : List Value} (hb : e.bare = true) (h : Rep I e.tree cs) (hok : e.ok = true) {ot : Option Addr} {tk : List As} {ct : Nat} (b0 n : Nat) (x : MS) (hx : x.ok I) (L : Bo) :
  Fun Tryz.prog 171 [.pointer (some ⟨b0, 0, none⟩), .agg cs.toArray] I (x.own b0 ot tk ct n L) (MP b0 ot tk ct x (e.mk tk n) L) := by
 obtain ⟨oa, c, oaf, cf1, rfl, hf⟩ := h.at'
 have hm : e.mk tk n = ⟨e, [], n, 0⟩ := by cases e <;> first | rfl | cases hb
 rw [hm]
 unfold MS.own
 refine Ao Af ?_; refine Se rfl ?_; refine Cn rfl rfl .free rfl ?_; intro b3; refine Aw .free rfl ?_; intro b4; refine Ab (Ah (Se rfl (Oh rfl ?_))); refine Bz rfl .free rfl ?_; refine Od rfl rfl rfl (Ab ?_)
 first | refine L2 rfl Pc ?_ | refine L1 rfl Pc ?_ | refine Cx Av ?_
 refine Se rfl ?_; refine A2 rfl .free rfl ?_; refine Bu rfl rfl rfl rfl .free ?_; refine Ab ?_; refine Al (.c rfl .nil) ?_
 exact ⟨I, _, .refl _, fun w h => h.drop.drop, _, x, rfl, hf.rep, hx, by simp, by simp, rfl⟩
theorem Acy : ∀ N : Nat, Q0 N := by
 intro N
 induction N with
 | zero => intro I e cs h; omega
 | succ N ihn =>
  intro I e cs hlt h hok ot tk ct htk b0 n hn x hx hxl hxe L
  cases hb : e.bare with
  | true => exact Aax hb h hok b0 n x hx L
  | false =>
   cases e with
   | num s => cases hb
   | name s => cases hb
   | bin o a b => exact Acz ihn hlt h hok htk b0 n hn x hx hxl hxe L
   | ite a b d => exact Ac0 ihn hlt h hok htk b0 n hn x hx hxl hxe L
   | lt z a b => exact Aeq ihn hlt h hok htk b0 n hn x hx hxl hxe L
   | fn h1 z s u b => exact Aep ihn hlt h hok htk b0 n hn x hx hxl hxe L
   | un o a => exact Aer ihn hlt h hok htk b0 n hn x hx hxl hxe L
theorem Afq {I : Heap} {e : Ex} {cs : List Value} (h : Rep I e.tree cs) (hfine : e.fine = true) (L : Bo) : Fun Tryz.prog 71 [.agg cs.toArray] I L (fun v I' L' => ∃ ds, v = .tuple #[.agg (List.toArray ds), .bool (decide (e.made.n ≤ 100))] ∧ Rep I' e.normal.tree ds ∧ L = L') := by
 obtain ⟨oa, c, oaf, cf, rfl, hf⟩ := h.at'
 have hpf := Gt hfine
 have hpf2 := hpf
 simp only [Ex.fine, Bool.and_eq_true, decide_eq_true_eq, Tree.fits] at hpf2
 have hroom := Ns hfine
 have hpg := Ex.tree_good hpf2.1.1
 have hpz := hpf2.1.2
 have hpsz : e.plain.tree.size ≤ 120 := by rw [Ex.tree_size]; exact hpf2.1.2
 refine Ao Af ?_; refine Se rfl ?_; refine Cn rfl rfl .free rfl ?_; intro b1; refine Aw .free rfl ?_; intro b2; refine Oa rfl (Ab (Se rfl ?_)); refine A2 rfl .free rfl ?_; refine Ca rfl (Xf hf.rep hfine _) ?_; rintro _ J1 _ e1 ⟨ds, rfl, hr, rfl⟩; obtain ⟨o1, k1, _, rfl, -⟩ := hr.open; refine Om rfl (Oe rfl rfl (Oe rfl rfl ?_)); refine Aw .free rfl ?_; intro b4; refine Bu rfl rfl rfl rfl .free ?_; refine Oa rfl (Ab (Ah (Se rfl (Om rfl ?_)))); refine Ec rfl .free rfl ?_; refine Ab ?_
 first | refine Sf rfl Af ?_ | refine Bl Av ?_
 refine Ak (Se rfl ?_); refine A2 rfl .free rfl ?_; refine Do .free rfl ?_; intro b17; refine Dp (L' := A8 9 (([] : List As).map sv) (some (b17, [])) ++ _) (fun w h => h) ?_; refine Ca rfl (Um _ (Nat.lt_succ_self _) hr hpg.1 [] (some (b17, [])) 0 Cm ⟨rfl, Nat.le_refl _, rfl⟩ _) ?_; rintro _ _ _ _ ⟨rfl, B2, c2, rfl, hB2, rfl⟩
 have htl : e.tk.length ≤ 120 := hroom.2.2
 refine Mc hB2 rfl (by show e.tk.length ≤ Ba; unfold Ba; omega) (Ae1 hfine) ?_; intro J2 oz cz ez hbv hst; refine Hu (t := 18) rfl hbv ?_
 have hst : Strs J2 oz e.tk cz := hst
 have hr := hr.mono ez
 have hle := e1.trans ez
 refine Do .free rfl ?_; intro b19; refine Do .free rfl ?_; intro b20; refine Cg rfl rfl rfl .free rfl ?_; refine Cn rfl rfl .free rfl ?_; intro b22; refine Oa rfl (Ab (Se rfl (Om rfl ?_))); refine A2 rfl .free rfl ?_; refine Dp (L' := P6 b22 oz e.tk cz 0 (.slice (some ⟨b19, 0, none⟩) 0 0) (.slice (some ⟨b20, 0, none⟩) 0 0) :: _) (fun w h => h) ?_; refine Ca rfl (L7 (Acy _) (Nat.lt_succ_self _) hr hpf2.1.1 hst b22 0 Aa Aa _) ?_; rintro _ J3 _ e3 ⟨cs3, rfl, hr3, rfl⟩
 have hr3 : Rep J3 e.normal.tree cs3 := hr3
 obtain ⟨o3, k3, _, rfl, -⟩ := hr3.open
 unfold P6
 have hle := hle.trans e3
 refine Aw .free rfl ?_; intro b7; refine Bu rfl rfl rfl rfl .free ?_; refine Ab (Ah ?_); refine Dn 8 rfl rfl ?_; refine Dt 0 [6] rfl (Cd rfl) ?_; refine Da 1 rfl (Ag rfl) ?_; refine Da 2 rfl (Cy rfl) ?_
 first | refine Da 3 rfl (Aj rfl) ?_ | refine Da 3 rfl (Bi rfl) ?_
 refine El 4 6 Ad ?_ ?_
 ·skip
  refine Lw 4 rfl rfl (O9 rfl) .free rfl (.inr Ap) ?_; refine Da 5 rfl (K8 rfl rfl rfl) ?_; refine Dx 6 rfl rfl rfl rfl ?_; refine Db 7 rfl (A5 rfl) ?_; refine At Ad ?_; refine Al (.c rfl (.tmp rfl .nil)) ?_
  exact ⟨J3, L, hle, Bk, _, by simp [Ck, Ex.made]; exact decide_eq_decide.2 Aa, hr3, rfl⟩
 ·skip
  refine Oy 6 rfl rfl rfl rfl rfl rfl .free (.inl Ad) ?_; refine M2 4 rfl Ad rfl (O9 rfl) .free rfl (.inl Ad) ?_; refine Db 5 rfl (K8 rfl rfl rfl) ?_; refine Db 7 rfl (A5 rfl) ?_; refine At Ad ?_; refine Al (.c rfl (.tmp rfl .nil)) ?_
  exact ⟨J3, L, hle, Bk, _, by simp [Ck, Ex.made]; exact decide_eq_decide.2 Aa, hr3, rfl⟩
theorem Yv (s : As) (hs : s.length ≤ L8) (I : Heap) (L : Bo) : Fun Tryz.prog 33 [.string (str s)] I L (EL (S3 s) L) := by
 refine Ao Af ?_; refine Se rfl (Oa rfl (Oa rfl (Ab (Se rfl (Om rfl ?_))))); refine Ca rfl (Sv s hs _ _) ?_; rintro _ J _ hleJ ⟨t, cs, ok, rfl, hrep, rfl, hpf⟩; obtain ⟨oc, cc, _, rfl, -⟩ := hrep.open; refine Om rfl (Oe rfl rfl (Oe rfl rfl ?_)); refine Aw .free rfl ?_; intro b4; refine Bu rfl rfl rfl rfl .free ?_; refine Oa rfl (Ab (Ah (Se rfl (Om rfl ?_)))); refine Ec rfl .free rfl ?_; refine Ab ?_; refine A0 rfl ?_ ?_
 ·intro c0
  try simp only [nb] at c0
  refine Se rfl (Oa rfl (Oa rfl (Ab ?_))); refine Al (.tmp rfl (.tmp rfl .nil)) ?_
  exact ⟨J, L, hleJ, Bk, by rw [Ql (Nl hpf c0)]; rfl, rfl⟩
 intro c0
 try simp only [nb] at c0
 obtain ⟨e, he, rfl, hok, hlen, hfine, htxt⟩ := Nm hpf c0
 have hnf := Nu he
 have hnok := Nv hfine
 have hnl := O0 hfine
 have hnn := Rd hfine
 have hx := Lo hnok
 have hfi : (Eu e.normal.tree.text).isSome = e.normal.fine := by rw [hx]; cases e.normal.fine <;> rfl
 refine Ak (Se rfl ?_); refine A2 rfl .free rfl ?_; refine Ca rfl (Afq hrep hfine _) ?_; rintro _ J2 _ e2 ⟨ds, rfl, hr, rfl⟩; obtain ⟨od, cd, _, rfl, -⟩ := hr.open
 have hle := hleJ.trans e2
 refine Om rfl (Oe rfl rfl (Oe rfl rfl ?_)); refine Aw .free rfl ?_; intro b6; refine Bu rfl rfl rfl rfl .free ?_; refine Oa rfl (Ab (Ah (Se rfl (Om rfl ?_)))); refine Ec rfl .free rfl ?_; refine Om rfl ?_
 apply G5 22 27 rfl
 ·intro g5_3 hk
  try simp only [nb] at g5_3
  refine A2 rfl (.met rfl rfl) rfl ?_; refine Cq rfl (.met rfl rfl) rfl (Kq _ (Nat.lt_succ_self _) hr (Ex.tree_good hnok).1 Aa _) ?_; rintro _ _ _ _ ⟨rfl, rfl, rfl⟩; refine Cq rfl (.met rfl rfl) rfl (Pm _ (by rw [Tree.text_len]; unfold L8; omega) _ _) ?_; rintro _ _ _ _ ⟨rfl, rfl, rfl⟩; refine Ec rfl (.met rfl rfl) rfl ?_; refine Of rfl rfl ?_
  exact A7 4 rfl rfl hk
 ·intro _ hk; refine Bj 4 rfl ?_; refine Ot rfl rfl ?_
  exact A7 4 rfl rfl hk
 refine Ab ?_; refine A0 rfl ?_ ?_
 ·intro c1
  try simp only [nb] at c1
  refine Se rfl (Oa rfl (Oa rfl (Ab ?_))); refine Al (.tmp rfl (.tmp rfl .nil)) ?_; refine ⟨J2, L, hle, Bk, ?_, rfl⟩; rw [hfi] at c1
  have hn : e.normal.fine = false := by
   cases hn : e.normal.fine with
   | false => rfl
   | true =>
    have := (hnn hn).2
    rw [hn] at c1
    simp at c1; omega
  rw [hnf, if_neg (by rw [hn]; simp)]; rfl
 intro c1
 try simp only [nb] at c1
 refine Ak (Se rfl ?_); refine A2 rfl .free rfl ?_; refine Ca rfl (Kq _ (Nat.lt_succ_self _) hr (Ex.tree_good hnok).1 Aa _) ?_; rintro _ _ _ _ ⟨rfl, rfl, rfl⟩; refine Oa rfl (Oa rfl (Ab ?_)); refine Al (.tmp rfl (.tmp rfl .nil)) ?_; refine ⟨J2, L, hle, Bk, ?_, rfl⟩; rw [hfi] at c1; rw [hnf, if_pos (by simpa using c1.2)]; rfl
def Ex.one : Ex → Nat
 | .lt _ _ _ => 1
 | _ => 0
def Ex.nl : Ex → Nat
 | .num _ => 0
 | .name _ => 0
 | .bin _ a b => a.nl + b.nl
 | .ite a b c => a.nl + b.nl + c.nl
 | .lt _ a b => 1 + a.nl + b.nl
 | .fn _ _ _ _ b => b.nl
 | .un _ a => a.nl
mutual
def Tree.nl : Tree → Nat
 | .node _ ps => (if (match ps with | [] => [] | p :: _ => p.atom) = Dq then 1 else 0) + nlL ps
def nlL : List Tree → Nat
 | [] => 0
 | t :: ts => t.nl + nlL ts
end
mutual
theorem Tree.nl_len : ∀ t : Tree, t.nl ≤ t.len
 | .node a [] => by simp [Tree.nl, nlL, Dq]
 | .node a (p :: ps) => by
  have h1 := Z0 (p :: ps)
  simp only [Tree.nl, Tree.len, List.isEmpty_cons, cond_false]
  split <;> omega
theorem Z0 : ∀ ts : List Tree, nlL ts ≤ G1 ts
 | [] => Nat.le_refl _
 | t :: ts => by have h1 := t.nl_len; have h2 := Z0 ts; simp only [nlL, G1]; omega
end
def Ex.path : Ex → List As
 | .lt x _ b => x :: b.path
 | _ => []
def Ex.last : Ex → Ex
 | .lt _ _ b => b.last
 | e => e
def V2 (s : As) : Int := match Jf true s with
 | some e => (e.nl : Nat)
 | none => -1
def Ag8 (s : As) : Option (List As × As) := (Jf true s).map fun e => (e.path, e.last.tree.text)
theorem Rc {s : As} {e : Ex} (h : Jf true s = some e) : V2 s = (e.nl : Nat) := by unfold V2; rw [h]
structure GK where
 i : Nat
 B : Kd
 c : Nat
def Ex.ks (e : Ex) : List As := e.sub.map fun a => a.tree.text
structure GM where
 i : Nat
 J : Heap
theorem Q5 {b : Bool} {s : As} {e : Ex} (h : Eu s = some e) : M3 b s = e.norm b := by
 unfold M3 Jf; rw [h]; cases hn : e.norm b <;> simp [hn]
theorem Q4 {b : Bool} {s : As} (h : Eu s = none) : M3 b s = false := by unfold M3 Jf; rw [h]; rfl
theorem Yq (s : As) (hs : s.length ≤ Ba) (I : Heap) (L : Bo) : Fun Tryz.prog 36 [.string (str s)] I L (fun v I' L' => v = .bool (M3 true s) ∧ L = L') := by
 refine Ao Af ?_; refine Se rfl (Oa rfl (Ab (Se rfl (Om rfl ?_)))); refine Ca rfl (Jb s hs _ _) ?_; rintro _ J _ hleJ ⟨t, cs, ok, rfl, hrep, rfl, hpf⟩; obtain ⟨oc, cc, _, rfl, -⟩ := hrep.open
 have g1 := Abu hpf
 refine Om rfl (Oe rfl rfl (Oe rfl rfl ?_)); refine Aw .free rfl ?_; intro b3; refine Bu rfl rfl rfl rfl .free ?_; refine Oa rfl (Ab (Se rfl (Om rfl (Om rfl ?_))))
 first | refine Hd rfl rfl ?_ ?_ | refine Fg rfl rfl ?_ ?_ | refine Mr rfl rfl ?_ ?_
 ·intro g2_2; obtain ⟨e, he, rfl⟩ := g1.2 g2_2; refine A2 rfl (.met rfl rfl) rfl ?_; refine Cq rfl (.met rfl rfl) rfl (Rl hrep (H0 he).2.1 _) ?_; rintro _ _ _ _ ⟨rfl, rfl, rfl⟩; refine Ot rfl rfl (Oa rfl (Ab (Al (.tmp rfl .nil) ?_))); refine ⟨J, L, hleJ, Bk, ?_, rfl⟩
  first
   | (rw [Q5 he]; rfl)
   | (rw [Q4 (g1.1 (by simpa using g2_2))]; rfl)
 intro g2_2; refine C1 rfl rfl rfl ?_; refine C1 rfl rfl rfl ?_; refine Of rfl rfl (Oa rfl (Ab (Al (.tmp rfl .nil) ?_))); refine ⟨J, L, hleJ, Bk, ?_, rfl⟩
 first
  | (rw [Q5 he]; rfl)
  | (rw [Q4 (g1.1 (by simpa using g2_2))]; rfl)
theorem Sx {l r : List As} {y : As} : ∀ {n : Nat}, n ≤ l.length → F4 (l ++ r) y n = F4 l y n
 | 0, _ => rfl
 | n + 1, h => by
  simp only [F4]
  rw [show (l ++ r).getD n [] = l.getD n [] by simp [List.getElem?_append_left (show n < l.length by omega)], Sx (by omega)]
theorem K3 (l : List As) (x y : As) : Bv (l ++ [x]) y = if x = y then some l.length else Bv l y := by
 unfold Bv
 rw [show (l ++ [x]).length = l.length + 1 by simp]
 simp only [F4]
 rw [show (l ++ [x]).getD l.length [] = x by simp, Sx (Nat.le_refl _)]
theorem Gh {l : List As} {m : List Ty} (h : l.length = m.length) (x y : As) (s : Ty) : Fl (l ++ [x]) (m ++ [s]) y = if x = y then some s else Fl l m y := by
 unfold Fl
 rw [K3]
 by_cases hx : x = y
 ·rw [if_pos hx, if_pos hx]; simp [h]
 ·rw [if_neg hx, if_neg hx]
  cases hi : Bv l y with
  | none => rfl
  | some i =>
   have h1 := (It (show F4 l y l.length = some i from hi)).1
   simp [List.getElem?_append_left (show i < m.length by omega)]
theorem Jx {l : List As} {m : List Ty} (h : l.length = m.length) (f x y : As) (s t : Ty) : Fl (l ++ [f, x]) (m ++ [s, t]) y = if x = y then some t else if f = y then some s else Fl l m y := by
 have h1 := Gh (l := l ++ [f]) (m := m ++ [s]) (by simp [h]) x y t
 rw [Gh h, List.append_assoc, List.append_assoc] at h1
 exact h1
theorem Ex.chk_congr : ∀ {e : Ex} {l l' : List As} {m m' : List Ty}, l.length = m.length → l'.length = m'.length → (∀ x ∈ e.occ [], Fl l m x = Fl l' m' x) → e.chk l m = e.chk l' m'
 | .num _, l, l', m, m', _, _, _ => rfl
 | .name s, l, l', m, m', _, _, h => by
  have := h s (by simp [Ex.occ])
  simp only [Ex.chk, this]
 | .bin o a b, l, l', m, m', h1, h2, h => by
  simp only [Ex.occ, List.mem_append] at h
  simp only [Ex.chk, Ex.chk_congr h1 h2 fun x hx => h x (.inl hx), Ex.chk_congr h1 h2 fun x hx => h x (.inr hx)]
 | .ite a b c, l, l', m, m', h1, h2, h => by
  simp only [Ex.occ, List.mem_append] at h
  simp only [Ex.chk, Ex.chk_congr h1 h2 fun x hx => h x (.inl (.inl hx)), Ex.chk_congr h1 h2 fun x hx => h x (.inl (.inr hx)), Ex.chk_congr h1 h2 fun x hx => h x (.inr hx)]
 | .lt y a b, l, l', m, m', h1, h2, h => by
  simp only [Ex.occ, List.mem_append, List.nil_append] at h
  simp only [Ex.chk, Ex.chk_congr h1 h2 fun x hx => h x (.inl hx)]
  cases a.chk l' m' with
  | error x => rfl
  | ok s =>
   refine Ex.chk_congr (by simp [h1]) (by simp [h2]) fun x hx => ?_
   rw [Gh h1, Gh h2]
   by_cases hy : y = x
   ·rw [if_pos hy, if_pos hy]
   ·rw [if_neg hy, if_neg hy]
    exact h x (.inr (Ex.occ_mem.2 ⟨hx, by simp only [List.mem_singleton]; exact fun e => hy e.symm⟩))
 | .fn f y s t b, l, l', m, m', h1, h2, h => by
  simp only [Ex.occ, List.nil_append] at h
  simp only [Ex.chk]
  rw [Ex.chk_congr (e := b) (l := l ++ [f, y]) (l' := l' ++ [f, y]) (m := m ++ [.fn s t, s]) (m' := m' ++ [.fn s t, s]) (by simp [h1]) (by simp [h2]) fun x hx => ?_]; rw [Jx h1, Jx h2]
  by_cases hy : y = x
  ·rw [if_pos hy, if_pos hy]
  ·rw [if_neg hy, if_neg hy]
   by_cases hf : f = x
   ·rw [if_pos hf, if_pos hf]
   ·rw [if_neg hf, if_neg hf]; refine h x (Ex.occ_mem.2 ⟨hx, ?_⟩)
    simp only [List.mem_cons, List.not_mem_nil, or_false]
    rintro (e | e)
    ·exact hf e.symm
    ·exact hy e.symm
 | .un o a, l, l', m, m', h1, h2, h => by
  simp only [Ex.occ] at h
  simp only [Ex.chk, Ex.chk_congr h1 h2 h]
theorem Ex.chk_closed {e : Ex} {t : Ty} (h : e.chk [] [] = .ok t) {l : List As} {m : List Ty} (hl : l.length = m.length) : e.chk l m = .ok t := by
 rw [← h]; refine (Ex.chk_congr (l := []) (m := []) rfl hl fun x hx => ?_).symm
 have := Ex.chk_occ h x hx
 cases this
theorem Ex.put_chk : ∀ {e : Ex} {n : As} {v : Ex} {k t : Ty} {l : List As} {m : List Ty}, l.length = m.length → v.chk [] [] = .ok k → Fl l m n = some k → e.chk l m = .ok t → (e.put n v).chk l m = .ok t
 | .num _, n, v, k, t, l, m, _, _, _, h => h
 | .name s, n, v, k, t, l, m, hl, hv, hn, h => by
  simp only [Ex.put]
  split
  ·rename_i e; subst e
   simp only [Ex.chk, hn] at h
   cases h
   exact Ex.chk_closed hv hl
  ·exact h
 | .bin o a b, n, v, k, t, l, m, hl, hv, hn, h => by
  simp only [Ex.chk] at h
  split at h
  ·cases h
  ·rename_i s h1
   split at h
   ·cases h
   ·rename_i u h2
    simp only [Ex.put, Ex.chk, Ex.put_chk hl hv hn h1, Ex.put_chk hl hv hn h2]
    split at h
    ·rename_i w h3; cases h; simp only [h3]
    ·cases h
 | .ite a b c, n, v, k, t, l, m, hl, hv, hn, h => by
  simp only [Ex.chk] at h
  split at h
  ·cases h
  ·rename_i s h1
   split at h
   ·cases h
   ·rename_i u h2
    split at h
    ·cases h
    ·rename_i w h3
     simp only [Ex.put, Ex.chk, Ex.put_chk hl hv hn h1, Ex.put_chk hl hv hn h2, Ex.put_chk hl hv hn h3]
     split at h
     ·rename_i h4; cases h; rw [if_pos h4]
     ·cases h
 | .lt y a b, n, v, k, t, l, m, hl, hv, hn, h => by
  simp only [Ex.chk] at h
  split at h
  ·cases h
  ·rename_i s h1
   simp only [Ex.put, Ex.chk, Ex.put_chk hl hv hn h1]
   by_cases hy : y = n
   ·rw [if_pos hy]; exact h
   ·rw [if_neg hy]
    exact Ex.put_chk (by simp [hl]) hv (by rw [Gh hl, if_neg hy]; exact hn) h
 | .fn f y s u b, n, v, k, t, l, m, hl, hv, hn, h => by
  simp only [Ex.chk] at h
  split at h
  ·rename_i hz
   split at h
   ·cases h
   ·rename_i w h1
    simp only [Ex.put, Ex.chk, hz, if_true]
    have h2 : (if f = n ∨ y = n then b else b.put n v).chk (l ++ [f, y]) (m ++ [.fn s u, s]) = .ok w := by
     by_cases hy : f = n ∨ y = n
     ·rw [if_pos hy]; exact h1
     ·rw [if_neg hy]; refine Ex.put_chk (by simp [hl]) hv ?_ h1; rw [Jx hl, if_neg fun e => hy (.inr e), if_neg fun e => hy (.inl e)]; exact hn
    rw [h2]
    simp only
    split at h
    ·rename_i h3; cases h; rw [if_pos h3]
    ·cases h
  ·cases h
 | .un o a, n, v, k, t, l, m, hl, hv, hn, h => by
  simp only [Ex.chk] at h
  split at h
  ·cases h
  ·rename_i s h1
   simp only [Ex.put, Ex.chk, Ex.put_chk hl hv hn h1]
   split at h
   ·rename_i w h3; cases h; simp only [h3]
   ·cases h
theorem M7 (l : List As) (y : As) : ∀ (a : List As), Bv (l ++ a) y = match Bv a y with | some i => some (l.length + i) | none => Bv l y := by
 intro a
 induction a generalizing l with
 | nil => rw [List.append_nil]; rfl
 | cons x a ih =>
  have h1 := ih (l ++ [x])
  have h2 := ih [x]
  rw [List.append_assoc] at h1
  simp only [List.cons_append, List.nil_append] at h1 h2
  rw [h1, h2, K3]
  have h3 := K3 [] x y
  simp only [List.nil_append, List.length_nil] at h3
  rw [h3]
  cases Bv a y with
  | some i => simp only [List.length_append, List.length_cons, List.length_nil]; congr 1; omega
  | none =>
   simp only
   by_cases e : x = y
   ·rw [if_pos e, if_pos e]; simp
   ·rw [if_neg e, if_neg e]; rfl
theorem Oz {l : List As} {y : As} {i : Nat} (h : Bv l y = some i) : i < l.length ∧ l.getD i [] = y := It h
theorem Gq {l : List As} {y : As} : Bv l y = none ↔ y ∉ l := by
 induction l with
 | nil => simp [Bv, F4]
 | cons x l ih =>
  have h := M7 [x] y l
  simp only [List.cons_append, List.nil_append] at h
  rw [h]
  have h3 := K3 [] x y
  simp only [List.nil_append, List.length_nil] at h3
  rw [h3]
  cases hl : Bv l y with
  | some i =>
   have := Je hl
   simp [this]
  | none =>
   rw [hl] at ih
   have h4 : y ∉ l := ih.1 rfl
   by_cases e : x = y
   ·simp [e]
   ·rw [if_neg e]
    simp only [List.mem_cons, not_or]
    exact ⟨fun _ => ⟨fun e' => e e'.symm, h4⟩, fun _ => rfl⟩
theorem T5 {l : List As} (h : l.Nodup) {i : Nat} (hi : i < l.length) : Bv l (l.getD i []) = some i := by
 cases hx : Bv l (l.getD i []) with
 | none =>
  rw [Gq] at hx
  exact absurd (by rw [show l.getD i [] = l[i] by simp [hi]]; exact List.getElem_mem hi) hx
 | some j =>
  obtain ⟨h1, h2⟩ := Oz hx; rw [show l.getD j [] = l[j] by simp [h1], show l.getD i [] = l[i] by simp [hi]] at h2; rw [(List.getElem_inj h).1 h2]
def bnd (i : Nat) : As := 0 :: List.replicate i 0
theorem Vg {i j : Nat} (h : bnd i = bnd j) : i = j := by
 have := congrArg List.length h
 simpa [bnd] using this
theorem Wt (i : Nat) : B0 (bnd i) = false := by simp [bnd, B0, Po]
theorem P8 {s : As} (h : B0 s = true) (i : Nat) : bnd i ≠ s := fun e => by rw [← e, Wt] at h; cases h
def Ex.db : Ex → List As → Ex
 | .num s, _ => .num s
 | .name s, a => .name (match Bv a s with | some i => bnd i | none => s)
 | .bin o a b, l => .bin o (a.db l) (b.db l)
 | .ite a b c, l => .ite (a.db l) (b.db l) (c.db l)
 | .lt x a b, l => .lt [] (a.db l) (b.db (l ++ [x]))
 | .fn g x s t b, l => .fn [] [] s t (b.db (l ++ [g, x]))
 | .un o a, l => .un o (a.db l)
def Ex.alk : Ex → Ex → List As → List As → Bool
 | .num s, .num t, _, _ => decide (s = t)
 | .name s, .name t, a, b => decide (Bv a s = Bv b t) && ((Bv a s).isSome || decide (s = t))
 | .bin o p q, .bin o' p' q', a, b => decide (o.txt = o'.txt) && p.alk p' a b && q.alk q' a b
 | .ite p q r, .ite p' q' r', a, b => p.alk p' a b && q.alk q' a b && r.alk r' a b
 | .lt x p q, .lt x' p' q', a, b => p.alk p' a b && q.alk q' (a ++ [x]) (b ++ [x'])
 | .fn g x s t q, .fn g' x' s' t' q', a, b => decide (s = s') && decide (t = t') && q.alk q' (a ++ [g, x]) (b ++ [g', x'])
 | .un o p, .un o' p', a, b => decide (o.txt = o'.txt) && p.alk p' a b
 | _, _, _, _ => false
theorem B5.txt_iff {o o' : B5} : o.txt = o'.txt ↔ o = o' := ⟨B5.txt_inj, fun e => by rw [e]⟩
theorem U2.txt_iff {o o' : U2} : o.txt = o'.txt ↔ o = o' := ⟨U2.txt_inj, fun e => by rw [e]⟩
theorem Ex.alk_db : ∀ {e e' : Ex} {a b : List As}, e.ok = true → e'.ok = true → (e.alk e' a b = true ↔ e.db a = e'.db b) := by
 intro e
 induction e with
 | num s => intro e' a b h h'; cases e' <;> simp [Ex.alk, Ex.db]
 | name s =>
  intro e' a b h h'
  cases e' <;> simp only [Ex.alk, Ex.db, reduceCtorEq, Bool.false_eq_true]
  rename_i t
  simp only [Ex.ok] at h h'
  simp only [Bool.and_eq_true, Bool.or_eq_true, decide_eq_true_eq, Ex.name.injEq]
  cases hs : Bv a s with
  | none => cases ht : Bv b t with
   | none => simp
   | some j => simp only [reduceCtorEq, false_and, false_iff]; exact fun e => P8 h j e.symm
  | some i => cases ht : Bv b t with
   | none => simp only [reduceCtorEq, false_and, false_iff]; exact fun e => P8 h' i e
   | some j => simp only [Option.some.injEq, Option.isSome_some, true_or, and_true]; exact ⟨fun e => by rw [e], Vg⟩
 | bin o p q ih1 ih2 =>
  intro e' a b h h'
  cases e' <;> simp only [Ex.alk, Ex.db, reduceCtorEq, Bool.false_eq_true]
  simp only [Ex.ok, Bool.and_eq_true] at h h'
  simp only [Bool.and_eq_true, decide_eq_true_eq, Ex.bin.injEq, B5.txt_iff, ih1 h.1 h'.1, ih2 h.2 h'.2, and_assoc]
 | ite p q r ih1 ih2 ih3 =>
  intro e' a b h h'
  cases e' <;> simp only [Ex.alk, Ex.db, reduceCtorEq, Bool.false_eq_true]
  simp only [Ex.ok, Bool.and_eq_true] at h h'
  simp only [Bool.and_eq_true, Ex.ite.injEq, ih1 h.1.1 h'.1.1, ih2 h.1.2 h'.1.2, ih3 h.2 h'.2, and_assoc]
 | lt x p q ih1 ih2 =>
  intro e' a b h h'
  cases e' <;> simp only [Ex.alk, Ex.db, reduceCtorEq, Bool.false_eq_true]
  simp only [Ex.ok, Bool.and_eq_true] at h h'
  simp only [Bool.and_eq_true, Ex.lt.injEq, ih1 h.1.2 h'.1.2, ih2 h.2 h'.2, true_and]
 | fn g x s t q ih =>
  intro e' a b h h'
  cases e' <;> simp only [Ex.alk, Ex.db, reduceCtorEq, Bool.false_eq_true]
  simp only [Ex.ok, Bool.and_eq_true] at h h'
  simp only [Bool.and_eq_true, decide_eq_true_eq, Ex.fn.injEq, ih h.2 h'.2, true_and, and_assoc]
 | un o p ih =>
  intro e' a b h h'
  cases e' <;> simp only [Ex.alk, Ex.db, reduceCtorEq, Bool.false_eq_true]
  simp only [Ex.ok] at h h'
  simp only [Bool.and_eq_true, decide_eq_true_eq, Ex.un.injEq, U2.txt_iff, ih h h']
def freshT (av t : List As) (n : Nat) : Prop := t.Nodup ∧ ∀ x ∈ t, x ∉ av ∧ ∃ k, k < n ∧ x = nm 120 k
theorem freshT.up {av t : List As} {n m : Nat} (h : freshT av t n) (hm : n ≤ m) : freshT av t m := ⟨h.1, fun x hx => by obtain ⟨h1, k, h2, h3⟩ := h.2 x hx; exact ⟨h1, k, by omega, h3⟩⟩
theorem freshT.add {av t : List As} {n k : Nat} (h : freshT av t n) (hk : n ≤ k) (ha : nm 120 k ∉ av) : freshT av (t ++ [nm 120 k]) (k + 1) := by
 refine ⟨?_, fun x hx => ?_⟩
 ·rw [List.nodup_append]; refine ⟨h.1, by simp, ?_⟩; intro x hx y hy e
  simp only [List.mem_singleton] at hy
  subst hy; subst e; obtain ⟨_, j, hj, e⟩ := h.2 _ hx
  have := S4 e
  omega
 ·rcases List.mem_append.1 hx with hx | hx
  ·obtain ⟨h1, j, h2, h3⟩ := h.2 x hx; exact ⟨h1, j, by omega, h3⟩
  ·simp only [List.mem_singleton] at hx; subst hx; exact ⟨ha, k, by omega, rfl⟩
theorem Ex.db_pl {av : List As} : ∀ {e : Ex} {f t : List As} {n : Nat}, f.length = t.length → freshT av t n → (∀ x ∈ e.occ f, x ∈ av) → (e.pl av f t n).1.db t = e.db f := by
 intro e
 induction e with
 | num s => intro f t n _ _ _; rfl
 | name s =>
  intro f t n hft hfr ho
  simp only [Ex.pl, Ex.db]
  cases hs : Bv f s with
  | none =>
   have h1 : s ∉ f := Gq.1 hs
   have h2 := ho s (by simp [Ex.occ, h1])
   have h3 : Bv t s = none := Gq.2 fun hm => (hfr.2 s hm).1 h2
   simp only [h3]
  | some i =>
   have h1 := (Oz hs).1
   simp only [T5 hfr.1 (show i < t.length by omega)]
 | bin o p q ih1 ih2 =>
  intro f t n hft hfr ho
  simp only [Ex.occ, List.mem_append] at ho
  simp only [Ex.pl, Ex.db, ih1 hft hfr fun x hx => ho x (.inl hx), ih2 hft (hfr.up (p.pl_hits av f t n).1) fun x hx => ho x (.inr hx)]
 | ite p q r ih1 ih2 ih3 =>
  intro f t n hft hfr ho
  simp only [Ex.occ, List.mem_append] at ho
  have h1 := (p.pl_hits av f t n).1
  have h2 := (q.pl_hits av f t (p.pl av f t n).2).1
  simp only [Ex.pl, Ex.db, ih1 hft hfr fun x hx => ho x (.inl (.inl hx)), ih2 hft (hfr.up h1) fun x hx => ho x (.inl (.inr hx)), ih3 hft (hfr.up (Nat.le_trans h1 h2)) fun x hx => ho x (.inr hx)]
 | lt x p q ih1 ih2 =>
  intro f t n hft hfr ho
  simp only [Ex.occ, List.mem_append] at ho
  obtain ⟨f1, f2, f3⟩ := D2 120 av n
  have h1 := (p.pl_hits av f t (fr 120 av n + 1)).1
  simp only [Ex.pl, Ex.db, ih1 hft (hfr.up (show n ≤ fr 120 av n + 1 by omega)) fun x hx => ho x (.inl hx),
   ih2 (f := f ++ [x]) (t := t ++ [nm 120 (fr 120 av n)]) (by simp [hft]) ((hfr.add f2 f1).up h1) fun x hx => ho x (.inr hx)]
 | fn g x s u q ih =>
  intro f t n hft hfr ho
  simp only [Ex.occ] at ho
  obtain ⟨f1, f2, f3⟩ := D2 120 av n; obtain ⟨g1, g2, g3⟩ := D2 120 av (fr 120 av n + 1)
  have hh := ((hfr.add f2 f1).add g2 g1)
  rw [List.append_assoc] at hh
  simp only [List.cons_append, List.nil_append] at hh
  simp only [Ex.pl, Ex.db, ih (f := f ++ [g, x]) (t := t ++ [nm 120 (fr 120 av n), nm 120 (fr 120 av (fr 120 av n + 1))]) D9 hh ho]
 | un o p ih =>
  intro f t n hft hfr ho
  simp only [Ex.occ] at ho
  simp only [Ex.pl, Ex.db, ih hft hfr ho]
theorem Adm (e : Ex) : e.plain.db [] = e.db [] := Ex.db_pl rfl ⟨by simp, by simp⟩ fun x hx => Ex.free_mem.2 hx
def Ex.fv : Ex → List As
 | .num _ => []
 | .name s => if B0 s = true then [s] else []
 | .bin _ a b => a.fv ++ b.fv
 | .ite a b c => a.fv ++ b.fv ++ c.fv
 | .lt _ a b => a.fv ++ b.fv
 | .fn _ _ _ _ b => b.fv
 | .un _ a => a.fv
theorem Ex.occ_db : ∀ {e : Ex} {a : List As}, e.ok = true → e.occ a = (e.db a).fv := by
 intro e
 induction e with
 | num s => intro a _; rfl
 | name s =>
  intro a h
  simp only [Ex.ok] at h
  simp only [Ex.occ, Ex.db, Ex.fv]
  cases hs : Bv a s with
  | none => simp only [if_pos h]; rw [if_neg (Gq.1 hs)]
  | some i => simp only [Wt, Bool.false_eq_true, if_false]; rw [if_pos (Je hs)]
 | bin o p q ih1 ih2 => intro a h; simp only [Ex.ok, Bool.and_eq_true] at h; simp only [Ex.occ, Ex.db, Ex.fv, ih1 h.1, ih2 h.2]
 | ite p q r ih1 ih2 ih3 => intro a h; simp only [Ex.ok, Bool.and_eq_true] at h; simp only [Ex.occ, Ex.db, Ex.fv, ih1 h.1.1, ih2 h.1.2, ih3 h.2]
 | lt x p q ih1 ih2 => intro a h; simp only [Ex.ok, Bool.and_eq_true] at h; simp only [Ex.occ, Ex.db, Ex.fv, ih1 h.1.2, ih2 h.2]
 | fn g x s u q ih => intro a h; simp only [Ex.ok, Bool.and_eq_true] at h; simp only [Ex.occ, Ex.db, Ex.fv, ih h.2]
 | un o p ih => intro a h; simp only [Ex.ok] at h; simp only [Ex.occ, Ex.db, Ex.fv, ih h]
def Ex.as (e e' : Ex) : Prop := e.db [] = e'.db []
theorem Ex.as.free {e e' : Ex} (h : e.as e') (ho : e.ok = true) (ho' : e'.ok = true) : e.free = e'.free ∧ e.occ [] = e'.occ [] := by
 have h1 : e.occ [] = e'.occ [] := by rw [Ex.occ_db ho, Ex.occ_db ho', show e.db [] = e'.db [] from h]
 exact ⟨by unfold Ex.free; rw [h1], h1⟩
theorem Ex.plain_as (e : Ex) : e.plain.as e := Adm e
theorem Ex.db_size : ∀ (e : Ex) (a : List As), (e.db a).size = e.size ∧ (e.db a).tree.depth = e.tree.depth := by
 intro e
 induction e with
 | num s => intro a; exact ⟨rfl, rfl⟩
 | name s => intro a; exact ⟨rfl, rfl⟩
 | bin o p q ih1 ih2 => intro a; obtain ⟨h1, h2⟩ := ih1 a; obtain ⟨h3, h4⟩ := ih2 a; simp only [Ex.db, Ex.size, Ex.tree, Tree.depth, Eg, List.isEmpty_cons, cond_false, h1, h2, h3, h4, and_self]
 | ite p q r ih1 ih2 ih3 => intro a; obtain ⟨h1, h2⟩ := ih1 a; obtain ⟨h3, h4⟩ := ih2 a; obtain ⟨h5, h6⟩ := ih3 a; simp only [Ex.db, Ex.size, Ex.tree, Tree.depth, Eg, List.isEmpty_cons, cond_false, h1, h2, h3, h4, h5, h6, and_self]
 | lt x p q ih1 ih2 => intro a; obtain ⟨h1, h2⟩ := ih1 a; obtain ⟨h3, h4⟩ := ih2 (a ++ [x]); simp only [Ex.db, Ex.size, Ex.tree, Tree.depth, Eg, List.isEmpty_cons, List.isEmpty_nil, cond_true, cond_false, h1, h2, h3, h4, and_self]
 | fn g x s u q ih => intro a; obtain ⟨h1, h2⟩ := ih (a ++ [g, x]); simp only [Ex.db, Ex.size, Ex.tree, Tree.depth, Eg, List.isEmpty_cons, List.isEmpty_nil, cond_true, cond_false, h1, h2, and_self]
 | un o p ih => intro a; obtain ⟨h1, h2⟩ := ih a; simp only [Ex.db, Ex.size, Ex.tree, Tree.depth, Eg, List.isEmpty_cons, cond_false, h1, h2, and_self]
theorem Ex.as.size {e e' : Ex} (h : e.as e') : e.size = e'.size ∧ e.tree.depth = e'.tree.depth := by
 have h1 := e.db_size []
 have h2 := e'.db_size []
 rw [show e.db [] = e'.db [] from h] at h1
 exact ⟨h1.1.symm.trans h2.1, h1.2.symm.trans h2.2⟩
theorem Ex.db_in : ∀ {v : Ex} {a b c : List As}, a.length = b.length → v.occ c = [] → v.db (a ++ c) = v.db (b ++ c) := by
 intro v
 induction v with
 | num s => intro a b c _ _; rfl
 | name s =>
  intro a b c hl h
  simp only [Ex.occ] at h
  have hc : s ∈ c := by
   by_cases hm : s ∈ c
   ·exact hm
   ·rw [if_neg hm] at h; cases h
  simp only [Ex.db, M7]
  cases hs : Bv c s with
  | none => exact absurd hc (Gq.1 hs)
  | some i => simp only [hl]
 | bin o p q ih1 ih2 => intro a b c hl h; simp only [Ex.occ, List.append_eq_nil_iff] at h; simp only [Ex.db, ih1 hl h.1, ih2 hl h.2]
 | ite p q r ih1 ih2 ih3 => intro a b c hl h; simp only [Ex.occ, List.append_eq_nil_iff] at h; simp only [Ex.db, ih1 hl h.1.1, ih2 hl h.1.2, ih3 hl h.2]
 | lt x p q ih1 ih2 => intro a b c hl h; simp only [Ex.occ, List.append_eq_nil_iff] at h; simp only [Ex.db, List.append_assoc, ih1 hl h.1, ih2 hl h.2]
 | fn g x s u q ih => intro a b c hl h; simp only [Ex.occ] at h; simp only [Ex.db, List.append_assoc, ih hl h]
 | un o p ih => intro a b c hl h; simp only [Ex.occ] at h; simp only [Ex.db, ih hl h]
theorem Ex.db_cl {v : Ex} (h : v.occ [] = []) {a b : List As} (hl : a.length = b.length) : v.db a = v.db b := by
 have := Ex.db_in (v := v) (c := []) hl h
 simpa using this
def Ex.putIf (e : Ex) (n : As) (v : Ex) (a : List As) : Ex := if n ∈ a then e else e.put n v
theorem Xz {e : Ex} {n : As} {v : Ex} {a : List As} (h : n ∈ a) : e.putIf n v a = e := if_pos h
theorem Ly {e : Ex} {n : As} {v : Ex} {a : List As} (h : n ∉ a) : e.putIf n v a = e.put n v := if_neg h
theorem Abd (o : B5) (p q : Ex) (n : As) (v : Ex) (a : List As) : (Ex.bin o p q).putIf n v a = .bin o (p.putIf n v a) (q.putIf n v a) := by unfold Ex.putIf; split <;> rfl
theorem Abe (p q r : Ex) (n : As) (v : Ex) (a : List As) : (Ex.ite p q r).putIf n v a = .ite (p.putIf n v a) (q.putIf n v a) (r.putIf n v a) := by unfold Ex.putIf; split <;> rfl
theorem Adt (o : U2) (p : Ex) (n : As) (v : Ex) (a : List As) : (Ex.un o p).putIf n v a = .un o (p.putIf n v a) := by unfold Ex.putIf; split <;> rfl
theorem Ads (x : As) (p q : Ex) (n : As) (v : Ex) (a : List As) : (Ex.lt x p q).putIf n v a = .lt x (p.putIf n v a) (q.putIf n v (a ++ [x])) := by
 unfold Ex.putIf
 simp only [List.mem_append, List.mem_singleton, Ex.put]
 by_cases h : n ∈ a
 ·simp [h]
 ·by_cases h2 : x = n
  ·subst h2; simp [h]
  ·have h3 : ¬ n = x := fun e => h2 e.symm
   simp [h, h2, h3]
theorem Adr (g x : As) (s u : Ty) (q : Ex) (n : As) (v : Ex) (a : List As) : (Ex.fn g x s u q).putIf n v a = .fn g x s u (q.putIf n v (a ++ [g, x])) := by
 unfold Ex.putIf
 simp only [List.mem_append, List.mem_cons, List.not_mem_nil, or_false, Ex.put]
 by_cases h : n ∈ a
 ·simp [h]
 ·by_cases h2 : g = n ∨ x = n
  ·have : n = g ∨ n = x := h2.imp Eq.symm Eq.symm
   simp [h, h2, this]
  ·have : ¬ (n = g ∨ n = x) := fun e => h2 (e.imp Eq.symm Eq.symm)
   simp [h, h2, this]
theorem Ex.put_db {n : As} {v : Ex} (hv : v.occ [] = []) : ∀ {e e' : Ex} {a b : List As}, a.length = b.length → e.ok = true → e'.ok = true → e.db a = e'.db b → (e.putIf n v a).db a = (e'.putIf n v b).db b := by
 intro e
 induction e with
 | num s => intro e' a b hl h h' hd; cases e' <;> simp only [Ex.db, reduceCtorEq] at hd; cases hd; unfold Ex.putIf; split <;> split <;> rfl
 | name s =>
  intro e' a b hl h h' hd
  cases e' <;> simp only [Ex.db, reduceCtorEq] at hd
  rename_i s'
  simp only [Ex.ok] at h h'
  simp only [Ex.name.injEq] at hd
  cases hs : Bv a s with
  | none => cases ht : Bv b s' with
   | none =>
    rw [hs, ht] at hd; simp only at hd; subst hd
    have h1 := Gq.1 hs
    have h2 := Gq.1 ht
    by_cases e : s = n
    ·subst e; rw [Ly h1, Ly h2]
     simp only [Ex.put, if_true]
     exact Ex.db_cl hv hl
    ·have h3 : ∀ c, (Ex.name s).putIf n v c = .name s := fun c => by unfold Ex.putIf; split <;> simp [Ex.put, e]
     rw [h3, h3]; simp only [Ex.db, hs, ht]
   | some j => rw [hs, ht] at hd; exact absurd hd.symm (P8 h j)
  | some i => cases ht : Bv b s' with
   | none => rw [hs, ht] at hd; exact absurd hd (P8 h' i)
   | some j =>
    rw [hs, ht] at hd
    have h3 : ∀ {c : List As} {z : As}, z ∈ c → (Ex.name z).putIf n v c = .name z := fun {c z} hz => by
     by_cases e : z = n
     ·subst e; exact Xz hz
     ·unfold Ex.putIf; split <;> simp [Ex.put, e]
    rw [h3 (Je hs), h3 (Je ht)]
    simp only [Ex.db, hs, ht, Vg hd]
 | bin o p q ih1 ih2 =>
  intro e' a b hl h h' hd
  cases e' <;> simp only [Ex.db, reduceCtorEq] at hd
  simp only [Ex.ok, Bool.and_eq_true] at h h'
  simp only [Ex.bin.injEq] at hd
  simp only [Abd, Ex.db, ih1 hl h.1 h'.1 hd.2.1, ih2 hl h.2 h'.2 hd.2.2, hd.1]
 | ite p q r ih1 ih2 ih3 =>
  intro e' a b hl h h' hd
  cases e' <;> simp only [Ex.db, reduceCtorEq] at hd
  simp only [Ex.ok, Bool.and_eq_true] at h h'
  simp only [Ex.ite.injEq] at hd
  simp only [Abe, Ex.db, ih1 hl h.1.1 h'.1.1 hd.1, ih2 hl h.1.2 h'.1.2 hd.2.1, ih3 hl h.2 h'.2 hd.2.2]
 | lt x p q ih1 ih2 =>
  intro e' a b hl h h' hd
  cases e' <;> simp only [Ex.db, reduceCtorEq] at hd
  rename_i x' p' q'
  simp only [Ex.ok, Bool.and_eq_true] at h h'
  simp only [Ex.lt.injEq] at hd
  simp only [Ads, Ex.db, ih1 hl h.1.2 h'.1.2 hd.2.1, ih2 (a := a ++ [x]) (b := b ++ [x']) (by simp [hl]) h.2 h'.2 hd.2.2]
 | fn g x s u q ih =>
  intro e' a b hl h h' hd
  cases e' <;> simp only [Ex.db, reduceCtorEq] at hd
  rename_i g' x' s' u' q'
  simp only [Ex.ok, Bool.and_eq_true] at h h'
  simp only [Ex.fn.injEq] at hd
  simp only [Adr, Ex.db, ih (a := a ++ [g, x]) (b := b ++ [g', x']) (by simp [hl]) h.2 h'.2 hd.2.2.2.2, hd.2.2.1, hd.2.2.2.1]
 | un o p ih =>
  intro e' a b hl h h' hd
  cases e' <;> simp only [Ex.db, reduceCtorEq] at hd
  simp only [Ex.ok] at h h'
  simp only [Ex.un.injEq] at hd
  simp only [Adt, Ex.db, ih hl h h' hd.2, hd.1]
theorem Ex.as.put {e e' : Ex} (h : e.as e') (ho : e.ok = true) (ho' : e'.ok = true) {n : As} {v : Ex} (hv : v.occ [] = []) : (e.put n v).as (e'.put n v) := by
 have := Ex.put_db (n := n) hv (a := []) (b := []) rfl ho ho' h
 rwa [Ly Af, Ly Af] at this
/- Types of alike expressions. -/
theorem ty_bin (o : B5) (a b : Ex) (l : List As) (m : List Ty) : (Ex.bin o a b).ty l m = (a.ty l m).bind fun s => (b.ty l m).bind fun t => o.ty s t := by
 unfold Ex.ty; simp only [Ex.chk]
 cases a.chk l m with
 | error x => rfl
 | ok s => cases b.chk l m with
  | error x => rfl
  | ok t => simp only [Option.bind_some]; cases o.ty s t <;> rfl
theorem ty_ite (a b c : Ex) (l : List As) (m : List Ty) : (Ex.ite a b c).ty l m = (a.ty l m).bind fun s => (b.ty l m).bind fun t => (c.ty l m).bind fun u => if s = .i ∧ t = u then some t else none := by
 unfold Ex.ty; simp only [Ex.chk]
 cases a.chk l m with
 | error x => rfl
 | ok s => cases b.chk l m with
  | error x => rfl
  | ok t => cases c.chk l m with
   | error x => rfl
   | ok u =>
    simp only [Option.bind_some]
    by_cases h : s = .i ∧ t = u
    ·rw [if_pos h, if_pos h]
    ·rw [if_neg h, if_neg h]
theorem ty_lt (x : As) (a b : Ex) (l : List As) (m : List Ty) : (Ex.lt x a b).ty l m = (a.ty l m).bind fun s => b.ty (l ++ [x]) (m ++ [s]) := by
 unfold Ex.ty; simp only [Ex.chk]
 cases a.chk l m <;> rfl
theorem ty_fn (f x : As) (s t : Ty) (b : Ex) (l : List As) (m : List Ty) : (Ex.fn f x s t b).ty l m = if (Ty.fn s t).size ≤ 16 then (b.ty (l ++ [f, x]) (m ++ [.fn s t, s])).bind fun u => if u = t then some (.fn s t) else none else none := by
 unfold Ex.ty; simp only [Ex.chk]
 by_cases h : (Ty.fn s t).size ≤ 16
 ·rw [if_pos h, if_pos h]
  cases b.chk (l ++ [f, x]) (m ++ [.fn s t, s]) with
  | error x => rfl
  | ok u =>
   simp only [Option.bind_some]
   by_cases h : u = t
   ·rw [if_pos h, if_pos h]
   ·rw [if_neg h, if_neg h]
 ·rw [if_neg h, if_neg h]
theorem ty_un (o : U2) (a : Ex) (l : List As) (m : List Ty) : (Ex.un o a).ty l m = (a.ty l m).bind fun s => o.ty s := by
 unfold Ex.ty; simp only [Ex.chk]
 cases a.chk l m with
 | error x => rfl
 | ok s => simp only [Option.bind_some]; cases o.ty s <;> rfl
theorem ty_name (s : As) (l : List As) (m : List Ty) : (Ex.name s).ty l m = Fl l m s := by
 unfold Ex.ty; simp only [Ex.chk]
 cases Fl l m s <;> rfl
theorem Tq {l a : List As} {m k : List Ty} (h : l.length = m.length) (s : As) : Fl (l ++ a) (m ++ k) s = match Bv a s with | some i => k[i]? | none => Fl l m s := by
 unfold Fl
 rw [M7]
 cases hs : Bv a s with
 | some i => simp only [Option.bind_some, h]; rw [List.getElem?_append_right Aa]; congr 1; omega
 | none =>
  simp only
  cases hi : Bv l s with
  | none => rfl
  | some i =>
   have := (Oz hi).1
   simp only [Option.bind_some]; rw [List.getElem?_append_left Aa]
theorem Ex.ty_db {l : List As} {m : List Ty} (hlm : l.length = m.length) : ∀ {e e' : Ex} {a b : List As} {k : List Ty}, a.length = k.length → b.length = k.length → e.ok = true → e'.ok = true → e.db a = e'.db b → e.ty (l ++ a) (m ++ k) = e'.ty (l ++ b) (m ++ k) := by
 intro e
 induction e with
 | num s => intro e' a b k h1 h2 h h' hd; cases e' <;> simp only [Ex.db, reduceCtorEq] at hd; rfl
 | name s =>
  intro e' a b k h1 h2 h h' hd
  cases e' <;> simp only [Ex.db, reduceCtorEq] at hd
  rename_i s'
  simp only [Ex.ok] at h h'
  simp only [Ex.name.injEq] at hd
  rw [ty_name, ty_name, Tq hlm, Tq hlm]
  cases hs : Bv a s with
  | none => cases ht : Bv b s' with
   | none => rw [hs, ht] at hd; simp only at hd; subst hd; rfl
   | some j => rw [hs, ht] at hd; exact absurd hd.symm (P8 h j)
  | some i => cases ht : Bv b s' with
   | none => rw [hs, ht] at hd; exact absurd hd (P8 h' i)
   | some j => rw [hs, ht] at hd; rw [Vg hd]
 | bin o p q ih1 ih2 =>
  intro e' a b k h1 h2 h h' hd
  cases e' <;> simp only [Ex.db, reduceCtorEq] at hd
  simp only [Ex.ok, Bool.and_eq_true] at h h'
  simp only [Ex.bin.injEq] at hd
  rw [ty_bin, ty_bin, ih1 h1 h2 h.1 h'.1 hd.2.1, ih2 h1 h2 h.2 h'.2 hd.2.2, hd.1]
 | ite p q r ih1 ih2 ih3 =>
  intro e' a b k h1 h2 h h' hd
  cases e' <;> simp only [Ex.db, reduceCtorEq] at hd
  simp only [Ex.ok, Bool.and_eq_true] at h h'
  simp only [Ex.ite.injEq] at hd
  rw [ty_ite, ty_ite, ih1 h1 h2 h.1.1 h'.1.1 hd.1, ih2 h1 h2 h.1.2 h'.1.2 hd.2.1, ih3 h1 h2 h.2 h'.2 hd.2.2]
 | lt x p q ih1 ih2 =>
  intro e' a b k h1 h2 h h' hd
  cases e' <;> simp only [Ex.db, reduceCtorEq] at hd
  rename_i x' p' q'
  simp only [Ex.ok, Bool.and_eq_true] at h h'
  simp only [Ex.lt.injEq] at hd
  rw [ty_lt, ty_lt, ih1 h1 h2 h.1.2 h'.1.2 hd.2.1]
  congr 1; funext s
  have := ih2 (a := a ++ [x]) (b := b ++ [x']) (k := k ++ [s]) (by simp [h1]) (by simp [h2]) h.2 h'.2 hd.2.2
  simpa only [List.append_assoc] using this
 | fn g x s u q ih =>
  intro e' a b k h1 h2 h h' hd
  cases e' <;> simp only [Ex.db, reduceCtorEq] at hd
  rename_i g' x' s' u' q'
  simp only [Ex.ok, Bool.and_eq_true] at h h'
  simp only [Ex.fn.injEq] at hd
  obtain ⟨-, -, rfl, rfl, hd⟩ := hd
  have := ih (a := a ++ [g, x]) (b := b ++ [g', x']) (k := k ++ [.fn s u, s]) (by simp [h1]) (by simp [h2]) h.2 h'.2 hd
  simp only [← List.append_assoc] at this
  rw [ty_fn, ty_fn, this]
 | un o p ih =>
  intro e' a b k h1 h2 h h' hd
  cases e' <;> simp only [Ex.db, reduceCtorEq] at hd
  simp only [Ex.ok] at h h'
  simp only [Ex.un.injEq] at hd
  rw [ty_un, ty_un, ih h1 h2 h h' hd.2, hd.1]
theorem Ex.as.ty {e e' : Ex} (h : e.as e') (ho : e.ok = true) (ho' : e'.ok = true) {l : List As} {m : List Ty} (hlm : l.length = m.length) : e.ty l m = e'.ty l m := by
 have := Ex.ty_db hlm (a := []) (b := []) (k := []) rfl rfl ho ho' h
 simpa using this
theorem Ex.as.hd {e e' : Ex} (h : e.as e') : e.hd = e'.hd := by
 have h : e.db [] = e'.db [] := h
 cases e <;> cases e' <;> simp only [Ex.db, reduceCtorEq] at h <;> first
  | rfl
  | (simp only [Ex.bin.injEq] at h; simp only [Ex.hd, h.1]; rfl)
  | (simp only [Ex.un.injEq] at h; simp only [Ex.hd, h.1]; rfl)
theorem Ex.as.symm {e e' : Ex} (h : e.as e') : e'.as e := Eq.symm h
theorem Ex.as.trans {e e' e'' : Ex} (h : e.as e') (h' : e'.as e'') : e.as e'' := Eq.trans h h'
def nul : Ex := .num [48]
theorem Ex.put0_occ : ∀ {e : Ex} {n x : As}, x ∈ (e.put n nul).occ [] ↔ x ∈ e.occ [] ∧ x ≠ n
 | .num s, n, x => by simp [Ex.put, Ex.occ]
 | .name s, n, x => by
  simp only [Ex.put]
  by_cases h : s = n
  ·subst h; simp [Ex.occ, nul]
  ·rw [if_neg h]
   simp only [Ex.occ, List.not_mem_nil, if_false, List.mem_singleton]
   constructor
   ·rintro rfl; exact ⟨rfl, h⟩
   ·exact fun hh => hh.1
 | .bin o a b, n, x => by
  simp only [Ex.put, Ex.occ, List.mem_append, Ex.put0_occ (e := a), Ex.put0_occ (e := b)]
  constructor
  ·rintro (⟨h1, h2⟩ | ⟨h1, h2⟩)
   ·exact ⟨.inl h1, h2⟩
   ·exact ⟨.inr h1, h2⟩
  ·rintro ⟨h1 | h1, h2⟩
   ·exact .inl ⟨h1, h2⟩
   ·exact .inr ⟨h1, h2⟩
 | .ite a b c, n, x => by
  simp only [Ex.put, Ex.occ, List.mem_append, Ex.put0_occ (e := a), Ex.put0_occ (e := b), Ex.put0_occ (e := c)]
  constructor
  ·rintro ((⟨h1, h2⟩ | ⟨h1, h2⟩) | ⟨h1, h2⟩)
   ·exact ⟨.inl (.inl h1), h2⟩
   ·exact ⟨.inl (.inr h1), h2⟩
   ·exact ⟨.inr h1, h2⟩
  ·rintro ⟨(h1 | h1) | h1, h2⟩
   ·exact .inl (.inl ⟨h1, h2⟩)
   ·exact .inl (.inr ⟨h1, h2⟩)
   ·exact .inr ⟨h1, h2⟩
 | .lt y a b, n, x => by
  simp only [Ex.put, Ex.occ, List.mem_append, List.nil_append, Ex.put0_occ (e := a)]
  rw [Ex.occ_mem (bd := [y]), Ex.occ_mem (e := b) (bd := [y])]
  simp only [List.mem_singleton]
  by_cases h : y = n
  ·subst h; rw [if_pos rfl]
   constructor
   ·rintro (⟨h1, h2⟩ | ⟨h1, h2⟩)
    ·exact ⟨.inl h1, h2⟩
    ·exact ⟨.inr ⟨h1, h2⟩, h2⟩
   ·rintro ⟨h1 | h1, h2⟩
    ·exact .inl ⟨h1, h2⟩
    ·exact .inr h1
  ·rw [if_neg h, Ex.put0_occ (e := b)]
   constructor
   ·rintro (⟨h1, h2⟩ | ⟨⟨h1, h3⟩, h2⟩)
    ·exact ⟨.inl h1, h2⟩
    ·exact ⟨.inr ⟨h1, h2⟩, h3⟩
   ·rintro ⟨h1 | ⟨h1, h3⟩, h2⟩
    ·exact .inl ⟨h1, h2⟩
    ·exact .inr ⟨⟨h1, h2⟩, h3⟩
 | .fn f y s t b, n, x => by
  simp only [Ex.put, Ex.occ, List.nil_append]
  rw [Ex.occ_mem (bd := [f, y]), Ex.occ_mem (e := b) (bd := [f, y])]
  simp only [List.mem_cons, List.not_mem_nil, or_false, not_or]
  by_cases h : f = n ∨ y = n
  ·rw [if_pos h]
   constructor
   ·rintro ⟨h1, h2, h3⟩; refine ⟨⟨h1, h2, h3⟩, ?_⟩
    rcases h with rfl | rfl
    ·exact h2
    ·exact h3
   ·exact fun hh => hh.1
  ·rw [if_neg h, Ex.put0_occ (e := b)]
   constructor
   ·rintro ⟨⟨h1, h4⟩, h2⟩; exact ⟨⟨h1, h2⟩, h4⟩
   ·rintro ⟨⟨h1, h2⟩, h4⟩; exact ⟨⟨h1, h4⟩, h2⟩
 | .un o a, n, x => by
  simp only [Ex.put, Ex.occ, Ex.put0_occ (e := a)]
def Ex.puts (e : Ex) (l : List As) : Ex := l.foldl (fun e n => e.put n nul) e
def Agq (s n : As) : Int := match Eu s with
 | some e => if B0 n = true then (((e.occ []).count n : Nat) : Int) else -1
 | none => -1
theorem Aew {v : Ex} (h : v.occ [] = []) (bd : List As) : v.occ bd = [] := by rw [Ex.occ_filter, h]; rfl
theorem Ex.put_occ0 {n : As} {v : Ex} (hv : v.occ [] = []) : ∀ (e : Ex) (bd : List As), (e.put n v).occ bd = (e.put n nul).occ bd
 | .num s, bd => rfl
 | .name s, bd => by
  simp only [Ex.put]
  by_cases h : s = n
  ·rw [if_pos h, if_pos h, Aew hv]; rfl
  ·rw [if_neg h, if_neg h]
 | .bin o a b, bd => by simp only [Ex.put, Ex.occ, Ex.put_occ0 hv a, Ex.put_occ0 hv b]
 | .ite a b c, bd => by simp only [Ex.put, Ex.occ, Ex.put_occ0 hv a, Ex.put_occ0 hv b, Ex.put_occ0 hv c]
 | .lt x a b, bd => by simp only [Ex.put, Ex.occ, Ex.put_occ0 hv a]; split <;> simp only [Ex.put_occ0 hv b]
 | .fn f x s t b, bd => by simp only [Ex.put, Ex.occ]; split <;> simp only [Ex.put_occ0 hv b]
 | .un o a, bd => by simp only [Ex.put, Ex.occ, Ex.put_occ0 hv a]
theorem Ex.put_occ {n x : As} {v e : Ex} (hv : v.occ [] = []) : x ∈ (e.put n v).occ [] ↔ x ∈ e.occ [] ∧ x ≠ n := by rw [Ex.put_occ0 hv e, Ex.put0_occ]
def Ke (a b : As) : Bool := match Eu a, Eu b with
 | some e, some f => e.alk f [] []
 | _, _ => false
theorem Pf {a b : As} {e f : Ex} (h : Eu a = some e) (h' : Eu b = some f) : Ke a b = e.alk f [] [] := by unfold Ke; rw [h, h']
theorem Pe {a b : As} (h : Eu a = none ∨ Eu b = none) : Ke a b = false := by
 unfold Ke
 rcases h with h | h
 ·rw [h]
 ·rw [h]; cases Eu a <;> rfl
theorem Ym {a b : As} {e f : Ex} (h : Eu a = some e) (h' : Eu b = some f) : Ke a b = true ↔ e.as f := by
 rw [Pf h h']
 exact Ex.alk_db (H0 h).2.1 (H0 h').2.1
theorem Sd {s : As} {e : Ex} (h : Eu s = some e) : Eu e.plain.tree.text = some e.plain := Ui (Gt (H0 h).1)
end Go.Proofs.YtmfagaajiakgoaaGreatDoor

/- Bare parts and whole expressions made normal, by the reference. No conditions. -/
import Derived.Test.YtmfagaajiakgoaaGreatDoorG13
import Derived.Shelf.Strconv.Atoi
import Derived.Test.YtmfagaajiakgoaaGreatDoorProg

namespace Go.Proofs.YtmfagaajiakgoaaGreatDoor
set_option maxRecDepth 100000
set_option linter.unusedVariables false
set_option linter.unusedSimpArgs false

def Rb (N : Nat) : Prop := ∀ {I : Heap} {e : Ex} {cs : List Value} (_ : SizeOf.sizeOf e < N) (_ : Rep I e.tree cs) (_ : e.ok = true) {ot : Option Addr} {tk : List As} {ct : Nat} (_ : Strs I ot tk ct) (b n : Nat) (_ : n + e.size + tk.length ≤ 900 + E3 121 tk n) (x : MS) (_ : x.ok I) (_ : x.ns.length + e.size ≤ 100000) (_ : x.es.length = x.ns.length) (L : Bj),
 Fun Tryz.prog 171 [.pointer (some ⟨b, 0, none⟩), .agg cs.toArray] I (x.own b ot tk ct n L) (MP b ot tk ct x (e.mk tk n) L)
theorem Mem.sw {I : Heap} {m a b : Nat × Obj} {L : Bj} {w : World} (h : Mem I (m :: a :: b :: L) w) : Mem I (m :: b :: a :: L) w := h.perm (List.Perm.cons _ (List.Perm.swap ..))
theorem Mem.rev3 {I : Heap} {a b c : Nat × Obj} {L : Bj} {w : World} (h : Mem I (a :: b :: c :: L) w) : Mem I (c :: b :: a :: L) w := h.perm ((List.Perm.cons a (List.Perm.swap c b L)).trans ((List.Perm.swap c a (b :: L)).trans (List.Perm.cons c (List.Perm.swap b a L))))
theorem Ag9 {P : Program} {f : FuncId} {n : Nat} {I₀ : Heap} {Q : Cv} {k : List Item} {E : Hg} {I : Heap} {id : Nat} {ops : Array Oper} {a b c p q r : Nat × Obj} {B L : Bj} (N : Nat) (hN : ops.size = N) (hm : P.follows .mixedOrders = true)
  (h : C0 P f n I₀ Q ops (Mem I (p :: q :: r :: L)) N (Array.replicate N false) k E I (a :: b :: c :: p :: q :: r :: (B ++ L))) : RunS P f n I₀ Q (.code (.region id ops true) :: k) E I (a :: b :: c :: p :: q :: r :: (B ++ L)) := Kk I (p :: q :: r :: L) N hN hm h
theorem Mi {N : Nat} (ih : Rb N) {I : Heap} {e : Ex} {cs : List Value} (hlt : SizeOf.sizeOf e < N) (h : Rep I e.tree cs) (hok : e.ok = true) {ot : Option Addr} {tk : List As} {ct : Nat} (htk : Strs I ot tk ct) (b n : Nat) (hn : n + e.size + tk.length ≤ 900 + E3 121 tk n) (x : MS) (hx : x.ok I) (hxl : x.ns.length + e.size ≤ 100000) (hxe : x.es.length = x.ns.length) (L : Bj) :
  Fun Tryz.prog 201 [.pointer (some ⟨b, 0, none⟩), .agg cs.toArray] I (x.own b ot tk ct n L) (MP b ot tk ct x ((e.mk tk n).pt tk) L) := by
 obtain ⟨oa, c, oaf, cf, rfl, hf⟩ := h.at'
 have hmo := Ex.mk_ok (tk := tk) (n := n) hok hn
 have hmh := e.mk_hits tk n
 have hmg := e.mk_g tk n
 have hml := e.mk_len tk n
 have hh0 := Bp 121 tk n
 have hh1 := Bp 121 tk (e.mk tk n).n
 generalize hp : e.mk tk n = p at *
 refine Ao Ae ?_; refine Se rfl ?_; refine Cm rfl rfl .free rfl ?_; intro b3; refine A1 .free rfl ?_; intro b4; refine Ab (Se rfl (Om rfl ?_)); refine Az rfl .free rfl ?_; refine C4 (fun w h => Mem.mv (X := [_, _]) h) ?_; refine Ca rfl (ih hlt hf.rep hok htk b n hn x hx hxl hxe _) ?_; rw [hp]; rintro _ J1 _ e1 ⟨cs1, y, rfl, hr, hy, hyn, hye, rfl⟩; obtain ⟨o1, k1, _, rfl, -⟩ := hr.open
 have hyl : y.ns.length = x.ns.length + p.ns.length := by rw [hyn]; simp
 have hyl2 : y.es.length = y.ns.length := by rw [hye, hyn]; simp [hxe]
 obtain ⟨a1, k2, hu1⟩ := Hj hy.b1; obtain ⟨a2, k3, hu2⟩ := Hj hy.b2; refine C4 (fun w h => Mem.vm (X := [_, _]) h) ?_; rw [hu1, hu2]
 simp only [List.cons_append, List.nil_append]
 refine A1 .free rfl ?_; intro b5; refine By rfl rfl rfl rfl .free ?_; refine Ab (Ah (Se rfl (Oh rfl ?_))); refine Bv rfl .free rfl ?_; refine Od rfl rfl rfl (Ab ?_); refine A6 rfl ?_ ?_
 ·intro c0
  try simp only [nb] at c0
  have hb : p.e.bare = true := by
   cases hb : p.e.bare with
   | true => rfl
   | false => exact absurd ((Ex.atom_iff hmo.2).2 hb) c0
  refine Se rfl ?_; refine Az rfl .free rfl ?_; refine By rfl rfl rfl rfl .free ?_; refine Ab ?_; refine Am (.c rfl .nil) ?_; refine ⟨J1, _, e1, fun w h => Mem.sub (L' := y.own b ot tk ct p.n L) (by unfold MS.own; rw [hu1, hu2]; repeat (first | exact List.Sublist.refl _ | apply List.Sublist.cons_cons | apply List.Sublist.cons)) h, _, y, rfl, by unfold MK.pt; rw [if_pos hb]; exact hr, hy, by unfold MK.pt; rw [if_pos hb]; exact hyn, by unfold MK.pt; rw [if_pos hb]; exact hye, by unfold MK.pt; rw [if_pos hb]⟩
 intro c0
 try simp only [nb] at c0
 have hb : p.e.bare = false := (Ex.atom_iff hmo.2).1 Fv
 have htk := htk.mono e1
 refine Ak (Se rfl (Om rfl ?_)); refine C4 (fun w h => h.f3) ?_; refine Ca rfl (Abj htk b p.n Aa Aa _) ?_; rintro _ _ _ _ ⟨rfl, rfl, rfl⟩
 have hfr := Dv 121 tk p.n
 have hfr2 := Bp 121 tk (fr 121 tk p.n)
 have hnl : (nm 121 (fr 121 tk p.n)).length ≤ Bg := Ex.name_len (Mm Ad Aa)
 generalize hn1e : nm 121 (fr 121 tk p.n) = n1 at hnl ⊢
 have hpt : p.pt tk = ⟨.name n1, p.ns ++ [(n1, p.e)], fr 121 tk p.n + 1, p.g + 1⟩ := by unfold MK.pt; rw [if_neg (by rw [hb]; simp), hn1e]
 rw [hpt]
 unfold P9
 refine Oa rfl (Ab (Se rfl (Om rfl (Om rfl ?_)))); refine Aw rfl .free rfl ?_
 first | refine Oh rfl ?_ | refine Oj rfl ?_
 refine L8 rfl .free rfl ?_; refine Om rfl ?_; refine Ol rfl rfl ?_; intro b22; refine D1 (B := y.B1) (xs := y.ns.map sv) (ys := [sv n1]) (m := y.ns.length) (c := y.c1) Av Ac (by rw [hu1]; rfl) rfl hy.b1 (fun _ h => h.u5) Ac (fun a ha => by cases ha; exact Bw (.head _) Ac) Ae Ac Ad Ad Aa Ad .free rfl ?_; intro bb sp c2 hB'; refine Aw rfl .free rfl ?_
 first | refine Oh rfl ?_ | refine Oj rfl ?_
 refine By rfl rfl rfl rfl .free ?_; refine Ab (Ah ?_); refine Ag9 13 rfl rfl ?_; refine Da 0 rfl (Ai rfl) ?_; refine Da 1 rfl (Cb rfl) ?_
 first | refine Da 2 rfl (Aj rfl) ?_ | refine Da 2 rfl (A4 rfl) ?_
 refine Dt 4 [9] rfl (Ea rfl) ?_; refine Gd 3 6 Af ?_ ?_
 ·skip
  refine Ri 3 rfl rfl (P8 rfl) .free rfl (.inr Au) ?_; refine Da 5 rfl (Fd rfl) ?_; refine Fg 6 rfl Af rfl rfl rfl Ac Ac Ac Ad Ad Ac .free rfl (.inr Au) ?_; intro b32; refine Cg 7 (B := y.B2) (xs := y.xs) (ys := [.string (str []), .slice none 0 0]) (m := y.es.length) (c := y.c2) rfl Af rfl Av Ac (by rw [hu2]; rfl) rfl hy.b2 (fun _ h => h.u7) Ac (fun a ha => by cases ha; exact Bw (.head _) Ac) Ae Ac Ad Aa Ad .free rfl (fun _ => .inr Au) ?_; intro B2 c3 hB2; obtain ⟨bq, sq, rfl⟩ : ∃ bq sq, B2 = some (bq, sq) := by
   cases B2 with
   | none => exact absurd hB2.1 Ae
   | some z => exact ⟨z.1, z.2, rfl⟩
  have hxl2 := hy.rep.length
  rw [List.length_map] at hxl2
  simp only [A2, List.cons_append, List.nil_append, List.append_assoc]
  refine Da 8 rfl (F5 rfl rfl _ rfl Aa rfl) ?_; refine G8 (t := 34) rfl (congrArg (fun a => Value.pointer (some a)) (Pf bq (y.es.length * 2))) ?_; refine Da 10 rfl (Cb rfl) ?_
  first | refine Da 11 rfl (Aj rfl) ?_ | refine Da 11 rfl (A4 rfl) ?_
  refine Gd 9 12 Af ?_ ?_
  ·skip
   refine S4 9 rfl rfl rfl rfl rfl rfl .free (.inl Af) ?_ (hu := u0) (hus := Iv (xs := y.xs) (zs := [_, _]) (sp := sq) Aa rfl); refine Dx 12 rfl rfl rfl rfl ?_; refine A5 Af ?_; refine Se rfl (Om rfl ?_); refine Ca rfl (H6 ..) ?_; rintro _ _ _ _ ⟨rfl, rfl, rfl⟩; refine By rfl rfl rfl rfl .free ?_; refine Ab ?_; refine Am (.c rfl .nil) ?_
   refine ⟨J1, _, e1, fun w h => Mem.rev3 (Mem.sub (L' := (bq, _) :: (bb, _) :: (b, _) :: L) A7 h), _, ⟨y.ns ++ [n1], y.es ++ [p.e], some (bb, sp), c2, y.xs ++ [.string (str p.e.tree.atom), .slice o1 p.e.tree.parts.length k1], some (bq, sq), c3⟩, rfl, .ofAtom hnl, ⟨by simpa using hB', ⟨by have := hB2.1; simp at this ⊢; omega, by simpa using hB2.2.1, by simpa using hB2.2.2⟩, by simpa using hy.rep.append (.one hr), ?_⟩, ?_, ?_, ?_⟩
   ·intro s hs
    rcases List.mem_append.1 hs with hs | hs
    ·exact hy.each s hs
    ·rw [List.mem_singleton.1 hs]; exact hnl
   ·simp only [hyn, List.map_append, List.map_cons, List.map_nil, List.append_assoc]
   ·simp only [hye, List.map_append, List.map_cons, List.map_nil, List.append_assoc]
   ·simp only [MS.own, P9, A2, Bm, List.map_append, List.map_cons, List.map_nil, List.append_assoc, List.length_append, List.length_cons, List.length_nil, List.cons_append, List.nil_append]
  ·skip
   refine S4 12 rfl rfl rfl rfl rfl rfl .free (.inr Au) ?_; refine Dx 9 rfl rfl rfl rfl ?_ (hu := u0) (hus := Iv (xs := y.xs) (zs := [_, _]) (sp := sq) Aa rfl); refine A5 Af ?_; refine Se rfl (Om rfl ?_); refine Ca rfl (H6 ..) ?_; rintro _ _ _ _ ⟨rfl, rfl, rfl⟩; refine By rfl rfl rfl rfl .free ?_; refine Ab ?_; refine Am (.c rfl .nil) ?_
   refine ⟨J1, _, e1, fun w h => Mem.rev3 (Mem.sub (L' := (bq, _) :: (bb, _) :: (b, _) :: L) A7 h), _, ⟨y.ns ++ [n1], y.es ++ [p.e], some (bb, sp), c2, y.xs ++ [.string (str p.e.tree.atom), .slice o1 p.e.tree.parts.length k1], some (bq, sq), c3⟩, rfl, .ofAtom hnl, ⟨by simpa using hB', ⟨by have := hB2.1; simp at this ⊢; omega, by simpa using hB2.2.1, by simpa using hB2.2.2⟩, by simpa using hy.rep.append (.one hr), ?_⟩, ?_, ?_, ?_⟩
   ·intro s hs
    rcases List.mem_append.1 hs with hs | hs
    ·exact hy.each s hs
    ·rw [List.mem_singleton.1 hs]; exact hnl
   ·simp only [hyn, List.map_append, List.map_cons, List.map_nil, List.append_assoc]
   ·simp only [hye, List.map_append, List.map_cons, List.map_nil, List.append_assoc]
   ·simp only [MS.own, P9, A2, Bm, List.map_append, List.map_cons, List.map_nil, List.append_assoc, List.length_append, List.length_cons, List.length_nil, List.cons_append, List.nil_append]
 ·skip
  refine Ep 6 rfl rfl rfl rfl Ac Ac Ac Ad Ad Ac .free rfl (.inr Au) ?_; intro b32; refine Sm 3 rfl Af rfl (P8 rfl) .free rfl (.inr Au) ?_; refine Da 5 rfl (Fd rfl) ?_; refine Cg 7 (B := y.B2) (xs := y.xs) (ys := [.string (str []), .slice none 0 0]) (m := y.es.length) (c := y.c2) rfl Af rfl Av Ac (by rw [hu2]; rfl) rfl hy.b2 (fun _ h => h.u7) Ac (fun a ha => by cases ha; exact Bw (.head _) Ac) Ae Ac Ad Aa Ad .free rfl (fun _ => .inr Au) ?_; intro B2 c3 hB2; obtain ⟨bq, sq, rfl⟩ : ∃ bq sq, B2 = some (bq, sq) := by
   cases B2 with
   | none => exact absurd hB2.1 Ae
   | some z => exact ⟨z.1, z.2, rfl⟩
  have hxl2 := hy.rep.length
  rw [List.length_map] at hxl2
  simp only [A2, List.cons_append, List.nil_append, List.append_assoc]
  refine Da 8 rfl (F5 rfl rfl _ rfl Aa rfl) ?_; refine G8 (t := 34) rfl (congrArg (fun a => Value.pointer (some a)) (Pf bq (y.es.length * 2))) ?_; refine Da 10 rfl (Cb rfl) ?_
  first | refine Da 11 rfl (Aj rfl) ?_ | refine Da 11 rfl (A4 rfl) ?_
  refine Gd 9 12 Af ?_ ?_
  ·skip
   refine S4 9 rfl rfl rfl rfl rfl rfl .free (.inl Af) ?_ (hu := u0) (hus := Iv (xs := y.xs) (zs := [_, _]) (sp := sq) Aa rfl); refine Dx 12 rfl rfl rfl rfl ?_; refine A5 Af ?_; refine Se rfl (Om rfl ?_); refine Ca rfl (H6 ..) ?_; rintro _ _ _ _ ⟨rfl, rfl, rfl⟩; refine By rfl rfl rfl rfl .free ?_; refine Ab ?_; refine Am (.c rfl .nil) ?_
   refine ⟨J1, _, e1, fun w h => Mem.rev3 (Mem.sub (L' := (bq, _) :: (bb, _) :: (b, _) :: L) A7 h), _, ⟨y.ns ++ [n1], y.es ++ [p.e], some (bb, sp), c2, y.xs ++ [.string (str p.e.tree.atom), .slice o1 p.e.tree.parts.length k1], some (bq, sq), c3⟩, rfl, .ofAtom hnl, ⟨by simpa using hB', ⟨by have := hB2.1; simp at this ⊢; omega, by simpa using hB2.2.1, by simpa using hB2.2.2⟩, by simpa using hy.rep.append (.one hr), ?_⟩, ?_, ?_, ?_⟩
   ·intro s hs
    rcases List.mem_append.1 hs with hs | hs
    ·exact hy.each s hs
    ·rw [List.mem_singleton.1 hs]; exact hnl
   ·simp only [hyn, List.map_append, List.map_cons, List.map_nil, List.append_assoc]
   ·simp only [hye, List.map_append, List.map_cons, List.map_nil, List.append_assoc]
   ·simp only [MS.own, P9, A2, Bm, List.map_append, List.map_cons, List.map_nil, List.append_assoc, List.length_append, List.length_cons, List.length_nil, List.cons_append, List.nil_append]
  ·skip
   refine S4 12 rfl rfl rfl rfl rfl rfl .free (.inr Au) ?_; refine Dx 9 rfl rfl rfl rfl ?_ (hu := u0) (hus := Iv (xs := y.xs) (zs := [_, _]) (sp := sq) Aa rfl); refine A5 Af ?_; refine Se rfl (Om rfl ?_); refine Ca rfl (H6 ..) ?_; rintro _ _ _ _ ⟨rfl, rfl, rfl⟩; refine By rfl rfl rfl rfl .free ?_; refine Ab ?_; refine Am (.c rfl .nil) ?_
   refine ⟨J1, _, e1, fun w h => Mem.rev3 (Mem.sub (L' := (bq, _) :: (bb, _) :: (b, _) :: L) A7 h), _, ⟨y.ns ++ [n1], y.es ++ [p.e], some (bb, sp), c2, y.xs ++ [.string (str p.e.tree.atom), .slice o1 p.e.tree.parts.length k1], some (bq, sq), c3⟩, rfl, .ofAtom hnl, ⟨by simpa using hB', ⟨by have := hB2.1; simp at this ⊢; omega, by simpa using hB2.2.1, by simpa using hB2.2.2⟩, by simpa using hy.rep.append (.one hr), ?_⟩, ?_, ?_, ?_⟩
   ·intro s hs
    rcases List.mem_append.1 hs with hs | hs
    ·exact hy.each s hs
    ·rw [List.mem_singleton.1 hs]; exact hnl
   ·simp only [hyn, List.map_append, List.map_cons, List.map_nil, List.append_assoc]
   ·simp only [hye, List.map_append, List.map_cons, List.map_nil, List.append_assoc]
   ·simp only [MS.own, P9, A2, Bm, List.map_append, List.map_cons, List.map_nil, List.append_assoc, List.length_append, List.length_cons, List.length_nil, List.cons_append, List.nil_append]
theorem Forms.at' {I : Heap} {oa : Option Addr} {ts : List Tree} {c : Nat} (h : Forms I oa ts c) : ∃ oaf cf, FormAt I (.node [] ts) oa c oaf cf := by
 obtain ⟨oa', c', oaf, cf, he, hf⟩ := (h.form [] Ad).at'
 simp only [List.cons.injEq, Value.slice.injEq, and_true, true_and] at he
 obtain ⟨_, rfl, _, rfl⟩ := he
 exact ⟨oaf, cf, hf⟩
theorem Ug {P : Program} {f : FuncId} {n : Nat} {I₀ : Heap} {Q : Cv} {k : List Item} {E : Hg} {I : Heap} {L : Bj} {ops : Array Oper} {ol : List Oper} {e : TypeId} {ts : List Tree} {vs : List Value} {B : Kg} {m c : Nat} (hl : RepL I ts vs) (hB : Dd 2 m c vs B) (hm : m = ts.length) (hn : ts.length ≤ Bg)
  (h : ∀ I' oa c', HLe I I' → Bm m c B = .slice oa ts.length c' → Forms I' oa ts c' → A8 P f n I₀ Q ops ol k E I' L) : A8 P f n I₀ Q ops ol k E I (A2 e vs B ++ L) := by
 rcases Uv (e := e) hl hB hm hn with ⟨rfl, rfl⟩ | ⟨b, sp, rfl, _, hc⟩
 ·exact h I none 0 (.refl _) rfl (S0 _)
 ·exact Gu fun hle => h _ (some ⟨b, 0, none⟩) c hle (by rw [← hm]; rfl) (Qf hl hle hc hn)
theorem RepL.four {I : Heap} {t u v x : Tree} {cs ds es gs : List Value} (h : Rep I t cs) (h' : Rep I u ds) (h'' : Rep I v es) (h3 : Rep I x gs) : RepL I [t, u, v, x] (cs ++ (ds ++ (es ++ gs))) := (RepL.one h).append ((RepL.one h').append ((RepL.one h'').append (.one h3)))
theorem Adb {I : Heap} {oa : Option Addr} {ts : List Tree} {c : Nat} (h : Forms I oa ts c) (L : Bj) : Fun Tryz.prog 172 [.slice oa ts.length c] I L (RP (.node [] ts) L) := by
 refine Ao Ae ?_; refine Se rfl ?_; refine A1 .free rfl ?_; intro b2; refine Ab (Se rfl (Om rfl ?_)); refine Cd rfl rfl rfl .free rfl ?_; refine By rfl rfl rfl rfl .free ?_; refine Ab ?_; refine Am (.c rfl .nil) ?_
 exact ⟨I, L, .refl _, Cl, _, rfl, h.form [] Ad, rfl⟩
theorem Aez {ns : List As} {es : List Ex} {k : Nat} (h : k < ns.length) (h2 : es.length = ns.length) (f : Ex) : Fu ((ns.zip es).drop k) f = .lt (ns.getD k []) (es.getD k (.num [])) (Fu ((ns.zip es).drop (k + 1)) f) := by
 have h3 : k < (ns.zip es).length := by simp [List.length_zip, h2]; exact h
 rw [U3 h3]
 simp [List.getElem_zip, h, show k < es.length by omega]
theorem Za : ∀ (l : W4), (l.map (·.1)).zip (l.map (·.2)) = l
 | [] => rfl
 | p :: l => by simp only [List.map_cons, List.zip_cons_cons, Za l]
theorem Mj {N : Nat} (ih : Rb N) {I : Heap} {e : Ex} {cs : List Value} (hlt : SizeOf.sizeOf e < N) (h : Rep I e.tree cs) (hok : e.ok = true) {ot : Option Addr} {tk : List As} {ct : Nat} (htk : Strs I ot tk ct) (b n : Nat) (hn : n + e.size + tk.length ≤ 900 + E3 121 tk n) (hz : e.size ≤ 100000) {a1 a2 : Option Addr} {q1 j1 q2 j2 : Nat} (L : Bj) :
  Fun Tryz.prog 125 [.pointer (some ⟨b, 0, none⟩), .agg cs.toArray] I (P9 b ot tk ct n (.slice a1 q1 j1) (.slice a2 q2 j2) :: L) (fun v I' L' => ∃ cs, v = .agg (List.toArray cs) ∧ Rep I' (e.mk tk n).all.tree cs ∧ L' = P9 b ot tk ct (e.mk tk n).n (.slice a1 q1 j1) (.slice a2 q2 j2) :: L) := by
 obtain ⟨oa, c, oaf, cf, rfl, hf⟩ := h.at'
 have hmo := Ex.mk_ok (tk := tk) (n := n) hok hn
 have hml := e.mk_len tk n
 generalize hp : e.mk tk n = p at *
 unfold P9
 refine Ao Ae ?_; refine Se rfl ?_; refine Cm rfl rfl .free rfl ?_; intro b3; refine A1 .free rfl ?_; intro b4; refine Ab (Se rfl (Om rfl ?_)); refine Aw rfl .free rfl ?_
 first | refine Oh rfl ?_ | refine Oj rfl ?_
 refine L8 rfl .free rfl ?_; refine Oa rfl (Ab (Se rfl (Om rfl ?_))); refine Aw rfl .free rfl ?_
 first | refine Oh rfl ?_ | refine Oj rfl ?_
 refine L8 rfl .free rfl ?_; refine Oa rfl (Ab (Se rfl (Om rfl ?_))); refine Dl .free rfl ?_; intro b18; refine Aw rfl .free rfl ?_
 first | refine Oh rfl ?_ | refine Oj rfl ?_
 refine By rfl rfl rfl rfl .free ?_; refine Ab (Se rfl (Om rfl ?_)); refine Dl .free rfl ?_; intro b22; refine Aw rfl .free rfl ?_
 first | refine Oh rfl ?_ | refine Oj rfl ?_
 refine By rfl rfl rfl rfl .free ?_; refine Ab (Se rfl (Om rfl ?_)); refine Az rfl .free rfl ?_; refine C4 (L' := MS.own b ot tk ct n ⟨[], [], some (b18, []), 0, [], some (b22, []), 0⟩ (_ :: _ :: L)) (fun w h => h.f4.sw) ?_; refine Ca rfl (ih hlt hf.rep hok htk b n hn ⟨[], [], some (b18, []), 0, [], some (b22, []), 0⟩ ⟨⟨rfl, Nat.le_refl _, rfl⟩, ⟨rfl, Nat.le_refl _, rfl⟩, .nil, by simp⟩ Dr rfl _) ?_; rw [hp]; rintro _ J1 _ e1 ⟨cs1, y, rfl, hr, hy, hyn, hye, rfl⟩; obtain ⟨o1, k1, _, rfl, -⟩ := hr.open
 simp only [List.nil_append] at hyn hye
 have hyl : y.ns.length = p.ns.length := by rw [hyn]; simp
 have hyl2 : y.es.length = y.ns.length := by rw [hye, hyn]; simp
 unfold MS.own
 refine C4 (fun w h => Mem.seg2 (A := [_]) h) ?_; refine Mp hy.b1 rfl C3 hy.each ?_; intro J2 oz cz ez hu1 hst; refine C4 (fun w h => Mem.seg2 (A := [_]) (B := A2 _ _ _) h) ?_
 have hy := hy.mono ez
 refine Ug hy.rep hy.b2 Ae Io ?_; intro J3 oy cy ey hu2 hfm; rw [hu1, hu2]; refine C4 (L' := (_ :: _ :: _ :: L)) (fun w h => h) ?_
 have hst := hst.mono ey
 have hr := (hr.mono ez).mono ey
 have hle := (e1.trans ez).trans ey
 obtain ⟨oaf2, cf2, hff⟩ := hfm.at'
 unfold P9
 refine A1 .free rfl ?_; intro b7; refine By rfl rfl rfl rfl .free ?_; refine Ab (Ah (Se rfl (Om rfl ?_))); refine Aw rfl .free rfl ?_
 first | refine Oh rfl ?_ | refine Oj rfl ?_
 refine L8 rfl .free rfl ?_; refine On rfl ?_; refine Or rfl rfl rfl ?_; refine Oa rfl (Ab (Aq ?_))
 refine Dn (X := YS) (fun z => z.k) (fun z => [(0, .pointer (some ⟨b, 0, none⟩)), (4, .pointer (some ⟨b4, 0, none⟩)), (5, .slice a1 q1 j1), (6, .slice a2 q2 j2), (7, .pointer (some ⟨b7, 0, none⟩)), (8, .int .i64 ((z.k : Int) - 1))]) (fun z => z.I) (fun z => (b7, .cells [.string (str (Fu ((y.ns.zip y.es).drop z.k) p.e).tree.atom), .slice z.oa (Fu ((y.ns.zip y.es).drop z.k) p.e).tree.parts.length z.c].toArray 68 (0, 0)) :: (b, .cells [.slice ot tk.length ct, .int .i64 (p.n : Nat), .slice oz y.ns.length cz, .slice oy (y.es.map Ex.tree).length cy].toArray 145 (0, 0)) :: (b4, .cells [.string (str []), .slice none 0 0].toArray 68 (0, 0)) :: (b3, .cells [.string (str e.tree.atom), .slice oa e.tree.parts.length c].toArray 68 (0, 0)) :: L) (fun z => HLe J3 z.I ∧ z.k ≤ y.ns.length ∧ Rep z.I (Fu ((y.ns.zip y.es).drop z.k) p.e).tree [.string (str (Fu ((y.ns.zip y.es).drop z.k) p.e).tree.atom), .slice z.oa (Fu ((y.ns.zip y.es).drop z.k) p.e).tree.parts.length z.c]) ⟨J3, y.ns.length, o1, k1⟩ ⟨.refl _, Nat.le_refl _, by rw [List.drop_of_length_le (by simp [List.length_zip, hyl2])]; exact hr⟩ ⟨rfl, rfl, rfl, rfl, rfl, rfl, trivial⟩ (fun w hw => by rw [List.drop_of_length_le (by simp [List.length_zip, hyl2])]; exact hw) ?_
 rintro ⟨J, k, ob, d⟩ ⟨hlz, hk, hrz⟩ ih2
 simp only at hlz hk hrz ih2
 dsimp only
 refine Ah (Se rfl (Om rfl (Oc rfl rfl rfl (Ab ?_)))); refine A6 rfl ?_ ?_
 ·intro c0
  try simp only [nb] at c0
  obtain ⟨k, rfl⟩ : ∃ m, k = m + 1 := ⟨k - 1, by omega⟩; refine Jv (t := 8) (v' := .int .i64 (k : Nat)) rfl F7 ?_
  have hst := hst.mono hlz
  have hff := hff.mono hlz
  have hkn : k < y.ns.length := by omega
  have hke : k < (Tree.node [] (y.es.map Ex.tree)).parts.length := by show k < (y.es.map Ex.tree).length; rw [List.length_map]; omega
  have hpt : (Tree.node [] (y.es.map Ex.tree)).pt k = (y.es.getD k (.num [])).tree := by
   rw [Tree.pt_at hke]; exact (List.getElem_map ..).trans (by simp [show k < y.es.length by omega])
  have hrk := hff.rp k hke
  have hnk := hst.each _ (List.getElem_mem hkn)
  rw [show y.ns[k] = y.ns.getD k [] by simp [hkn]] at hnk; refine Ak (Ah (Aq ?_)); refine Fh 20 rfl rfl ?_; refine Da 1 rfl (Ai rfl) ?_; refine Da 2 rfl (Cb rfl) ?_
  first | refine Da 3 rfl (Aj rfl) ?_ | refine Da 3 rfl (A4 rfl) ?_
  refine Dt 4 [19] rfl (P8 rfl) ?_; refine Da 5 rfl (Ai rfl) ?_
  first | refine Da 6 rfl (Bc rfl rfl _ rfl) ?_ | refine Da 6 rfl (Bd rfl rfl _ rfl) ?_
  refine Dt 7 [19] rfl (T0 rfl) ?_; refine Da 9 rfl (Ai rfl) ?_; refine Da 10 rfl (Cb rfl) ?_
  first | refine Da 11 rfl (Aj rfl) ?_ | refine Da 11 rfl (A4 rfl) ?_
  refine Dt 12 [19] rfl (P8 rfl) ?_; refine Da 13 rfl (Ai rfl) ?_
  first | refine Da 14 rfl (Bc rfl rfl _ rfl) ?_ | refine Da 14 rfl (Bd rfl rfl _ rfl) ?_
  refine Dt 15 [19] rfl (C5 rfl) ?_; refine Dt 16 [19] rfl (Ea rfl) ?_; refine Dc 0 rfl rfl (H6 Dz _ _) ?_; rintro _ _ _ _ ⟨rfl, rfl, rfl⟩; refine Hx ?_; refine Dc 8 rfl rfl (H6 (y.ns.getD k []) _ _) ?_; rintro _ _ _ _ ⟨rfl, rfl, rfl⟩; refine Hx ?_; refine Fg 17 rfl Af rfl rfl rfl Ac Ac Ac Ad Ad Ac .free rfl (.inr Au) ?_; intro b55; refine E0 ?_; intro hz
  have hfs := Sz (c := 4) (b := b55) (RepL.four (.ofAtom (a := Dz) Ad) (.ofAtom hnk) hrk hrz) hz Ae Bf
  refine Dc 18 rfl rfl (Adb hfs _) ?_; rintro _ J5 _ e5 ⟨cs5, rfl, hr5, rfl⟩; rw [hpt] at hr5
  have e6 := hz.trans e5
  obtain ⟨oq, cq, _, rfl, -⟩ := hr5.open; refine Hx ?_; refine Dx 19 rfl rfl rfl rfl ?_; refine A5 Af ?_; refine Ap (Al rfl (Om rfl ?_)); refine Or rfl rfl rfl ?_; refine Oa rfl (Ab ?_); refine Ed (E' := [(0, .pointer (some ⟨b, 0, none⟩)), (4, .pointer (some ⟨b4, 0, none⟩)), (5, .slice a1 q1 j1), (6, .slice a2 q2 j2), (7, .pointer (some ⟨b7, 0, none⟩)), (8, .int .i64 ((k : Int) - 1))]) ⟨rfl, rfl, rfl, rfl, rfl, rfl, trivial⟩ ?_
  have hd := Aez hkn hyl2 p.e
  refine Cu (fun w hw => ?_) (ih2 ⟨J5, k, oq, cq⟩ ⟨hlz.trans e6, by simp only; omega, by simp only; rw [hd]; exact hr5⟩ Dq)
  simp only; rw [hd]; exact hw
 intro c0
 try simp only [nb] at c0
 obtain rfl : k = 0 := by omega
 rw [List.drop_zero] at hrz
 simp only [List.drop_zero]
 have hzz : y.ns.zip y.es = p.ns := by rw [hyn, hye, Za]
 rw [hzz] at hrz ⊢; refine Cc rfl ?_; refine Se rfl (Om rfl (Om rfl ?_)); refine Aw rfl .free rfl ?_
 first | refine Oh rfl ?_ | refine Oj rfl ?_
 refine By rfl rfl rfl rfl .free ?_; refine Ab (Se rfl (Om rfl (Om rfl ?_))); refine Aw rfl .free rfl ?_
 first | refine Oh rfl ?_ | refine Oj rfl ?_
 refine By rfl rfl rfl rfl .free ?_; refine Ab (Se rfl ?_); refine Az rfl .free rfl ?_; refine By rfl rfl rfl rfl .free ?_; refine Ab ?_; refine Am (.c rfl .nil) ?_
 exact ⟨J, _, hle.trans hlz, Ms (L' := (b, _) :: L), _, rfl, hrz, rfl⟩
section
variable {P : Program} {f : FuncId} {n : Nat} {I₀ : Heap} {Q : Cv} {k : List Item} {E : Hg} {I : Heap} {id : Nat} {ops : Array Oper} {a b c d e m p q r s t : Nat × Obj} {A B L : Bj} {w : World}
theorem Mem.vm1 (h : Mem I (m :: (A ++ (B ++ (p :: L)))) w) : Mem I (p :: m :: (A ++ (B ++ L))) w := Mem.vm (X := [p]) h
theorem Mem.mv4 (h : Mem I (p :: q :: r :: s :: m :: (A ++ (B ++ L))) w) : Mem I (m :: (A ++ (B ++ (p :: q :: r :: s :: L)))) w := Mem.mv (X := [p, q, r, s]) h
theorem Mem.vm4 (h : Mem I (m :: (A ++ (B ++ (p :: q :: r :: s :: L)))) w) : Mem I (p :: q :: r :: s :: m :: (A ++ (B ++ L))) w := Mem.vm (X := [p, q, r, s]) h
theorem Ae6 (N : Nat) (hN : ops.size = N) (hm : P.follows .mixedOrders = true) (h : C0 P f n I₀ Q ops (Mem I (p :: q :: r :: s :: L)) N (Array.replicate N false) k E I (p :: q :: r :: s :: m :: (A ++ (B ++ L)))) :
  RunS P f n I₀ Q (.code (.region id ops true) :: k) E I (p :: q :: r :: s :: m :: (A ++ (B ++ L))) := Kk I (p :: q :: r :: s :: L) N hN hm h
theorem Ah3 (N : Nat) (hN : ops.size = N) (hm : P.follows .mixedOrders = true) (h : C0 P f n I₀ Q ops (Mem I (a :: p :: q :: r :: s :: m :: L)) N (Array.replicate N false) k E I (a :: p :: q :: r :: s :: m :: (A ++ L))) :
  RunS P f n I₀ Q (.code (.region id ops true) :: k) E I (a :: p :: q :: r :: s :: m :: (A ++ L)) := Kk I (a :: p :: q :: r :: s :: m :: L) N hN hm h
theorem Ah2 (N : Nat) (hN : ops.size = N) (hm : P.follows .mixedOrders = true) (h : C0 P f n I₀ Q ops (Mem I (p :: q :: r :: s :: t :: L)) N (Array.replicate N false) k E I (a :: b :: p :: q :: r :: s :: t :: m :: (A ++ L))) :
  RunS P f n I₀ Q (.code (.region id ops true) :: k) E I (a :: b :: p :: q :: r :: s :: t :: m :: (A ++ L)) := Kk I (p :: q :: r :: s :: t :: L) N hN hm h
end
set_option maxHeartbeats 1000000 in
theorem Adu {N : Nat} (ihn : Rb N) {o : B5} {a b : Ex} {I : Heap} {cs : List Value} (hlt : SizeOf.sizeOf (Ex.bin o a b) < N + 1) (h : Rep I (Ex.bin o a b).tree cs) (hok : (Ex.bin o a b).ok = true) {ot : Option Addr} {tk : List As} {ct : Nat} (htk : Strs I ot tk ct) (b0 n : Nat) (hn : n + (Ex.bin o a b).size + tk.length ≤ 900 + E3 121 tk n) (x : MS) (hx : x.ok I) (hxl : x.ns.length + (Ex.bin o a b).size ≤ 100000) (hxe : x.es.length = x.ns.length) (L : Bj) :
  Fun Tryz.prog 171 [.pointer (some ⟨b0, 0, none⟩), .agg cs.toArray] I (x.own b0 ot tk ct n L) (MP b0 ot tk ct x ((Ex.bin o a b).mk tk n) L) := by
 obtain ⟨oa, c, oaf, cf1, rfl, hf, hcl, hcs⟩ := h.cells
 have hle : HLe I I := .refl _
 have hh0 := Bp 121 tk n
 have hpos : 0 < (Ex.bin o a b).tree.parts.length := by show 0 < 3; decide
 obtain ⟨xa, rfl⟩ : ∃ xa, oa = some xa := ⟨_, En hf.nil hpos⟩
 have hlen : (Ex.bin o a b).tree.parts.length = 3 := rfl
 have hp0 : ((Ex.bin o a b).tree.pt 0).atom = o.txt := rfl
 simp only [Ex.bin.sizeOf_spec] at hlt
 simp only [Ex.ok, Bool.and_eq_true, decide_eq_true_eq] at hok
 simp only [Ex.size] at hn hxl
 simp only [Ex.mk]
 unfold MS.own
 refine Ao Ae ?_; refine Se rfl ?_; refine Cm rfl rfl .free rfl ?_; intro b3; refine A1 .free rfl ?_; intro b4; refine Ab (Ah (Se rfl (Oh rfl ?_))); refine Bv rfl .free rfl ?_; refine Od rfl rfl rfl (Ab ?_)
 first | refine Ez rfl Ek ?_ | refine Ey rfl Ek ?_ | refine A0 Ar ?_
 refine Ak (Se rfl (Oh rfl ?_)); refine Bv rfl .free rfl ?_; refine Oa rfl (Ab (Se rfl ?_)); refine Dl .free rfl ?_; intro b15; refine Om rfl ?_; refine D1 (B := some (b15, [])) (xs := []) (ys := D7 oaf cf1 0 (Ex.bin o a b).tree.parts) (m := 0) (c := 0) Av Ac rfl rfl ⟨rfl, Nat.le_refl _, rfl⟩ (fun _ h => h) Ff (fun a ha => by cases ha; exact (hcs _ rfl).reads) Ae hcl.plain hpos Ad Aa Ad .free rfl ?_; intro bc sp cc hB'
 have hcc : (Ex.bin o a b).tree.parts.length ≤ cc := by have := hB'.2.1; omega
 refine Gl (t := 17) (v' := .slice (some ⟨bc, 0, none⟩) (Ex.bin o a b).tree.parts.length cc) rfl Hc ?_
 simp only [List.nil_append]
 simp only [show (Ex.bin o a b).tree.parts = [.node o.txt [], a.tree, b.tree] from rfl, D7, List.cons_append, List.nil_append]
 refine Cd rfl rfl rfl .free rfl ?_; refine A1 .free rfl ?_; intro b6; refine By rfl rfl rfl rfl .free ?_; refine Ab (Ah (Se rfl (Om rfl ?_)))
 first | refine Bs rfl rfl 0 rfl .free rfl ?_ | refine Bt rfl rfl 0 rfl .free rfl ?_
 refine Bh rfl .free rfl ?_; refine Gj rfl .free rfl ?_; refine Ab (Aq (Se rfl (Od rfl rfl rfl (Oa rfl (Ab ?_)))))
 first | refine Ez rfl Ej ?_ | refine Ey rfl Ej ?_ | refine A0 Ar ?_
 refine Se rfl (Od rfl rfl rfl (Oa rfl (Ab ?_)))
 first | refine Ez rfl Ej ?_ | refine Ey rfl Ej ?_ | refine A0 Ar ?_
 refine Se rfl (Od rfl rfl rfl (Oa rfl (Ab ?_)))
 first | refine Ez rfl Ej ?_ | refine Ey rfl Ej ?_ | refine A0 Ar ?_
 refine Ak (Ap (Ah (Se rfl (Oa rfl (Ab (Aq ?_)))))); refine Ee ?_; refine Ah (Se rfl (Om rfl (Om rfl (On rfl (Oc rfl rfl rfl (Ab ?_)))))); refine B6 rfl Ay ?_; refine Ak (Ah (Aq ?_)); refine C9 fun hlr => ?_
 have g1 := a.mk_g tk n
 have mh1 := a.mk_hits tk n
 have gp1 := MK.pt_g tk _ g1.1 g1.2
 have mp1 := MK.pt_hits tk _ mh1
 have lp1 := MK.pt_len tk _ (a.mk_len tk n)
 have hz1 := Bp 121 tk n
 refine Ae6 11 rfl rfl ?_; refine Da 0 rfl (Aj rfl) ?_; refine Dt 1 [10] rfl (Bo rfl) ?_; refine Da 2 rfl (Ai rfl) ?_; refine Da 3 rfl (Ai rfl) ?_; refine Da 4 rfl (Ai rfl) ?_; refine Da 5 rfl (Ai rfl) ?_
 first | refine Da 6 rfl (Bc rfl rfl _ rfl) ?_ | refine Da 6 rfl (Bd rfl rfl _ rfl) ?_
 refine Dt 7 [10] rfl (C5 rfl) ?_; refine Bn (fun w h => Mem.mv4 h) ?_; refine Dc 8 rfl rfl (Mi ihn Aa (hf.as 1 a.tree Aa rfl) hok.1 htk b0 n Aa x hx Aa hxe _) ?_; rintro _ J1 _ e1 ⟨cs1, y1, rfl, hr_1, hy1, hy1n, hy1s, rfl⟩; obtain ⟨o1, k1, _, rfl, -⟩ := hr_1.open
 have hy1l : y1.ns.length = x.ns.length + ((a.mk tk n).pt tk).ns.length := by rw [hy1n]; simp
 have hy1e : y1.es.length = y1.ns.length := by rw [hy1s, hy1n]; simp [hxe]
 have hlr := hlr.trans e1
 have hf := hf.mono e1
 have htk := htk.mono e1
 have hle := hle.trans e1
 unfold MS.own
 refine Hx ?_; refine Bn (fun w h => Mem.vm4 h) ?_
 first | refine Da 9 rfl (Bc rfl rfl _ rfl) ?_ | refine Da 9 rfl (Bd rfl rfl _ rfl) ?_
 refine Dx 10 rfl rfl rfl rfl ?_; refine A5 Af ?_; refine Ap (Al rfl (Om rfl ?_)); refine Or rfl rfl rfl ?_; refine Oa rfl (Ab ?_); refine Bz ?_; refine Ah (Se rfl (Om rfl (Om rfl (On rfl (Oc rfl rfl rfl (Ab ?_)))))); refine B6 rfl Ay ?_; refine Ak (Ah (Aq ?_)); refine C9 fun hlr => ?_
 have g2 := b.mk_g tk ((a.mk tk n).pt tk).n
 have mh2 := b.mk_hits tk ((a.mk tk n).pt tk).n
 have gp2 := MK.pt_g tk _ g2.1 g2.2
 have mp2 := MK.pt_hits tk _ mh2
 have lp2 := MK.pt_len tk _ (b.mk_len tk ((a.mk tk n).pt tk).n)
 have hz2 := Bp 121 tk ((a.mk tk n).pt tk).n
 refine Ae6 11 rfl rfl ?_; refine Da 0 rfl (Aj rfl) ?_; refine Dt 1 [10] rfl (Bo rfl) ?_; refine Da 2 rfl (Ai rfl) ?_; refine Da 3 rfl (Ai rfl) ?_; refine Da 4 rfl (Ai rfl) ?_; refine Da 5 rfl (Ai rfl) ?_
 first | refine Da 6 rfl (Bc rfl rfl _ rfl) ?_ | refine Da 6 rfl (Bd rfl rfl _ rfl) ?_
 refine Dt 7 [10] rfl (C5 rfl) ?_; refine Bn (fun w h => Mem.mv4 h) ?_; refine Dc 8 rfl rfl (Mi ihn Aa (hf.as 2 b.tree Aa rfl) hok.2 htk b0 ((a.mk tk n).pt tk).n Aa y1 hy1 Aa hy1e _) ?_; rintro _ J2 _ e2 ⟨cs2, y2, rfl, hr_2, hy2, hy2n, hy2s, rfl⟩; obtain ⟨o2, k2, _, rfl, -⟩ := hr_2.open
 have hy2l : y2.ns.length = y1.ns.length + ((b.mk tk ((a.mk tk n).pt tk).n).pt tk).ns.length := by rw [hy2n]; simp
 have hy2e : y2.es.length = y2.ns.length := by rw [hy2s, hy2n]; simp [hy1e]
 have hlr := hlr.trans e2
 have hf := hf.mono e2
 have htk := htk.mono e2
 have hle := hle.trans e2
 have hr_1 := hr_1.mono e2
 unfold MS.own
 refine Hx ?_; refine Bn (fun w h => Mem.vm4 h) ?_
 first | refine Da 9 rfl (Bc rfl rfl _ rfl) ?_ | refine Da 9 rfl (Bd rfl rfl _ rfl) ?_
 refine Dx 10 rfl rfl rfl rfl ?_; refine A5 Af ?_; refine Ap (Al rfl (Om rfl ?_)); refine Or rfl rfl rfl ?_; refine Oa rfl (Ab ?_); refine Bz ?_; refine Ah (Se rfl (Om rfl (Om rfl (On rfl (Oc rfl rfl rfl (Ab ?_)))))); refine De rfl Ay ?_; refine Cc rfl ?_; refine Se rfl ?_; refine Az rfl .free rfl ?_; refine By rfl rfl rfl rfl .free ?_; refine Ab ?_; refine Cu (fun w h => h.f1) (Bu ?_); intro hz
 have hf := hf.mono hz
 refine Am (.c rfl .nil) ?_; refine ⟨_, _, hle.trans hz, fun w h => h.drop.drop.drop, _, y2, rfl, .mk' rfl (.cons (hf.as 0 (.node o.txt []) Aa rfl) (.cons (hr_1.mono hz) (.cons (hr_2.mono hz) (.nil)))) (fun y hy => by cases hy; exact A9 (xs := [_, _, _, _, _, _])) Ae hcc Bf Bf, hy2.mono hz, by simp only [hy2n, hy1n, List.map_append, List.append_assoc], by simp only [hy2s, hy1s, List.map_append, List.append_assoc], ?_⟩
 rfl
set_option maxHeartbeats 1000000 in
theorem Adv {N : Nat} (ihn : Rb N) {a b d : Ex} {I : Heap} {cs : List Value} (hlt : SizeOf.sizeOf (Ex.ite a b d) < N + 1) (h : Rep I (Ex.ite a b d).tree cs) (hok : (Ex.ite a b d).ok = true) {ot : Option Addr} {tk : List As} {ct : Nat} (htk : Strs I ot tk ct) (b0 n : Nat) (hn : n + (Ex.ite a b d).size + tk.length ≤ 900 + E3 121 tk n) (x : MS) (hx : x.ok I) (hxl : x.ns.length + (Ex.ite a b d).size ≤ 100000) (hxe : x.es.length = x.ns.length) (L : Bj) :
  Fun Tryz.prog 171 [.pointer (some ⟨b0, 0, none⟩), .agg cs.toArray] I (x.own b0 ot tk ct n L) (MP b0 ot tk ct x ((Ex.ite a b d).mk tk n) L) := by
 obtain ⟨oa, c, oaf, cf1, rfl, hf, hcl, hcs⟩ := h.cells
 have hle : HLe I I := .refl _
 have hh0 := Bp 121 tk n
 have hpos : 0 < (Ex.ite a b d).tree.parts.length := by show 0 < 4; decide
 obtain ⟨xa, rfl⟩ : ∃ xa, oa = some xa := ⟨_, En hf.nil hpos⟩
 have hlen : (Ex.ite a b d).tree.parts.length = 4 := rfl
 have hp0 : ((Ex.ite a b d).tree.pt 0).atom = Gy := rfl
 simp only [Ex.ite.sizeOf_spec] at hlt
 simp only [Ex.ok, Bool.and_eq_true, decide_eq_true_eq] at hok
 simp only [Ex.size] at hn hxl
 simp only [Ex.mk]
 unfold MS.own
 refine Ao Ae ?_; refine Se rfl ?_; refine Cm rfl rfl .free rfl ?_; intro b3; refine A1 .free rfl ?_; intro b4; refine Ab (Ah (Se rfl (Oh rfl ?_))); refine Bv rfl .free rfl ?_; refine Od rfl rfl rfl (Ab ?_)
 first | refine Ez rfl Ek ?_ | refine Ey rfl Ek ?_ | refine A0 Ar ?_
 refine Ak (Se rfl (Oh rfl ?_)); refine Bv rfl .free rfl ?_; refine Oa rfl (Ab (Se rfl ?_)); refine Dl .free rfl ?_; intro b15; refine Om rfl ?_; refine D1 (B := some (b15, [])) (xs := []) (ys := D7 oaf cf1 0 (Ex.ite a b d).tree.parts) (m := 0) (c := 0) Av Ac rfl rfl ⟨rfl, Nat.le_refl _, rfl⟩ (fun _ h => h) Ff (fun a ha => by cases ha; exact (hcs _ rfl).reads) Ae hcl.plain hpos Ad Aa Ad .free rfl ?_; intro bc sp cc hB'
 have hcc : (Ex.ite a b d).tree.parts.length ≤ cc := by have := hB'.2.1; omega
 refine Gl (t := 17) (v' := .slice (some ⟨bc, 0, none⟩) (Ex.ite a b d).tree.parts.length cc) rfl Hc ?_
 simp only [List.nil_append]
 simp only [show (Ex.ite a b d).tree.parts = [.node Gy [], a.tree, b.tree, d.tree] from rfl, D7, List.cons_append, List.nil_append]
 refine Cd rfl rfl rfl .free rfl ?_; refine A1 .free rfl ?_; intro b6; refine By rfl rfl rfl rfl .free ?_; refine Ab (Ah (Se rfl (Om rfl ?_)))
 first | refine Bs rfl rfl 0 rfl .free rfl ?_ | refine Bt rfl rfl 0 rfl .free rfl ?_
 refine Bh rfl .free rfl ?_; refine Gj rfl .free rfl ?_; refine Ab (Aq (Se rfl (Od rfl rfl rfl (Oa rfl (Ab ?_)))))
 first | refine Ez rfl Gf ?_ | refine Ey rfl Gf ?_ | refine A0 Ar ?_
 refine Se rfl (Od rfl rfl rfl (Oa rfl (Ab ?_)))
 first | refine Ez rfl Gf ?_ | refine Ey rfl Gf ?_ | refine A0 Ar ?_
 refine Se rfl (Od rfl rfl rfl (Oa rfl (Ab ?_)))
 first | refine K3 rfl (by rw [hp0]; rfl) ?_ | refine K2 rfl (by rw [hp0]; rfl) ?_ | refine B9 Ar ?_
 refine Ah ?_; refine C9 fun hlr => ?_
 have g1 := a.mk_g tk n
 have mh1 := a.mk_hits tk n
 have gp1 := MK.pt_g tk _ g1.1 g1.2
 have mp1 := MK.pt_hits tk _ mh1
 have lp1 := MK.pt_len tk _ (a.mk_len tk n)
 have hz1 := Bp 121 tk n
 refine Ae6 9 rfl rfl ?_; refine Da 0 rfl (Aj rfl) ?_; refine Dt 1 [8] rfl (Bo rfl) ?_; refine Da 2 rfl (Ai rfl) ?_; refine Da 3 rfl (Ai rfl) ?_
 first | refine Da 4 rfl (Bc rfl rfl 1 rfl) ?_ | refine Da 4 rfl (Bd rfl rfl 1 rfl) ?_
 refine Dt 5 [8] rfl (C5 rfl) ?_; refine Bn (fun w h => Mem.mv4 h) ?_; refine Dc 6 rfl rfl (Mi ihn Aa (hf.as 1 a.tree Aa rfl) hok.1.1 htk b0 n Aa x hx Aa hxe _) ?_; rintro _ J1 _ e1 ⟨cs1, y1, rfl, hr_1, hy1, hy1n, hy1s, rfl⟩; obtain ⟨o1, k1, _, rfl, -⟩ := hr_1.open
 have hy1l : y1.ns.length = x.ns.length + ((a.mk tk n).pt tk).ns.length := by rw [hy1n]; simp
 have hy1e : y1.es.length = y1.ns.length := by rw [hy1s, hy1n]; simp [hxe]
 have hlr := hlr.trans e1
 have hf := hf.mono e1
 have htk := htk.mono e1
 have hle := hle.trans e1
 unfold MS.own
 refine Hx ?_; refine Bn (fun w h => Mem.vm4 h) ?_
 first | refine Da 7 rfl (Bc rfl rfl 1 rfl) ?_ | refine Da 7 rfl (Bd rfl rfl 1 rfl) ?_
 refine Dx 8 rfl rfl rfl rfl ?_; refine A5 Af ?_; refine Ah ?_; obtain ⟨a1, k2', hu1⟩ := Hj hy1.b1; obtain ⟨a2, k3', hu2⟩ := Hj hy1.b2; rw [hu1, hu2]
 unfold P9
 refine C9 fun hlr => ?_
 have g2 := b.mk_g tk ((a.mk tk n).pt tk).n
 have mh2 := b.mk_hits tk ((a.mk tk n).pt tk).n
 have hz2 := Bp 121 tk ((a.mk tk n).pt tk).n
 refine Cu (fun w h => h.f4) ?_; refine Hl 9 rfl rfl ?_; refine Da 0 rfl (Aj rfl) ?_; refine Dt 1 [8] rfl (Bo rfl) ?_; refine Da 2 rfl (Ai rfl) ?_; refine Da 3 rfl (Ai rfl) ?_
 first | refine Da 4 rfl (Bc rfl rfl 2 rfl) ?_ | refine Da 4 rfl (Bd rfl rfl 2 rfl) ?_
 refine Dt 5 [8] rfl (C5 rfl) ?_; refine Dc 6 rfl rfl (Mj ihn Aa (hf.as 2 b.tree Aa rfl) hok.1.2 htk b0 ((a.mk tk n).pt tk).n Aa Aa _) ?_; rintro _ J2 _ e2 ⟨cs2, rfl, hr_2, rfl⟩; obtain ⟨o2, k2, _, rfl, -⟩ := hr_2.open
 have hlr := hlr.trans e2
 have hf := hf.mono e2
 have htk := htk.mono e2
 have hle := hle.trans e2
 have hr_1 := hr_1.mono e2
 unfold P9
 refine Hx ?_
 first | refine Da 7 rfl (Bc rfl rfl 2 rfl) ?_ | refine Da 7 rfl (Bd rfl rfl 2 rfl) ?_
 refine Dx 8 rfl rfl rfl rfl ?_; refine A5 Af ?_; refine Ah ?_; refine C9 fun hlr => ?_
 have g3 := d.mk_g tk (b.mk tk ((a.mk tk n).pt tk).n).n
 have mh3 := d.mk_hits tk (b.mk tk ((a.mk tk n).pt tk).n).n
 have hz3 := Bp 121 tk (b.mk tk ((a.mk tk n).pt tk).n).n
 refine Hl 9 rfl rfl ?_; refine Da 0 rfl (Aj rfl) ?_; refine Dt 1 [8] rfl (Bo rfl) ?_; refine Da 2 rfl (Ai rfl) ?_; refine Da 3 rfl (Ai rfl) ?_
 first | refine Da 4 rfl (Bc rfl rfl 3 rfl) ?_ | refine Da 4 rfl (Bd rfl rfl 3 rfl) ?_
 refine Dt 5 [8] rfl (C5 rfl) ?_; refine Dc 6 rfl rfl (Mj ihn Aa (hf.as 3 d.tree Aa rfl) hok.2 htk b0 (b.mk tk ((a.mk tk n).pt tk).n).n Aa Aa _) ?_; rintro _ J3 _ e3 ⟨cs3, rfl, hr_3, rfl⟩; obtain ⟨o3, k3, _, rfl, -⟩ := hr_3.open
 have hlr := hlr.trans e3
 have hf := hf.mono e3
 have htk := htk.mono e3
 have hle := hle.trans e3
 have hr_1 := hr_1.mono e3
 have hr_2 := hr_2.mono e3
 unfold P9
 refine Hx ?_
 first | refine Da 7 rfl (Bc rfl rfl 3 rfl) ?_ | refine Da 7 rfl (Bd rfl rfl 3 rfl) ?_
 refine Dx 8 rfl rfl rfl rfl ?_; refine A5 Af ?_; refine Se rfl ?_; refine Az rfl .free rfl ?_; refine By rfl rfl rfl rfl .free ?_; refine Ab ?_; refine Cu (fun w h => h.f2) (Bu ?_); intro hz
 have hf := hf.mono hz
 refine Am (.c rfl .nil) ?_; refine ⟨_, _, hle.trans hz, fun w h => Mem.sub (L' := (b0, _) :: (A2 9 (y1.ns.map sv) y1.B1 ++ (A2 68 y1.xs y1.B2 ++ L))) A7 h, _, y1, rfl, .mk' rfl (.cons (hf.as 0 (.node Gy []) Aa rfl) (.cons (hr_1.mono hz) (.cons (hr_2.mono hz) (.cons (hr_3.mono hz) (.nil))))) (fun y hy => by cases hy; exact A9 (xs := [_, _, _, _, _, _, _, _])) Ae hcc Bf Bf, hy1.mono ((e2.trans e3).trans hz), by simpa using hy1n, by simpa using hy1s, ?_⟩
 unfold MS.own P9; rw [hu1, hu2]
set_option maxHeartbeats 1000000 in
theorem Afl {N : Nat} (ihn : Rb N) {z : As} {a b : Ex} {I : Heap} {cs : List Value} (hlt : SizeOf.sizeOf (Ex.lt z a b) < N + 1) (h : Rep I (Ex.lt z a b).tree cs) (hok : (Ex.lt z a b).ok = true) {ot : Option Addr} {tk : List As} {ct : Nat} (htk : Strs I ot tk ct) (b0 n : Nat) (hn : n + (Ex.lt z a b).size + tk.length ≤ 900 + E3 121 tk n) (x : MS) (hx : x.ok I) (hxl : x.ns.length + (Ex.lt z a b).size ≤ 100000) (hxe : x.es.length = x.ns.length) (L : Bj) :
  Fun Tryz.prog 171 [.pointer (some ⟨b0, 0, none⟩), .agg cs.toArray] I (x.own b0 ot tk ct n L) (MP b0 ot tk ct x ((Ex.lt z a b).mk tk n) L) := by
 obtain ⟨oa, c, oaf, cf1, rfl, hf, hcl, hcs⟩ := h.cells
 have hle : HLe I I := .refl _
 have hh0 := Bp 121 tk n
 have hpos : 0 < (Ex.lt z a b).tree.parts.length := by show 0 < 4; decide
 obtain ⟨xa, rfl⟩ : ∃ xa, oa = some xa := ⟨_, En hf.nil hpos⟩
 have hlen : (Ex.lt z a b).tree.parts.length = 4 := rfl
 have hp0 : ((Ex.lt z a b).tree.pt 0).atom = Dz := rfl
 simp only [Ex.lt.sizeOf_spec] at hlt
 simp only [Ex.ok, Bool.and_eq_true, decide_eq_true_eq] at hok
 simp only [Ex.size] at hn hxl
 simp only [Ex.mk]
 unfold MS.own
 refine Ao Ae ?_; refine Se rfl ?_; refine Cm rfl rfl .free rfl ?_; intro b3; refine A1 .free rfl ?_; intro b4; refine Ab (Ah (Se rfl (Oh rfl ?_))); refine Bv rfl .free rfl ?_; refine Od rfl rfl rfl (Ab ?_)
 first | refine Ez rfl Ek ?_ | refine Ey rfl Ek ?_ | refine A0 Ar ?_
 refine Ak (Se rfl (Oh rfl ?_)); refine Bv rfl .free rfl ?_; refine Oa rfl (Ab (Se rfl ?_)); refine Dl .free rfl ?_; intro b15; refine Om rfl ?_; refine D1 (B := some (b15, [])) (xs := []) (ys := D7 oaf cf1 0 (Ex.lt z a b).tree.parts) (m := 0) (c := 0) Av Ac rfl rfl ⟨rfl, Nat.le_refl _, rfl⟩ (fun _ h => h) Ff (fun a ha => by cases ha; exact (hcs _ rfl).reads) Ae hcl.plain hpos Ad Aa Ad .free rfl ?_; intro bc sp cc hB'
 have hcc : (Ex.lt z a b).tree.parts.length ≤ cc := by have := hB'.2.1; omega
 refine Gl (t := 17) (v' := .slice (some ⟨bc, 0, none⟩) (Ex.lt z a b).tree.parts.length cc) rfl Hc ?_
 simp only [List.nil_append]
 simp only [show (Ex.lt z a b).tree.parts = [.node Dz [], .node z [], a.tree, b.tree] from rfl, D7, List.cons_append, List.nil_append]
 refine Cd rfl rfl rfl .free rfl ?_; refine A1 .free rfl ?_; intro b6; refine By rfl rfl rfl rfl .free ?_; refine Ab (Ah (Se rfl (Om rfl ?_)))
 first | refine Bs rfl rfl 0 rfl .free rfl ?_ | refine Bt rfl rfl 0 rfl .free rfl ?_
 refine Bh rfl .free rfl ?_; refine Gj rfl .free rfl ?_; refine Ab (Aq (Se rfl (Od rfl rfl rfl (Oa rfl (Ab ?_)))))
 first | refine K3 rfl (by rw [hp0]; rfl) ?_ | refine K2 rfl (by rw [hp0]; rfl) ?_ | refine B9 Ar ?_
 refine Ah ?_
 have g1 := a.mk_g tk n
 have mh1 := a.mk_hits tk n
 have ml1 := a.mk_len tk n
 have ml2 := b.mk_len tk (a.mk tk n).n
 have mo1 := Ex.mk_ok (tk := tk) (n := n) hok.1.2 Aa
 refine Al rfl (Om rfl (Om rfl ?_))
 first | refine Bs rfl rfl 2 rfl .free rfl ?_ | refine Bt rfl rfl 2 rfl .free rfl ?_
 refine Gv rfl .free rfl ?_; refine C4 (fun w h => Mem.mv4 h) ?_; refine Ca rfl (ihn Aa (hf.as 2 a.tree Aa rfl) hok.1.2 htk b0 n Aa x hx Aa hxe _) ?_; rintro _ J1 _ e1 ⟨cs1, y, rfl, hr, hy, hyn, hys, rfl⟩; obtain ⟨o1, k1, _, rfl, -⟩ := hr.open
 have hyl : y.ns.length = x.ns.length + (a.mk tk n).ns.length := by rw [hyn]; simp
 have hyl2 : y.es.length = y.ns.length := by rw [hys, hyn]; simp [hxe]
 have hzl := Ex.name_len hok.1.1
 obtain ⟨a1, k2, hu1⟩ := Hj hy.b1; obtain ⟨a2, k3, hu2⟩ := Hj hy.b2
 have hf := hf.mono e1
 have htk := htk.mono e1
 have hle := hle.trans e1
 unfold MS.own
 refine C4 (fun w h => Mem.vm4 h) ?_; rw [hu1, hu2]
 unfold P9
 refine A1 .free rfl ?_; intro b7; refine By rfl rfl rfl rfl .free ?_; refine Ab (Ah ?_); refine C9 fun hlr => ?_
 refine Ah3 14 rfl rfl ?_; refine Da 0 rfl (Ai rfl) ?_; refine Da 1 rfl (Ai rfl) ?_; refine Da 2 rfl (Cb rfl) ?_
 first | refine Da 3 rfl (Aj rfl) ?_ | refine Da 3 rfl (A4 rfl) ?_
 refine Dt 4 [13] rfl (P8 rfl) ?_; refine Da 5 rfl (Ai rfl) ?_
 first | refine Da 6 rfl (Bc rfl rfl 1 rfl) ?_ | refine Da 6 rfl (Bd rfl rfl 1 rfl) ?_
 refine Da 7 rfl (A4 rfl) ?_; refine Dt 8 [13] rfl (Kb rfl) ?_; refine Fg 9 rfl Af rfl rfl rfl Ac Ac Ac Ad Ad Ac .free rfl (.inr Au) ?_; intro b39; refine Cg 10 (B := y.B1) (xs := y.ns.map sv) (ys := [sv z]) (m := y.ns.length) (c := y.c1) rfl Af rfl Av Ac (by rw [hu1]; rfl) rfl hy.b1 (fun _ h => h.u7) Ac (fun a ha => by cases ha; exact Bw (.head _) Ac) Ae Ac Ad Aa Ad .free rfl (fun _ => .inr Au) ?_; intro B1 c2 hB1; obtain ⟨bb, sb, rfl⟩ : ∃ bb sb, B1 = some (bb, sb) := by
  cases B1 with
  | none => exact absurd hB1.1 Ae
  | some z => exact ⟨z.1, z.2, rfl⟩
 simp only [A2, List.cons_append, List.nil_append]
 refine Da 11 rfl (Cb rfl) ?_
 first | refine Da 12 rfl (Aj rfl) ?_ | refine Da 12 rfl (A4 rfl) ?_
 refine Dx 13 rfl rfl rfl rfl ?_ (hu := u7); refine A5 Af ?_; refine Ah ?_; refine Ah2 13 rfl rfl ?_; refine Da 0 rfl (Ai rfl) ?_; refine Da 1 rfl (Cb rfl) ?_
 first | refine Da 2 rfl (Aj rfl) ?_ | refine Da 2 rfl (A4 rfl) ?_
 refine Dt 4 [9] rfl (Ea rfl) ?_; refine Gd 3 6 Af ?_ ?_
 ·skip
  refine Ri 3 rfl rfl (Fs rfl (by first | exact El (.tail _ m6) Ac rfl | exact El (.tail _ (.tail _ m6)) Ac rfl)) .free rfl (.inr Au) ?_; refine Da 5 rfl (Fd rfl) ?_; refine Fg 6 rfl Af rfl rfl rfl Ac Ac Ac Ad Ad Ac .free rfl (.inr Au) ?_; intro b49; refine Cg 7 (B := y.B2) (xs := y.xs) (ys := [.string (str []), .slice none 0 0]) (m := y.es.length) (c := y.c2) rfl Af rfl Av Ac (by rw [hu2]; rfl) rfl hy.b2 (fun _ h => h.u9) Ac (fun a ha => by cases ha; exact Bw (.head _) Ac) Ae Ac Ad Aa Ad .free rfl (fun _ => .inr Au) ?_; intro B2 c3 hB2; obtain ⟨bq, sq, rfl⟩ : ∃ bq sq, B2 = some (bq, sq) := by
   cases B2 with
   | none => exact absurd hB2.1 Ae
   | some z => exact ⟨z.1, z.2, rfl⟩
  have hxl2 := hy.rep.length
  rw [List.length_map] at hxl2
  simp only [A2, List.cons_append, List.nil_append, List.append_assoc]
  refine Da 8 rfl (F5 rfl rfl _ rfl Aa rfl) ?_; refine G8 (t := 51) rfl (congrArg (fun a => Value.pointer (some a)) (Pf bq (y.es.length * 2))) ?_; refine Da 10 rfl (Cb rfl) ?_
  first | refine Da 11 rfl (Aj rfl) ?_ | refine Da 11 rfl (A4 rfl) ?_
  refine Gd 9 12 Af ?_ ?_
  ·skip
   refine S4 9 rfl rfl rfl rfl rfl rfl .free (.inl Af) ?_ (hu := u0) (hus := Iv (xs := y.xs) (zs := [_, _]) (sp := sq) Aa rfl); refine Agh 12 rfl Af rfl rfl rfl rfl rfl .free (.inr Au) ?_ (hu := u9); refine A5 Af ?_; refine Ah ?_
   have hy2 : MS.ok J1 ⟨y.ns ++ [z], y.es ++ [(a.mk tk n).e], some (bb, sb), c2, y.xs ++ [.string (str (a.mk tk n).e.tree.atom), .slice o1 (a.mk tk n).e.tree.parts.length k1], some (bq, sq), c3⟩ := by
    refine ⟨by simpa using hB1, ⟨by have := hB2.1; simp at this ⊢; omega, by simpa using hB2.2.1, by simpa using hB2.2.2⟩, by simpa using hy.rep.append (.one hr), ?_⟩; intro s hs
    rcases List.mem_append.1 hs with hs | hs
    ·exact hy.each s hs
    ·rw [List.mem_singleton.1 hs]; exact hzl
   refine Al rfl (Om rfl (Om rfl ?_))
   first | refine Bs rfl rfl 3 rfl .free rfl ?_ | refine Bt rfl rfl 3 rfl .free rfl ?_
   refine Gv rfl .free rfl ?_; refine C4 (I' := J1) (L' := MS.own b0 ot tk ct (a.mk tk n).n ⟨y.ns ++ [z], y.es ++ [(a.mk tk n).e], some (bb, sb), c2, y.xs ++ [.string (str (a.mk tk n).e.tree.atom), .slice o1 (a.mk tk n).e.tree.parts.length k1], some (bq, sq), c3⟩ ((b4, .cells [.string (str []), .slice none 0 0].toArray 68 (0, 0)) :: L)) (fun w h => ?_) ?_
   ·have h2 := (Mem.sub (L' := (bq, _) :: (bb, _) :: (b4, _) :: (b0, _) :: L) A7 h).f3.sw
    simpa only [MS.own, P9, A2, Bm, List.map_append, List.map_cons, List.map_nil, List.append_assoc, List.length_append, List.length_cons, List.length_nil, List.cons_append, List.nil_append] using h2
   refine Ca rfl (ihn Aa (hf.as 3 b.tree Aa rfl) hok.2 htk b0 (a.mk tk n).n Aa _ hy2 Ht (by simp [hyl2]) _) ?_; rintro _ J2 _ e2 ⟨cs2, y2, rfl, hr2, hy3, hyn2, hys2, rfl⟩; obtain ⟨o2, k4, _, rfl, -⟩ := hr2.open
   have hle := hle.trans e2
   unfold MS.own
   refine C4 (fun w h => Mem.vm1 h) ?_; refine By rfl rfl rfl rfl .free ?_; refine Ab ?_; refine Am (.c rfl .nil) ?_; refine ⟨J2, _, hle, fun w h => h.drop, _, y2, rfl, hr2, hy3, ?_, ?_, rfl⟩
   ·simp only [hyn2, hyn, List.map_append, List.map_cons, List.append_assoc, List.cons_append, List.nil_append]
   ·simp only [hys2, hys, List.map_append, List.map_cons, List.append_assoc, List.cons_append, List.nil_append]
  ·skip
   refine S4 12 rfl rfl rfl rfl rfl rfl .free (.inr Au) ?_ (hu := u9); refine Dx 9 rfl rfl rfl rfl ?_ (hu := u0) (hus := Iv (xs := y.xs) (zs := [_, _]) (sp := sq) Aa rfl); refine A5 Af ?_; refine Ah ?_
   have hy2 : MS.ok J1 ⟨y.ns ++ [z], y.es ++ [(a.mk tk n).e], some (bb, sb), c2, y.xs ++ [.string (str (a.mk tk n).e.tree.atom), .slice o1 (a.mk tk n).e.tree.parts.length k1], some (bq, sq), c3⟩ := by
    refine ⟨by simpa using hB1, ⟨by have := hB2.1; simp at this ⊢; omega, by simpa using hB2.2.1, by simpa using hB2.2.2⟩, by simpa using hy.rep.append (.one hr), ?_⟩; intro s hs
    rcases List.mem_append.1 hs with hs | hs
    ·exact hy.each s hs
    ·rw [List.mem_singleton.1 hs]; exact hzl
   refine Al rfl (Om rfl (Om rfl ?_))
   first | refine Bs rfl rfl 3 rfl .free rfl ?_ | refine Bt rfl rfl 3 rfl .free rfl ?_
   refine Gv rfl .free rfl ?_; refine C4 (I' := J1) (L' := MS.own b0 ot tk ct (a.mk tk n).n ⟨y.ns ++ [z], y.es ++ [(a.mk tk n).e], some (bb, sb), c2, y.xs ++ [.string (str (a.mk tk n).e.tree.atom), .slice o1 (a.mk tk n).e.tree.parts.length k1], some (bq, sq), c3⟩ ((b4, .cells [.string (str []), .slice none 0 0].toArray 68 (0, 0)) :: L)) (fun w h => ?_) ?_
   ·have h2 := (Mem.sub (L' := (bq, _) :: (bb, _) :: (b4, _) :: (b0, _) :: L) A7 h).f3.sw
    simpa only [MS.own, P9, A2, Bm, List.map_append, List.map_cons, List.map_nil, List.append_assoc, List.length_append, List.length_cons, List.length_nil, List.cons_append, List.nil_append] using h2
   refine Ca rfl (ihn Aa (hf.as 3 b.tree Aa rfl) hok.2 htk b0 (a.mk tk n).n Aa _ hy2 Ht (by simp [hyl2]) _) ?_; rintro _ J2 _ e2 ⟨cs2, y2, rfl, hr2, hy3, hyn2, hys2, rfl⟩; obtain ⟨o2, k4, _, rfl, -⟩ := hr2.open
   have hle := hle.trans e2
   unfold MS.own
   refine C4 (fun w h => Mem.vm1 h) ?_; refine By rfl rfl rfl rfl .free ?_; refine Ab ?_; refine Am (.c rfl .nil) ?_; refine ⟨J2, _, hle, fun w h => h.drop, _, y2, rfl, hr2, hy3, ?_, ?_, rfl⟩
   ·simp only [hyn2, hyn, List.map_append, List.map_cons, List.append_assoc, List.cons_append, List.nil_append]
   ·simp only [hys2, hys, List.map_append, List.map_cons, List.append_assoc, List.cons_append, List.nil_append]
 ·skip
  refine Ep 6 rfl rfl rfl rfl Ac Ac Ac Ad Ad Ac .free rfl (.inr Au) ?_; intro b49; refine Sm 3 rfl Af rfl (Fs rfl (by first | exact El (.tail _ m6) Ac rfl | exact El (.tail _ (.tail _ m6)) Ac rfl)) .free rfl (.inr Au) ?_; refine Da 5 rfl (Fd rfl) ?_; refine Cg 7 (B := y.B2) (xs := y.xs) (ys := [.string (str []), .slice none 0 0]) (m := y.es.length) (c := y.c2) rfl Af rfl Av Ac (by rw [hu2]; rfl) rfl hy.b2 (fun _ h => h.u9) Ac (fun a ha => by cases ha; exact Bw (.head _) Ac) Ae Ac Ad Aa Ad .free rfl (fun _ => .inr Au) ?_; intro B2 c3 hB2; obtain ⟨bq, sq, rfl⟩ : ∃ bq sq, B2 = some (bq, sq) := by
   cases B2 with
   | none => exact absurd hB2.1 Ae
   | some z => exact ⟨z.1, z.2, rfl⟩
  have hxl2 := hy.rep.length
  rw [List.length_map] at hxl2
  simp only [A2, List.cons_append, List.nil_append, List.append_assoc]
  refine Da 8 rfl (F5 rfl rfl _ rfl Aa rfl) ?_; refine G8 (t := 51) rfl (congrArg (fun a => Value.pointer (some a)) (Pf bq (y.es.length * 2))) ?_; refine Da 10 rfl (Cb rfl) ?_
  first | refine Da 11 rfl (Aj rfl) ?_ | refine Da 11 rfl (A4 rfl) ?_
  refine Gd 9 12 Af ?_ ?_
  ·skip
   refine S4 9 rfl rfl rfl rfl rfl rfl .free (.inl Af) ?_ (hu := u0) (hus := Iv (xs := y.xs) (zs := [_, _]) (sp := sq) Aa rfl); refine Agh 12 rfl Af rfl rfl rfl rfl rfl .free (.inr Au) ?_ (hu := u9); refine A5 Af ?_; refine Ah ?_
   have hy2 : MS.ok J1 ⟨y.ns ++ [z], y.es ++ [(a.mk tk n).e], some (bb, sb), c2, y.xs ++ [.string (str (a.mk tk n).e.tree.atom), .slice o1 (a.mk tk n).e.tree.parts.length k1], some (bq, sq), c3⟩ := by
    refine ⟨by simpa using hB1, ⟨by have := hB2.1; simp at this ⊢; omega, by simpa using hB2.2.1, by simpa using hB2.2.2⟩, by simpa using hy.rep.append (.one hr), ?_⟩; intro s hs
    rcases List.mem_append.1 hs with hs | hs
    ·exact hy.each s hs
    ·rw [List.mem_singleton.1 hs]; exact hzl
   refine Al rfl (Om rfl (Om rfl ?_))
   first | refine Bs rfl rfl 3 rfl .free rfl ?_ | refine Bt rfl rfl 3 rfl .free rfl ?_
   refine Gv rfl .free rfl ?_; refine C4 (I' := J1) (L' := MS.own b0 ot tk ct (a.mk tk n).n ⟨y.ns ++ [z], y.es ++ [(a.mk tk n).e], some (bb, sb), c2, y.xs ++ [.string (str (a.mk tk n).e.tree.atom), .slice o1 (a.mk tk n).e.tree.parts.length k1], some (bq, sq), c3⟩ ((b4, .cells [.string (str []), .slice none 0 0].toArray 68 (0, 0)) :: L)) (fun w h => ?_) ?_
   ·have h2 := (Mem.sub (L' := (bq, _) :: (bb, _) :: (b4, _) :: (b0, _) :: L) A7 h).f3.sw
    simpa only [MS.own, P9, A2, Bm, List.map_append, List.map_cons, List.map_nil, List.append_assoc, List.length_append, List.length_cons, List.length_nil, List.cons_append, List.nil_append] using h2
   refine Ca rfl (ihn Aa (hf.as 3 b.tree Aa rfl) hok.2 htk b0 (a.mk tk n).n Aa _ hy2 Ht (by simp [hyl2]) _) ?_; rintro _ J2 _ e2 ⟨cs2, y2, rfl, hr2, hy3, hyn2, hys2, rfl⟩; obtain ⟨o2, k4, _, rfl, -⟩ := hr2.open
   have hle := hle.trans e2
   unfold MS.own
   refine C4 (fun w h => Mem.vm1 h) ?_; refine By rfl rfl rfl rfl .free ?_; refine Ab ?_; refine Am (.c rfl .nil) ?_; refine ⟨J2, _, hle, fun w h => h.drop, _, y2, rfl, hr2, hy3, ?_, ?_, rfl⟩
   ·simp only [hyn2, hyn, List.map_append, List.map_cons, List.append_assoc, List.cons_append, List.nil_append]
   ·simp only [hys2, hys, List.map_append, List.map_cons, List.append_assoc, List.cons_append, List.nil_append]
  ·skip
   refine S4 12 rfl rfl rfl rfl rfl rfl .free (.inr Au) ?_ (hu := u9); refine Dx 9 rfl rfl rfl rfl ?_ (hu := u0) (hus := Iv (xs := y.xs) (zs := [_, _]) (sp := sq) Aa rfl); refine A5 Af ?_; refine Ah ?_
   have hy2 : MS.ok J1 ⟨y.ns ++ [z], y.es ++ [(a.mk tk n).e], some (bb, sb), c2, y.xs ++ [.string (str (a.mk tk n).e.tree.atom), .slice o1 (a.mk tk n).e.tree.parts.length k1], some (bq, sq), c3⟩ := by
    refine ⟨by simpa using hB1, ⟨by have := hB2.1; simp at this ⊢; omega, by simpa using hB2.2.1, by simpa using hB2.2.2⟩, by simpa using hy.rep.append (.one hr), ?_⟩; intro s hs
    rcases List.mem_append.1 hs with hs | hs
    ·exact hy.each s hs
    ·rw [List.mem_singleton.1 hs]; exact hzl
   refine Al rfl (Om rfl (Om rfl ?_))
   first | refine Bs rfl rfl 3 rfl .free rfl ?_ | refine Bt rfl rfl 3 rfl .free rfl ?_
   refine Gv rfl .free rfl ?_; refine C4 (I' := J1) (L' := MS.own b0 ot tk ct (a.mk tk n).n ⟨y.ns ++ [z], y.es ++ [(a.mk tk n).e], some (bb, sb), c2, y.xs ++ [.string (str (a.mk tk n).e.tree.atom), .slice o1 (a.mk tk n).e.tree.parts.length k1], some (bq, sq), c3⟩ ((b4, .cells [.string (str []), .slice none 0 0].toArray 68 (0, 0)) :: L)) (fun w h => ?_) ?_
   ·have h2 := (Mem.sub (L' := (bq, _) :: (bb, _) :: (b4, _) :: (b0, _) :: L) A7 h).f3.sw
    simpa only [MS.own, P9, A2, Bm, List.map_append, List.map_cons, List.map_nil, List.append_assoc, List.length_append, List.length_cons, List.length_nil, List.cons_append, List.nil_append] using h2
   refine Ca rfl (ihn Aa (hf.as 3 b.tree Aa rfl) hok.2 htk b0 (a.mk tk n).n Aa _ hy2 Ht (by simp [hyl2]) _) ?_; rintro _ J2 _ e2 ⟨cs2, y2, rfl, hr2, hy3, hyn2, hys2, rfl⟩; obtain ⟨o2, k4, _, rfl, -⟩ := hr2.open
   have hle := hle.trans e2
   unfold MS.own
   refine C4 (fun w h => Mem.vm1 h) ?_; refine By rfl rfl rfl rfl .free ?_; refine Ab ?_; refine Am (.c rfl .nil) ?_; refine ⟨J2, _, hle, fun w h => h.drop, _, y2, rfl, hr2, hy3, ?_, ?_, rfl⟩
   ·simp only [hyn2, hyn, List.map_append, List.map_cons, List.append_assoc, List.cons_append, List.nil_append]
   ·simp only [hys2, hys, List.map_append, List.map_cons, List.append_assoc, List.cons_append, List.nil_append]
set_option maxHeartbeats 1000000 in
theorem Afk {N : Nat} (ihn : Rb N) {h1 z : As} {s u : Ty} {b : Ex} {I : Heap} {cs : List Value} (hlt : SizeOf.sizeOf (Ex.fn h1 z s u b) < N + 1) (h : Rep I (Ex.fn h1 z s u b).tree cs) (hok : (Ex.fn h1 z s u b).ok = true) {ot : Option Addr} {tk : List As} {ct : Nat} (htk : Strs I ot tk ct) (b0 n : Nat) (hn : n + (Ex.fn h1 z s u b).size + tk.length ≤ 900 + E3 121 tk n) (x : MS) (hx : x.ok I) (hxl : x.ns.length + (Ex.fn h1 z s u b).size ≤ 100000) (hxe : x.es.length = x.ns.length) (L : Bj) :
  Fun Tryz.prog 171 [.pointer (some ⟨b0, 0, none⟩), .agg cs.toArray] I (x.own b0 ot tk ct n L) (MP b0 ot tk ct x ((Ex.fn h1 z s u b).mk tk n) L) := by
 obtain ⟨oa, c, oaf, cf1, rfl, hf, hcl, hcs⟩ := h.cells
 have hle : HLe I I := .refl _
 have hh0 := Bp 121 tk n
 have hpos : 0 < (Ex.fn h1 z s u b).tree.parts.length := by show 0 < 6; decide
 obtain ⟨xa, rfl⟩ : ∃ xa, oa = some xa := ⟨_, En hf.nil hpos⟩
 have hlen : (Ex.fn h1 z s u b).tree.parts.length = 6 := rfl
 have hp0 : ((Ex.fn h1 z s u b).tree.pt 0).atom = Dk := rfl
 simp only [Ex.fn.sizeOf_spec] at hlt
 simp only [Ex.ok, Bool.and_eq_true, decide_eq_true_eq] at hok
 simp only [Ex.size] at hn hxl
 simp only [Ex.mk]
 unfold MS.own
 refine Ao Ae ?_; refine Se rfl ?_; refine Cm rfl rfl .free rfl ?_; intro b3; refine A1 .free rfl ?_; intro b4; refine Ab (Ah (Se rfl (Oh rfl ?_))); refine Bv rfl .free rfl ?_; refine Od rfl rfl rfl (Ab ?_)
 first | refine Ez rfl Ek ?_ | refine Ey rfl Ek ?_ | refine A0 Ar ?_
 refine Ak (Se rfl (Oh rfl ?_)); refine Bv rfl .free rfl ?_; refine Oa rfl (Ab (Se rfl ?_)); refine Dl .free rfl ?_; intro b15; refine Om rfl ?_; refine D1 (B := some (b15, [])) (xs := []) (ys := D7 oaf cf1 0 (Ex.fn h1 z s u b).tree.parts) (m := 0) (c := 0) Av Ac rfl rfl ⟨rfl, Nat.le_refl _, rfl⟩ (fun _ h => h) Ff (fun a ha => by cases ha; exact (hcs _ rfl).reads) Ae hcl.plain hpos Ad Aa Ad .free rfl ?_; intro bc sp cc hB'
 have hcc : (Ex.fn h1 z s u b).tree.parts.length ≤ cc := by have := hB'.2.1; omega
 refine Gl (t := 17) (v' := .slice (some ⟨bc, 0, none⟩) (Ex.fn h1 z s u b).tree.parts.length cc) rfl Hc ?_
 simp only [List.nil_append]
 simp only [show (Ex.fn h1 z s u b).tree.parts = [.node Dk [], .node h1 [], .node z [], s.tree, u.tree, b.tree] from rfl, D7, List.cons_append, List.nil_append]
 refine Cd rfl rfl rfl .free rfl ?_; refine A1 .free rfl ?_; intro b6; refine By rfl rfl rfl rfl .free ?_; refine Ab (Ah (Se rfl (Om rfl ?_)))
 first | refine Bs rfl rfl 0 rfl .free rfl ?_ | refine Bt rfl rfl 0 rfl .free rfl ?_
 refine Bh rfl .free rfl ?_; refine Gj rfl .free rfl ?_; refine Ab (Aq (Ah ?_)); obtain ⟨a1, k2, hu1⟩ := Hj hx.b1; obtain ⟨a2, k3, hu2⟩ := Hj hx.b2; rw [hu1, hu2]
 unfold P9
 refine Al rfl (Od rfl rfl rfl (Oa rfl (Ab ?_)))
 first | refine Ez rfl Gf ?_ | refine Ey rfl Gf ?_ | refine A0 Ar ?_
 refine Se rfl (Od rfl rfl rfl (Oa rfl (Ab ?_)))
 first | refine K3 rfl (by rw [hp0]; rfl) ?_ | refine K2 rfl (by rw [hp0]; rfl) ?_ | refine B9 Ar ?_
 refine Ah ?_; refine C9 fun hlr => ?_
 have g1 := b.mk_g tk n
 have mh1 := b.mk_hits tk n
 have hz1 := Bp 121 tk n
 refine Cu (fun w h => h.f4) ?_; refine Hl 9 rfl rfl ?_; refine Da 0 rfl (Aj rfl) ?_; refine Dt 1 [8] rfl (Bo rfl) ?_; refine Da 2 rfl (Ai rfl) ?_; refine Da 3 rfl (Ai rfl) ?_
 first | refine Da 4 rfl (Bc rfl rfl 5 rfl) ?_ | refine Da 4 rfl (Bd rfl rfl 5 rfl) ?_
 refine Dt 5 [8] rfl (C5 rfl) ?_; refine Dc 6 rfl rfl (Mj ihn Aa (hf.as 5 b.tree Aa rfl) hok.2 htk b0 n Aa Aa _) ?_; rintro _ J1 _ e1 ⟨cs1, rfl, hr_1, rfl⟩; obtain ⟨o1, k1, _, rfl, -⟩ := hr_1.open
 have hlr := hlr.trans e1
 have hf := hf.mono e1
 have htk := htk.mono e1
 have hle := hle.trans e1
 unfold P9
 refine Hx ?_
 first | refine Da 7 rfl (Bc rfl rfl 5 rfl) ?_ | refine Da 7 rfl (Bd rfl rfl 5 rfl) ?_
 refine Dx 8 rfl rfl rfl rfl ?_; refine A5 Af ?_; refine Se rfl ?_; refine Az rfl .free rfl ?_; refine By rfl rfl rfl rfl .free ?_; refine Ab ?_; refine Cu (fun w h => h.f2) (Bu ?_); intro hz
 have hf := hf.mono hz
 refine Am (.c rfl .nil) ?_; refine ⟨_, _, hle.trans hz, fun w h => Mem.sub (L' := (b0, _) :: (A2 9 (x.ns.map sv) x.B1 ++ (A2 68 x.xs x.B2 ++ L))) A7 h, _, x, rfl, .mk' rfl (.cons (hf.as 0 (.node Dk []) Aa rfl) (.cons (hf.as 1 (.node h1 []) Aa rfl) (.cons (hf.as 2 (.node z []) Aa rfl) (.cons (hf.as 3 s.tree Aa rfl) (.cons (hf.as 4 u.tree Aa rfl) (.cons (hr_1.mono hz) (.nil))))))) (fun y hy => by cases hy; exact A9 (xs := [_, _, _, _, _, _, _, _, _, _, _, _])) Ae hcc Bf Bf, hx.mono (hle.trans hz), by simp, by simp, ?_⟩
 unfold MS.own P9; rw [hu1, hu2]
set_option maxHeartbeats 1000000 in
theorem Afm {N : Nat} (ihn : Rb N) {o : U2} {a : Ex} {I : Heap} {cs : List Value} (hlt : SizeOf.sizeOf (Ex.un o a) < N + 1) (h : Rep I (Ex.un o a).tree cs) (hok : (Ex.un o a).ok = true) {ot : Option Addr} {tk : List As} {ct : Nat} (htk : Strs I ot tk ct) (b0 n : Nat) (hn : n + (Ex.un o a).size + tk.length ≤ 900 + E3 121 tk n) (x : MS) (hx : x.ok I) (hxl : x.ns.length + (Ex.un o a).size ≤ 100000) (hxe : x.es.length = x.ns.length) (L : Bj) :
  Fun Tryz.prog 171 [.pointer (some ⟨b0, 0, none⟩), .agg cs.toArray] I (x.own b0 ot tk ct n L) (MP b0 ot tk ct x ((Ex.un o a).mk tk n) L) := by
 obtain ⟨oa, c, oaf, cf1, rfl, hf, hcl, hcs⟩ := h.cells
 have hle : HLe I I := .refl _
 have hh0 := Bp 121 tk n
 have hpos : 0 < (Ex.un o a).tree.parts.length := by show 0 < 2; decide
 obtain ⟨xa, rfl⟩ : ∃ xa, oa = some xa := ⟨_, En hf.nil hpos⟩
 have hlen : (Ex.un o a).tree.parts.length = 2 := rfl
 have hp0 : ((Ex.un o a).tree.pt 0).atom = o.txt := rfl
 simp only [Ex.un.sizeOf_spec] at hlt
 have hok : a.ok = true := hok
 simp only [Ex.size] at hn hxl
 simp only [Ex.mk]
 unfold MS.own
 refine Ao Ae ?_; refine Se rfl ?_; refine Cm rfl rfl .free rfl ?_; intro b3; refine A1 .free rfl ?_; intro b4; refine Ab (Ah (Se rfl (Oh rfl ?_))); refine Bv rfl .free rfl ?_; refine Od rfl rfl rfl (Ab ?_)
 first | refine Ez rfl Ek ?_ | refine Ey rfl Ek ?_ | refine A0 Ar ?_
 refine Ak (Se rfl (Oh rfl ?_)); refine Bv rfl .free rfl ?_; refine Oa rfl (Ab (Se rfl ?_)); refine Dl .free rfl ?_; intro b15; refine Om rfl ?_; refine D1 (B := some (b15, [])) (xs := []) (ys := D7 oaf cf1 0 (Ex.un o a).tree.parts) (m := 0) (c := 0) Av Ac rfl rfl ⟨rfl, Nat.le_refl _, rfl⟩ (fun _ h => h) Ff (fun a ha => by cases ha; exact (hcs _ rfl).reads) Ae hcl.plain hpos Ad Aa Ad .free rfl ?_; intro bc sp cc hB'
 have hcc : (Ex.un o a).tree.parts.length ≤ cc := by have := hB'.2.1; omega
 refine Gl (t := 17) (v' := .slice (some ⟨bc, 0, none⟩) (Ex.un o a).tree.parts.length cc) rfl Hc ?_
 simp only [List.nil_append]
 simp only [show (Ex.un o a).tree.parts = [.node o.txt [], a.tree] from rfl, D7, List.cons_append, List.nil_append]
 refine Cd rfl rfl rfl .free rfl ?_; refine A1 .free rfl ?_; intro b6; refine By rfl rfl rfl rfl .free ?_; refine Ab (Ah (Se rfl (Om rfl ?_)))
 first | refine Bs rfl rfl 0 rfl .free rfl ?_ | refine Bt rfl rfl 0 rfl .free rfl ?_
 refine Bh rfl .free rfl ?_; refine Gj rfl .free rfl ?_; refine Ab (Aq (Se rfl (Od rfl rfl rfl (Oa rfl (Ab ?_)))))
 first | refine Ez rfl Ej ?_ | refine Ey rfl Ej ?_ | refine A0 Ar ?_
 refine Se rfl (Od rfl rfl rfl (Oa rfl (Ab ?_)))
 first | refine Ez rfl Ej ?_ | refine Ey rfl Ej ?_ | refine A0 Ar ?_
 refine Se rfl (Od rfl rfl rfl (Oa rfl (Ab ?_)))
 first | refine Ez rfl Ej ?_ | refine Ey rfl Ej ?_ | refine A0 Ar ?_
 refine Ak (Ap (Ah (Se rfl (Oa rfl (Ab (Aq ?_)))))); refine Ee ?_; refine Ah (Se rfl (Om rfl (Om rfl (On rfl (Oc rfl rfl rfl (Ab ?_)))))); refine B6 rfl Ay ?_; refine Ak (Ah (Aq ?_)); refine C9 fun hlr => ?_
 have g1 := a.mk_g tk n
 have mh1 := a.mk_hits tk n
 have gp1 := MK.pt_g tk _ g1.1 g1.2
 have mp1 := MK.pt_hits tk _ mh1
 have lp1 := MK.pt_len tk _ (a.mk_len tk n)
 have hz1 := Bp 121 tk n
 refine Ae6 11 rfl rfl ?_; refine Da 0 rfl (Aj rfl) ?_; refine Dt 1 [10] rfl (Bo rfl) ?_; refine Da 2 rfl (Ai rfl) ?_; refine Da 3 rfl (Ai rfl) ?_; refine Da 4 rfl (Ai rfl) ?_; refine Da 5 rfl (Ai rfl) ?_
 first | refine Da 6 rfl (Bc rfl rfl _ rfl) ?_ | refine Da 6 rfl (Bd rfl rfl _ rfl) ?_
 refine Dt 7 [10] rfl (C5 rfl) ?_; refine Bn (fun w h => Mem.mv4 h) ?_; refine Dc 8 rfl rfl (Mi ihn Aa (hf.as 1 a.tree Aa rfl) hok htk b0 n Aa x hx Aa hxe _) ?_; rintro _ J1 _ e1 ⟨cs1, y1, rfl, hr_1, hy1, hy1n, hy1s, rfl⟩; obtain ⟨o1, k1, _, rfl, -⟩ := hr_1.open
 have hy1l : y1.ns.length = x.ns.length + ((a.mk tk n).pt tk).ns.length := by rw [hy1n]; simp
 have hy1e : y1.es.length = y1.ns.length := by rw [hy1s, hy1n]; simp [hxe]
 have hlr := hlr.trans e1
 have hf := hf.mono e1
 have htk := htk.mono e1
 have hle := hle.trans e1
 unfold MS.own
 refine Hx ?_; refine Bn (fun w h => Mem.vm4 h) ?_
 first | refine Da 9 rfl (Bc rfl rfl _ rfl) ?_ | refine Da 9 rfl (Bd rfl rfl _ rfl) ?_
 refine Dx 10 rfl rfl rfl rfl ?_; refine A5 Af ?_; refine Ap (Al rfl (Om rfl ?_)); refine Or rfl rfl rfl ?_; refine Oa rfl (Ab ?_); refine Bz ?_; refine Ah (Se rfl (Om rfl (Om rfl (On rfl (Oc rfl rfl rfl (Ab ?_)))))); refine De rfl Ay ?_; refine Cc rfl ?_; refine Se rfl ?_; refine Az rfl .free rfl ?_; refine By rfl rfl rfl rfl .free ?_; refine Ab ?_; refine Cu (fun w h => h.f1) (Bu ?_); intro hz
 have hf := hf.mono hz
 refine Am (.c rfl .nil) ?_; refine ⟨_, _, hle.trans hz, fun w h => h.drop.drop.drop, _, y1, rfl, .mk' rfl (.cons (hf.as 0 (.node o.txt []) Aa rfl) (.cons (hr_1.mono hz) (.nil))) (fun y hy => by cases hy; exact A9 (xs := [_, _, _, _])) Ae hcc Bf Bf, hy1.mono hz, by simpa using hy1n, by simpa using hy1s, ?_⟩
 rfl
theorem Abq {e : Ex} {I : Heap} {cs : List Value} (hb : e.bare = true) (h : Rep I e.tree cs) (hok : e.ok = true) {ot : Option Addr} {tk : List As} {ct : Nat} (b0 n : Nat) (x : MS) (hx : x.ok I) (L : Bj) :
  Fun Tryz.prog 171 [.pointer (some ⟨b0, 0, none⟩), .agg cs.toArray] I (x.own b0 ot tk ct n L) (MP b0 ot tk ct x (e.mk tk n) L) := by
 obtain ⟨oa, c, oaf, cf1, rfl, hf⟩ := h.at'
 have hm : e.mk tk n = ⟨e, [], n, 0⟩ := by cases e <;> first | rfl | cases hb
 rw [hm]
 unfold MS.own
 refine Ao Ae ?_; refine Se rfl ?_; refine Cm rfl rfl .free rfl ?_; intro b3; refine A1 .free rfl ?_; intro b4; refine Ab (Ah (Se rfl (Oh rfl ?_))); refine Bv rfl .free rfl ?_; refine Od rfl rfl rfl (Ab ?_)
 first | refine K3 rfl Pe ?_ | refine K2 rfl Pe ?_ | refine B9 Ar ?_
 refine Se rfl ?_; refine Az rfl .free rfl ?_; refine By rfl rfl rfl rfl .free ?_; refine Ab ?_; refine Am (.c rfl .nil) ?_
 exact ⟨I, _, .refl _, fun w h => h.drop.drop, _, x, rfl, hf.rep, hx, by simp, by simp, rfl⟩
theorem Adt : ∀ N : Nat, Rb N := by
 intro N
 induction N with
 | zero => intro I e cs h; omega
 | succ N ihn =>
  intro I e cs hlt h hok ot tk ct htk b0 n hn x hx hxl hxe L
  cases hb : e.bare with
  | true => exact Abq hb h hok b0 n x hx L
  | false =>
   cases e with
   | num s => cases hb
   | name s => cases hb
   | bin o a b => exact Adu ihn hlt h hok htk b0 n hn x hx hxl hxe L
   | ite a b d => exact Adv ihn hlt h hok htk b0 n hn x hx hxl hxe L
   | lt z a b => exact Afl ihn hlt h hok htk b0 n hn x hx hxl hxe L
   | fn h1 z s u b => exact Afk ihn hlt h hok htk b0 n hn x hx hxl hxe L
   | un o a => exact Afm ihn hlt h hok htk b0 n hn x hx hxl hxe L
theorem Agm {I : Heap} {e : Ex} {cs : List Value} (h : Rep I e.tree cs) (hfine : e.fine = true) (L : Bj) : Fun Tryz.prog 71 [.agg cs.toArray] I L (fun v I' L' => ∃ ds, v = .tuple #[.agg (List.toArray ds), .bool (decide (e.made.n ≤ 100))] ∧ Rep I' e.normal.tree ds ∧ L = L') := by
 obtain ⟨oa, c, oaf, cf, rfl, hf⟩ := h.at'
 have hpf := G5 hfine
 have hpf2 := hpf
 simp only [Ex.fine, Bool.and_eq_true, decide_eq_true_eq, Tree.fits] at hpf2
 have hroom := N0 hfine
 have hpg := Ex.tree_good hpf2.1.1
 have hpz := hpf2.1.2
 have hpsz : e.plain.tree.size ≤ 120 := by rw [Ex.tree_size]; exact hpf2.1.2
 refine Ao Ae ?_; refine Se rfl ?_; refine Cm rfl rfl .free rfl ?_; intro b1; refine A1 .free rfl ?_; intro b2; refine Oa rfl (Ab (Se rfl ?_)); refine Az rfl .free rfl ?_; refine Ca rfl (X5 hf.rep hfine _) ?_; rintro _ J1 _ e1 ⟨ds, rfl, hr, rfl⟩; obtain ⟨o1, k1, _, rfl, -⟩ := hr.open; refine Om rfl (Oe rfl rfl (Oe rfl rfl ?_)); refine A1 .free rfl ?_; intro b4; refine By rfl rfl rfl rfl .free ?_; refine Oa rfl (Ab (Ah (Se rfl (Om rfl ?_)))); refine Ei rfl .free rfl ?_; refine Ab ?_
 first | refine Sf rfl Ae ?_ | refine A0 Ar ?_
 refine Ak (Se rfl ?_); refine Az rfl .free rfl ?_; refine Dl .free rfl ?_; intro b17; refine C4 (L' := A2 9 (([] : List As).map sv) (some (b17, [])) ++ _) (fun w h => h) ?_; refine Ca rfl (Ux _ (Nat.lt_succ_self _) hr hpg.1 [] (some (b17, [])) 0 Dr ⟨rfl, Nat.le_refl _, rfl⟩ _) ?_; rintro _ _ _ _ ⟨rfl, B2, c2, rfl, hB2, rfl⟩
 have htl : e.tk.length ≤ 120 := hroom.2.2
 refine Mp hB2 rfl (by show e.tk.length ≤ Bg; unfold Bg; omega) (Afw hfine) ?_; intro J2 oz cz ez hbv hst; refine Gl (t := 18) rfl hbv ?_
 have hst : Strs J2 oz e.tk cz := hst
 have hr := hr.mono ez
 have hle := e1.trans ez
 refine Dl .free rfl ?_; intro b19; refine Dl .free rfl ?_; intro b20; refine Cd rfl rfl rfl .free rfl ?_; refine Cm rfl rfl .free rfl ?_; intro b22; refine Oa rfl (Ab (Se rfl (Om rfl ?_))); refine Az rfl .free rfl ?_; refine C4 (L' := P9 b22 oz e.tk cz 0 (.slice (some ⟨b19, 0, none⟩) 0 0) (.slice (some ⟨b20, 0, none⟩) 0 0) :: _) (fun w h => h) ?_; refine Ca rfl (Mj (Adt _) (Nat.lt_succ_self _) hr hpf2.1.1 hst b22 0 Aa Aa _) ?_; rintro _ J3 _ e3 ⟨cs3, rfl, hr3, rfl⟩
 have hr3 : Rep J3 e.normal.tree cs3 := hr3
 obtain ⟨o3, k3, _, rfl, -⟩ := hr3.open
 unfold P9
 have hle := hle.trans e3
 refine A1 .free rfl ?_; intro b7; refine By rfl rfl rfl rfl .free ?_; refine Ab (Ah ?_); refine Fh 8 rfl rfl ?_; refine Dt 0 [6] rfl (Ea rfl) ?_; refine Da 1 rfl (Ai rfl) ?_; refine Da 2 rfl (Cb rfl) ?_
 first | refine Da 3 rfl (Aj rfl) ?_ | refine Da 3 rfl (A4 rfl) ?_
 refine Gd 4 6 Af ?_ ?_
 ·skip
  refine Ri 4 rfl rfl (P8 rfl) .free rfl (.inr Au) ?_; refine Da 5 rfl (Le rfl rfl rfl) ?_; refine Dx 6 rfl rfl rfl rfl ?_; refine Db 7 rfl (Bk rfl) ?_; refine A5 Af ?_; refine Am (.c rfl (.tmp rfl .nil)) ?_
  exact ⟨J3, L, hle, Cl, _, by simp [C2, Ex.made]; exact decide_eq_decide.2 Aa, hr3, rfl⟩
 ·skip
  refine S4 6 rfl rfl rfl rfl rfl rfl .free (.inl Af) ?_; refine Sm 4 rfl Af rfl (P8 rfl) .free rfl (.inl Af) ?_; refine Db 5 rfl (Le rfl rfl rfl) ?_; refine Db 7 rfl (Bk rfl) ?_; refine A5 Af ?_; refine Am (.c rfl (.tmp rfl .nil)) ?_
  exact ⟨J3, L, hle, Cl, _, by simp [C2, Ex.made]; exact decide_eq_decide.2 Aa, hr3, rfl⟩
theorem Zk (s : As) (hs : s.length ≤ Mk) (I : Heap) (L : Bj) : Fun Tryz.prog 33 [.string (str s)] I L (EL (Tb s) L) := by
 refine Ao Ae ?_; refine Se rfl (Oa rfl (Oa rfl (Ab (Se rfl (Om rfl ?_))))); refine Ca rfl (S3 s hs _ _) ?_; rintro _ J _ hleJ ⟨t, cs, ok, rfl, hrep, rfl, hpf⟩; obtain ⟨oc, cc, _, rfl, -⟩ := hrep.open; refine Om rfl (Oe rfl rfl (Oe rfl rfl ?_)); refine A1 .free rfl ?_; intro b4; refine By rfl rfl rfl rfl .free ?_; refine Oa rfl (Ab (Ah (Se rfl (Om rfl ?_)))); refine Ei rfl .free rfl ?_; refine Ab ?_; refine A6 rfl ?_ ?_
 ·intro c0
  try simp only [nb] at c0
  refine Se rfl (Oa rfl (Oa rfl (Ab ?_))); refine Am (.tmp rfl (.tmp rfl .nil)) ?_
  exact ⟨J, L, hleJ, Cl, by rw [Qs (Aab hpf c0)]; rfl, rfl⟩
 intro c0
 try simp only [nb] at c0
 obtain ⟨e, he, rfl, hok, hlen, hfine, htxt⟩ := Ry hpf c0
 have hnf := Qt he
 have hnok := N1 hfine
 have hnl := O3 hfine
 have hnn := Rk hfine
 have hx := Ly hnok
 have hfi : (Fo e.normal.tree.text).isSome = e.normal.fine := by rw [hx]; cases e.normal.fine <;> rfl
 refine Ak (Se rfl ?_); refine Az rfl .free rfl ?_; refine Ca rfl (Agm hrep hfine _) ?_; rintro _ J2 _ e2 ⟨ds, rfl, hr, rfl⟩; obtain ⟨od, cd, _, rfl, -⟩ := hr.open
 have hle := hleJ.trans e2
 refine Om rfl (Oe rfl rfl (Oe rfl rfl ?_)); refine A1 .free rfl ?_; intro b6; refine By rfl rfl rfl rfl .free ?_; refine Oa rfl (Ab (Ah (Se rfl (Om rfl ?_)))); refine Ei rfl .free rfl ?_; refine Om rfl ?_
 apply G4 22 27 rfl
 ·intro g5_3 hk
  try simp only [nb] at g5_3
  refine Az rfl (.met rfl rfl) rfl ?_; refine Cx rfl (.met rfl rfl) rfl (Kq _ (Nat.lt_succ_self _) hr (Ex.tree_good hnok).1 Aa _) ?_; rintro _ _ _ _ ⟨rfl, rfl, rfl⟩; refine Cx rfl (.met rfl rfl) rfl (Pq _ (by rw [Tree.text_len]; unfold Mk; omega) _ _) ?_; rintro _ _ _ _ ⟨rfl, rfl, rfl⟩; refine Ei rfl (.met rfl rfl) rfl ?_; refine Of rfl rfl ?_
  exact Bb 4 rfl rfl hk
 ·intro _ hk; refine Br 4 rfl ?_; refine Ot rfl rfl ?_
  exact Bb 4 rfl rfl hk
 refine Ab ?_; refine A6 rfl ?_ ?_
 ·intro c1
  try simp only [nb] at c1
  refine Se rfl (Oa rfl (Oa rfl (Ab ?_))); refine Am (.tmp rfl (.tmp rfl .nil)) ?_; refine ⟨J2, L, hle, Cl, ?_, rfl⟩; rw [hfi] at c1
  have hn : e.normal.fine = false := by
   cases hn : e.normal.fine with
   | false => rfl
   | true =>
    have := (hnn hn).2
    rw [hn] at c1
    simp at c1; omega
  rw [hnf, if_neg (by rw [hn]; simp)]; rfl
 intro c1
 try simp only [nb] at c1
 refine Ak (Se rfl ?_); refine Az rfl .free rfl ?_; refine Ca rfl (Kq _ (Nat.lt_succ_self _) hr (Ex.tree_good hnok).1 Aa _) ?_; rintro _ _ _ _ ⟨rfl, rfl, rfl⟩; refine Oa rfl (Oa rfl (Ab ?_)); refine Am (.tmp rfl (.tmp rfl .nil)) ?_; refine ⟨J2, L, hle, Cl, ?_, rfl⟩; rw [hfi] at c1; rw [hnf, if_pos (by simpa using c1.2)]; rfl
theorem S6 {l r : List As} {y : As} : ∀ {n : Nat}, n ≤ l.length → Fz (l ++ r) y n = Fz l y n
 | 0, _ => rfl
 | n + 1, h => by
  simp only [Fz]
  rw [show (l ++ r).getD n [] = l.getD n [] by simp [List.getElem?_append_left (show n < l.length by omega)], S6 (by omega)]
theorem Jq (l : List As) (x y : As) : B7 (l ++ [x]) y = if x = y then some l.length else B7 l y := by
 unfold B7
 rw [show (l ++ [x]).length = l.length + 1 by simp]
 simp only [Fz]
 rw [show (l ++ [x]).getD l.length [] = x by simp, S6 (Nat.le_refl _)]
theorem Gb {l : List As} {m : List Ty} (h : l.length = m.length) (x y : As) (s : Ty) : Ge (l ++ [x]) (m ++ [s]) y = if x = y then some s else Ge l m y := by
 unfold Ge
 rw [Jq]
 by_cases hx : x = y
 ·rw [if_pos hx, if_pos hx]; simp [h]
 ·rw [if_neg hx, if_neg hx]
  cases hi : B7 l y with
  | none => rfl
  | some i =>
   have h1 := (Ki (show Fz l y l.length = some i from hi)).1
   simp [List.getElem?_append_left (show i < m.length by omega)]
theorem Jw {l : List As} {m : List Ty} (h : l.length = m.length) (f x y : As) (s t : Ty) : Ge (l ++ [f, x]) (m ++ [s, t]) y = if x = y then some t else if f = y then some s else Ge l m y := by
 have h1 := Gb (l := l ++ [f]) (m := m ++ [s]) (by simp [h]) x y t
 rw [Gb h, List.append_assoc, List.append_assoc] at h1
 exact h1
theorem Ex.chk_congr : ∀ {e : Ex} {l l' : List As} {m m' : List Ty}, l.length = m.length → l'.length = m'.length → (∀ x ∈ e.occ [], Ge l m x = Ge l' m' x) → e.chk l m = e.chk l' m'
 | .num _, l, l', m, m', _, _, _ => rfl
 | .name s, l, l', m, m', _, _, h => by
  have := h s (by simp [Ex.occ])
  simp only [Ex.chk, this]
 | .bin o a b, l, l', m, m', h1, h2, h => by
  simp only [Ex.occ, List.mem_append] at h
  simp only [Ex.chk, Ex.chk_congr h1 h2 fun x hx => h x (.inl hx), Ex.chk_congr h1 h2 fun x hx => h x (.inr hx)]
 | .ite a b c, l, l', m, m', h1, h2, h => by
  simp only [Ex.occ, List.mem_append] at h
  simp only [Ex.chk, Ex.chk_congr h1 h2 fun x hx => h x (.inl (.inl hx)), Ex.chk_congr h1 h2 fun x hx => h x (.inl (.inr hx)), Ex.chk_congr h1 h2 fun x hx => h x (.inr hx)]
 | .lt y a b, l, l', m, m', h1, h2, h => by
  simp only [Ex.occ, List.mem_append, List.nil_append] at h
  simp only [Ex.chk, Ex.chk_congr h1 h2 fun x hx => h x (.inl hx)]
  cases a.chk l' m' with
  | error x => rfl
  | ok s =>
   refine Ex.chk_congr (by simp [h1]) (by simp [h2]) fun x hx => ?_
   rw [Gb h1, Gb h2]
   by_cases hy : y = x
   ·rw [if_pos hy, if_pos hy]
   ·rw [if_neg hy, if_neg hy]
    exact h x (.inr (Ex.occ_mem.2 ⟨hx, by simp only [List.mem_singleton]; exact fun e => hy e.symm⟩))
 | .fn f y s t b, l, l', m, m', h1, h2, h => by
  simp only [Ex.occ, List.nil_append] at h
  simp only [Ex.chk]
  rw [Ex.chk_congr (e := b) (l := l ++ [f, y]) (l' := l' ++ [f, y]) (m := m ++ [.fn s t, s]) (m' := m' ++ [.fn s t, s]) (by simp [h1]) (by simp [h2]) fun x hx => ?_]; rw [Jw h1, Jw h2]
  by_cases hy : y = x
  ·rw [if_pos hy, if_pos hy]
  ·rw [if_neg hy, if_neg hy]
   by_cases hf : f = x
   ·rw [if_pos hf, if_pos hf]
   ·rw [if_neg hf, if_neg hf]; refine h x (Ex.occ_mem.2 ⟨hx, ?_⟩)
    simp only [List.mem_cons, List.not_mem_nil, or_false]
    rintro (e | e)
    ·exact hf e.symm
    ·exact hy e.symm
 | .un o a, l, l', m, m', h1, h2, h => by
  simp only [Ex.occ] at h
  simp only [Ex.chk, Ex.chk_congr h1 h2 h]
theorem Ex.chk_closed {e : Ex} {t : Ty} (h : e.chk [] [] = .ok t) {l : List As} {m : List Ty} (hl : l.length = m.length) : e.chk l m = .ok t := by
 rw [← h]; refine (Ex.chk_congr (l := []) (m := []) rfl hl fun x hx => ?_).symm
 have := Ex.chk_occ h x hx
 cases this
theorem Ex.put_chk : ∀ {e : Ex} {n : As} {v : Ex} {k t : Ty} {l : List As} {m : List Ty}, l.length = m.length → v.chk [] [] = .ok k → Ge l m n = some k → e.chk l m = .ok t → (e.put n v).chk l m = .ok t
 | .num _, n, v, k, t, l, m, _, _, _, h => h
 | .name s, n, v, k, t, l, m, hl, hv, hn, h => by
  simp only [Ex.put]
  split
  ·rename_i e; subst e
   simp only [Ex.chk, hn] at h
   cases h
   exact Ex.chk_closed hv hl
  ·exact h
 | .bin o a b, n, v, k, t, l, m, hl, hv, hn, h => by
  simp only [Ex.chk] at h
  split at h
  ·cases h
  ·rename_i s h1
   split at h
   ·cases h
   ·rename_i u h2
    simp only [Ex.put, Ex.chk, Ex.put_chk hl hv hn h1, Ex.put_chk hl hv hn h2]
    split at h
    ·rename_i w h3; cases h; simp only [h3]
    ·cases h
 | .ite a b c, n, v, k, t, l, m, hl, hv, hn, h => by
  simp only [Ex.chk] at h
  split at h
  ·cases h
  ·rename_i s h1
   split at h
   ·cases h
   ·rename_i u h2
    split at h
    ·cases h
    ·rename_i w h3
     simp only [Ex.put, Ex.chk, Ex.put_chk hl hv hn h1, Ex.put_chk hl hv hn h2, Ex.put_chk hl hv hn h3]
     split at h
     ·rename_i h4; cases h; rw [if_pos h4]
     ·cases h
 | .lt y a b, n, v, k, t, l, m, hl, hv, hn, h => by
  simp only [Ex.chk] at h
  split at h
  ·cases h
  ·rename_i s h1
   simp only [Ex.put, Ex.chk, Ex.put_chk hl hv hn h1]
   by_cases hy : y = n
   ·rw [if_pos hy]; exact h
   ·rw [if_neg hy]
    exact Ex.put_chk (by simp [hl]) hv (by rw [Gb hl, if_neg hy]; exact hn) h
 | .fn f y s u b, n, v, k, t, l, m, hl, hv, hn, h => by
  simp only [Ex.chk] at h
  split at h
  ·rename_i hz
   split at h
   ·cases h
   ·rename_i w h1
    simp only [Ex.put, Ex.chk, hz, if_true]
    have h2 : (if f = n ∨ y = n then b else b.put n v).chk (l ++ [f, y]) (m ++ [.fn s u, s]) = .ok w := by
     by_cases hy : f = n ∨ y = n
     ·rw [if_pos hy]; exact h1
     ·rw [if_neg hy]; refine Ex.put_chk (by simp [hl]) hv ?_ h1; rw [Jw hl, if_neg fun e => hy (.inr e), if_neg fun e => hy (.inl e)]; exact hn
    rw [h2]
    simp only
    split at h
    ·rename_i h3; cases h; rw [if_pos h3]
    ·cases h
  ·cases h
 | .un o a, n, v, k, t, l, m, hl, hv, hn, h => by
  simp only [Ex.chk] at h
  split at h
  ·cases h
  ·rename_i s h1
   simp only [Ex.put, Ex.chk, Ex.put_chk hl hv hn h1]
   split at h
   ·rename_i w h3; cases h; simp only [h3]
   ·cases h
theorem Ng (l : List As) (y : As) : ∀ (a : List As), B7 (l ++ a) y = match B7 a y with | some i => some (l.length + i) | none => B7 l y := by
 intro a
 induction a generalizing l with
 | nil => rw [List.append_nil]; rfl
 | cons x a ih =>
  have h1 := ih (l ++ [x])
  have h2 := ih [x]
  rw [List.append_assoc] at h1
  simp only [List.cons_append, List.nil_append] at h1 h2
  rw [h1, h2, Jq]
  have h3 := Jq [] x y
  simp only [List.nil_append, List.length_nil] at h3
  rw [h3]
  cases B7 a y with
  | some i => simp only [List.length_append, List.length_cons, List.length_nil]; congr 1; omega
  | none =>
   simp only
   by_cases e : x = y
   ·rw [if_pos e, if_pos e]; simp
   ·rw [if_neg e, if_neg e]; rfl
theorem Ks {l : List As} {y : As} {i : Nat} (h : B7 l y = some i) : i < l.length ∧ l.getD i [] = y := Ki h
theorem F4 {l : List As} {y : As} : B7 l y = none ↔ y ∉ l := by
 induction l with
 | nil => simp [B7, Fz]
 | cons x l ih =>
  have h := Ng [x] y l
  simp only [List.cons_append, List.nil_append] at h
  rw [h]
  have h3 := Jq [] x y
  simp only [List.nil_append, List.length_nil] at h3
  rw [h3]
  cases hl : B7 l y with
  | some i =>
   have := Jg hl
   simp [this]
  | none =>
   rw [hl] at ih
   have h4 : y ∉ l := ih.1 rfl
   by_cases e : x = y
   ·simp [e]
   ·rw [if_neg e]
    simp only [List.mem_cons, not_or]
    exact ⟨fun _ => ⟨fun e' => e e'.symm, h4⟩, fun _ => rfl⟩
theorem Uf {l : List As} (h : l.Nodup) {i : Nat} (hi : i < l.length) : B7 l (l.getD i []) = some i := by
 cases hx : B7 l (l.getD i []) with
 | none =>
  rw [F4] at hx
  exact absurd (by rw [show l.getD i [] = l[i] by simp [hi]]; exact List.getElem_mem hi) hx
 | some j =>
  obtain ⟨h1, h2⟩ := Ks hx; rw [show l.getD j [] = l[j] by simp [h1], show l.getD i [] = l[i] by simp [hi]] at h2; rw [(List.getElem_inj h).1 h2]
def bnd (i : Nat) : As := 0 :: List.replicate i 0
theorem Vs {i j : Nat} (h : bnd i = bnd j) : i = j := by
 have := congrArg List.length h
 simpa [bnd] using this
theorem Xb (i : Nat) : B0 (bnd i) = false := by simp [bnd, B0, Ps]
theorem Vt {s : As} (h : B0 s = true) (i : Nat) : bnd i ≠ s := fun e => by rw [← e, Xb] at h; cases h
def Ex.db : Ex → List As → Ex
 | .num s, _ => .num s
 | .name s, a => .name (match B7 a s with | some i => bnd i | none => s)
 | .bin o a b, l => .bin o (a.db l) (b.db l)
 | .ite a b c, l => .ite (a.db l) (b.db l) (c.db l)
 | .lt x a b, l => .lt [] (a.db l) (b.db (l ++ [x]))
 | .fn g x s t b, l => .fn [] [] s t (b.db (l ++ [g, x]))
 | .un o a, l => .un o (a.db l)
def Ex.alk : Ex → Ex → List As → List As → Bool
 | .num s, .num t, _, _ => decide (s = t)
 | .name s, .name t, a, b => decide (B7 a s = B7 b t) && ((B7 a s).isSome || decide (s = t))
 | .bin o p q, .bin o' p' q', a, b => decide (o.txt = o'.txt) && p.alk p' a b && q.alk q' a b
 | .ite p q r, .ite p' q' r', a, b => p.alk p' a b && q.alk q' a b && r.alk r' a b
 | .lt x p q, .lt x' p' q', a, b => p.alk p' a b && q.alk q' (a ++ [x]) (b ++ [x'])
 | .fn g x s t q, .fn g' x' s' t' q', a, b => decide (s = s') && decide (t = t') && q.alk q' (a ++ [g, x]) (b ++ [g', x'])
 | .un o p, .un o' p', a, b => decide (o.txt = o'.txt) && p.alk p' a b
 | _, _, _, _ => false
def freshT (av t : List As) (n : Nat) : Prop := t.Nodup ∧ ∀ x ∈ t, x ∉ av ∧ ∃ k, k < n ∧ x = nm 120 k
theorem freshT.up {av t : List As} {n m : Nat} (h : freshT av t n) (hm : n ≤ m) : freshT av t m := ⟨h.1, fun x hx => by obtain ⟨h1, k, h2, h3⟩ := h.2 x hx; exact ⟨h1, k, by omega, h3⟩⟩
theorem freshT.add {av t : List As} {n k : Nat} (h : freshT av t n) (hk : n ≤ k) (ha : nm 120 k ∉ av) : freshT av (t ++ [nm 120 k]) (k + 1) := by
 refine ⟨?_, fun x hx => ?_⟩
 ·rw [List.nodup_append]; refine ⟨h.1, by simp, ?_⟩; intro x hx y hy e
  simp only [List.mem_singleton] at hy
  subst hy; subst e; obtain ⟨_, j, hj, e⟩ := h.2 _ hx
  have := Tc e
  omega
 ·rcases List.mem_append.1 hx with hx | hx
  ·obtain ⟨h1, j, h2, h3⟩ := h.2 x hx; exact ⟨h1, j, by omega, h3⟩
  ·simp only [List.mem_singleton] at hx; subst hx; exact ⟨ha, k, by omega, rfl⟩
theorem Ex.db_pl {av : List As} : ∀ {e : Ex} {f t : List As} {n : Nat}, f.length = t.length → freshT av t n → (∀ x ∈ e.occ f, x ∈ av) → (e.pl av f t n).1.db t = e.db f := by
 intro e
 induction e with
 | num s => intro f t n _ _ _; rfl
 | name s =>
  intro f t n hft hfr ho
  simp only [Ex.pl, Ex.db]
  cases hs : B7 f s with
  | none =>
   have h1 : s ∉ f := F4.1 hs
   have h2 := ho s (by simp [Ex.occ, h1])
   have h3 : B7 t s = none := F4.2 fun hm => (hfr.2 s hm).1 h2
   simp only [h3]
  | some i =>
   have h1 := (Ks hs).1
   simp only [Uf hfr.1 (show i < t.length by omega)]
 | bin o p q ih1 ih2 =>
  intro f t n hft hfr ho
  simp only [Ex.occ, List.mem_append] at ho
  simp only [Ex.pl, Ex.db, ih1 hft hfr fun x hx => ho x (.inl hx), ih2 hft (hfr.up (p.pl_hits av f t n).1) fun x hx => ho x (.inr hx)]
 | ite p q r ih1 ih2 ih3 =>
  intro f t n hft hfr ho
  simp only [Ex.occ, List.mem_append] at ho
  have h1 := (p.pl_hits av f t n).1
  have h2 := (q.pl_hits av f t (p.pl av f t n).2).1
  simp only [Ex.pl, Ex.db, ih1 hft hfr fun x hx => ho x (.inl (.inl hx)), ih2 hft (hfr.up h1) fun x hx => ho x (.inl (.inr hx)), ih3 hft (hfr.up (Nat.le_trans h1 h2)) fun x hx => ho x (.inr hx)]
 | lt x p q ih1 ih2 =>
  intro f t n hft hfr ho
  simp only [Ex.occ, List.mem_append] at ho
  obtain ⟨f1, f2, f3⟩ := Dv 120 av n
  have h1 := (p.pl_hits av f t (fr 120 av n + 1)).1
  simp only [Ex.pl, Ex.db, ih1 hft (hfr.up (show n ≤ fr 120 av n + 1 by omega)) fun x hx => ho x (.inl hx),
   ih2 (f := f ++ [x]) (t := t ++ [nm 120 (fr 120 av n)]) (by simp [hft]) ((hfr.add f2 f1).up h1) fun x hx => ho x (.inr hx)]
 | fn g x s u q ih =>
  intro f t n hft hfr ho
  simp only [Ex.occ] at ho
  obtain ⟨f1, f2, f3⟩ := Dv 120 av n; obtain ⟨g1, g2, g3⟩ := Dv 120 av (fr 120 av n + 1)
  have hh := ((hfr.add f2 f1).add g2 g1)
  rw [List.append_assoc] at hh
  simp only [List.cons_append, List.nil_append] at hh
  simp only [Ex.pl, Ex.db, ih (f := f ++ [g, x]) (t := t ++ [nm 120 (fr 120 av n), nm 120 (fr 120 av (fr 120 av n + 1))]) D6 hh ho]
 | un o p ih =>
  intro f t n hft hfr ho
  simp only [Ex.occ] at ho
  simp only [Ex.pl, Ex.db, ih hft hfr ho]
theorem Aej (e : Ex) : e.plain.db [] = e.db [] := Ex.db_pl rfl ⟨by simp, by simp⟩ fun x hx => Ex.free_mem.2 hx
def Ex.fv : Ex → List As
 | .num _ => []
 | .name s => if B0 s = true then [s] else []
 | .bin _ a b => a.fv ++ b.fv
 | .ite a b c => a.fv ++ b.fv ++ c.fv
 | .lt _ a b => a.fv ++ b.fv
 | .fn _ _ _ _ b => b.fv
 | .un _ a => a.fv
theorem Ex.occ_db : ∀ {e : Ex} {a : List As}, e.ok = true → e.occ a = (e.db a).fv := by
 intro e
 induction e with
 | num s => intro a _; rfl
 | name s =>
  intro a h
  simp only [Ex.ok] at h
  simp only [Ex.occ, Ex.db, Ex.fv]
  cases hs : B7 a s with
  | none => simp only [if_pos h]; rw [if_neg (F4.1 hs)]
  | some i => simp only [Xb, Bool.false_eq_true, if_false]; rw [if_pos (Jg hs)]
 | bin o p q ih1 ih2 => intro a h; simp only [Ex.ok, Bool.and_eq_true] at h; simp only [Ex.occ, Ex.db, Ex.fv, ih1 h.1, ih2 h.2]
 | ite p q r ih1 ih2 ih3 => intro a h; simp only [Ex.ok, Bool.and_eq_true] at h; simp only [Ex.occ, Ex.db, Ex.fv, ih1 h.1.1, ih2 h.1.2, ih3 h.2]
 | lt x p q ih1 ih2 => intro a h; simp only [Ex.ok, Bool.and_eq_true] at h; simp only [Ex.occ, Ex.db, Ex.fv, ih1 h.1.2, ih2 h.2]
 | fn g x s u q ih => intro a h; simp only [Ex.ok, Bool.and_eq_true] at h; simp only [Ex.occ, Ex.db, Ex.fv, ih h.2]
 | un o p ih => intro a h; simp only [Ex.ok] at h; simp only [Ex.occ, Ex.db, Ex.fv, ih h]
def Ex.as (e e' : Ex) : Prop := e.db [] = e'.db []
theorem Ex.as.free {e e' : Ex} (h : e.as e') (ho : e.ok = true) (ho' : e'.ok = true) : e.free = e'.free ∧ e.occ [] = e'.occ [] := by
 have h1 : e.occ [] = e'.occ [] := by rw [Ex.occ_db ho, Ex.occ_db ho', show e.db [] = e'.db [] from h]
 exact ⟨by unfold Ex.free; rw [h1], h1⟩
theorem Ex.plain_as (e : Ex) : e.plain.as e := Aej e
theorem Ex.db_size : ∀ (e : Ex) (a : List As), (e.db a).size = e.size ∧ (e.db a).tree.depth = e.tree.depth := by
 intro e
 induction e with
 | num s => intro a; exact ⟨rfl, rfl⟩
 | name s => intro a; exact ⟨rfl, rfl⟩
 | bin o p q ih1 ih2 => intro a; obtain ⟨h1, h2⟩ := ih1 a; obtain ⟨h3, h4⟩ := ih2 a; simp only [Ex.db, Ex.size, Ex.tree, Tree.depth, Ec, List.isEmpty_cons, cond_false, h1, h2, h3, h4, and_self]
 | ite p q r ih1 ih2 ih3 => intro a; obtain ⟨h1, h2⟩ := ih1 a; obtain ⟨h3, h4⟩ := ih2 a; obtain ⟨h5, h6⟩ := ih3 a; simp only [Ex.db, Ex.size, Ex.tree, Tree.depth, Ec, List.isEmpty_cons, cond_false, h1, h2, h3, h4, h5, h6, and_self]
 | lt x p q ih1 ih2 => intro a; obtain ⟨h1, h2⟩ := ih1 a; obtain ⟨h3, h4⟩ := ih2 (a ++ [x]); simp only [Ex.db, Ex.size, Ex.tree, Tree.depth, Ec, List.isEmpty_cons, List.isEmpty_nil, cond_true, cond_false, h1, h2, h3, h4, and_self]
 | fn g x s u q ih => intro a; obtain ⟨h1, h2⟩ := ih (a ++ [g, x]); simp only [Ex.db, Ex.size, Ex.tree, Tree.depth, Ec, List.isEmpty_cons, List.isEmpty_nil, cond_true, cond_false, h1, h2, and_self]
 | un o p ih => intro a; obtain ⟨h1, h2⟩ := ih a; simp only [Ex.db, Ex.size, Ex.tree, Tree.depth, Ec, List.isEmpty_cons, cond_false, h1, h2, and_self]
theorem Ex.as.size {e e' : Ex} (h : e.as e') : e.size = e'.size ∧ e.tree.depth = e'.tree.depth := by
 have h1 := e.db_size []
 have h2 := e'.db_size []
 rw [show e.db [] = e'.db [] from h] at h1
 exact ⟨h1.1.symm.trans h2.1, h1.2.symm.trans h2.2⟩
theorem Ex.db_in : ∀ {v : Ex} {a b c : List As}, a.length = b.length → v.occ c = [] → v.db (a ++ c) = v.db (b ++ c) := by
 intro v
 induction v with
 | num s => intro a b c _ _; rfl
 | name s =>
  intro a b c hl h
  simp only [Ex.occ] at h
  have hc : s ∈ c := by
   by_cases hm : s ∈ c
   ·exact hm
   ·rw [if_neg hm] at h; cases h
  simp only [Ex.db, Ng]
  cases hs : B7 c s with
  | none => exact absurd hc (F4.1 hs)
  | some i => simp only [hl]
 | bin o p q ih1 ih2 => intro a b c hl h; simp only [Ex.occ, List.append_eq_nil_iff] at h; simp only [Ex.db, ih1 hl h.1, ih2 hl h.2]
 | ite p q r ih1 ih2 ih3 => intro a b c hl h; simp only [Ex.occ, List.append_eq_nil_iff] at h; simp only [Ex.db, ih1 hl h.1.1, ih2 hl h.1.2, ih3 hl h.2]
 | lt x p q ih1 ih2 => intro a b c hl h; simp only [Ex.occ, List.append_eq_nil_iff] at h; simp only [Ex.db, List.append_assoc, ih1 hl h.1, ih2 hl h.2]
 | fn g x s u q ih => intro a b c hl h; simp only [Ex.occ] at h; simp only [Ex.db, List.append_assoc, ih hl h]
 | un o p ih => intro a b c hl h; simp only [Ex.occ] at h; simp only [Ex.db, ih hl h]
theorem Ex.db_cl {v : Ex} (h : v.occ [] = []) {a b : List As} (hl : a.length = b.length) : v.db a = v.db b := by
 have := Ex.db_in (v := v) (c := []) hl h
 simpa using this
def Ex.putIf (e : Ex) (n : As) (v : Ex) (a : List As) : Ex := if n ∈ a then e else e.put n v
theorem Kw {e : Ex} {n : As} {v : Ex} {a : List As} (h : n ∈ a) : e.putIf n v a = e := if_pos h
theorem Fy {e : Ex} {n : As} {v : Ex} {a : List As} (h : n ∉ a) : e.putIf n v a = e.put n v := if_neg h
theorem Vb (o : B5) (p q : Ex) (n : As) (v : Ex) (a : List As) : (Ex.bin o p q).putIf n v a = .bin o (p.putIf n v a) (q.putIf n v a) := by unfold Ex.putIf; split <;> rfl
theorem Vc (p q r : Ex) (n : As) (v : Ex) (a : List As) : (Ex.ite p q r).putIf n v a = .ite (p.putIf n v a) (q.putIf n v a) (r.putIf n v a) := by unfold Ex.putIf; split <;> rfl
theorem Yq (o : U2) (p : Ex) (n : As) (v : Ex) (a : List As) : (Ex.un o p).putIf n v a = .un o (p.putIf n v a) := by unfold Ex.putIf; split <;> rfl
theorem Yp (x : As) (p q : Ex) (n : As) (v : Ex) (a : List As) : (Ex.lt x p q).putIf n v a = .lt x (p.putIf n v a) (q.putIf n v (a ++ [x])) := by
 unfold Ex.putIf
 simp only [List.mem_append, List.mem_singleton, Ex.put]
 by_cases h : n ∈ a
 ·simp [h]
 ·by_cases h2 : x = n
  ·subst h2; simp [h]
  ·have h3 : ¬ n = x := fun e => h2 e.symm
   simp [h, h2, h3]
theorem Yo (g x : As) (s u : Ty) (q : Ex) (n : As) (v : Ex) (a : List As) : (Ex.fn g x s u q).putIf n v a = .fn g x s u (q.putIf n v (a ++ [g, x])) := by
 unfold Ex.putIf
 simp only [List.mem_append, List.mem_cons, List.not_mem_nil, or_false, Ex.put]
 by_cases h : n ∈ a
 ·simp [h]
 ·by_cases h2 : g = n ∨ x = n
  ·have : n = g ∨ n = x := h2.imp Eq.symm Eq.symm
   simp [h, h2, this]
  ·have : ¬ (n = g ∨ n = x) := fun e => h2 (e.imp Eq.symm Eq.symm)
   simp [h, h2, this]
theorem Ex.put_db {n : As} {v : Ex} (hv : v.occ [] = []) : ∀ {e e' : Ex} {a b : List As}, a.length = b.length → e.ok = true → e'.ok = true → e.db a = e'.db b → (e.putIf n v a).db a = (e'.putIf n v b).db b := by
 intro e
 induction e with
 | num s => intro e' a b hl h h' hd; cases e' <;> simp only [Ex.db, reduceCtorEq] at hd; cases hd; unfold Ex.putIf; split <;> split <;> rfl
 | name s =>
  intro e' a b hl h h' hd
  cases e' <;> simp only [Ex.db, reduceCtorEq] at hd
  rename_i s'
  simp only [Ex.ok] at h h'
  simp only [Ex.name.injEq] at hd
  cases hs : B7 a s with
  | none => cases ht : B7 b s' with
   | none =>
    rw [hs, ht] at hd; simp only at hd; subst hd
    have h1 := F4.1 hs
    have h2 := F4.1 ht
    by_cases e : s = n
    ·subst e; rw [Fy h1, Fy h2]
     simp only [Ex.put, if_true]
     exact Ex.db_cl hv hl
    ·have h3 : ∀ c, (Ex.name s).putIf n v c = .name s := fun c => by unfold Ex.putIf; split <;> simp [Ex.put, e]
     rw [h3, h3]; simp only [Ex.db, hs, ht]
   | some j => rw [hs, ht] at hd; exact absurd hd.symm (Vt h j)
  | some i => cases ht : B7 b s' with
   | none => rw [hs, ht] at hd; exact absurd hd (Vt h' i)
   | some j =>
    rw [hs, ht] at hd
    have h3 : ∀ {c : List As} {z : As}, z ∈ c → (Ex.name z).putIf n v c = .name z := fun {c z} hz => by
     by_cases e : z = n
     ·subst e; exact Kw hz
     ·unfold Ex.putIf; split <;> simp [Ex.put, e]
    rw [h3 (Jg hs), h3 (Jg ht)]
    simp only [Ex.db, hs, ht, Vs hd]
 | bin o p q ih1 ih2 =>
  intro e' a b hl h h' hd
  cases e' <;> simp only [Ex.db, reduceCtorEq] at hd
  simp only [Ex.ok, Bool.and_eq_true] at h h'
  simp only [Ex.bin.injEq] at hd
  simp only [Vb, Ex.db, ih1 hl h.1 h'.1 hd.2.1, ih2 hl h.2 h'.2 hd.2.2, hd.1]
 | ite p q r ih1 ih2 ih3 =>
  intro e' a b hl h h' hd
  cases e' <;> simp only [Ex.db, reduceCtorEq] at hd
  simp only [Ex.ok, Bool.and_eq_true] at h h'
  simp only [Ex.ite.injEq] at hd
  simp only [Vc, Ex.db, ih1 hl h.1.1 h'.1.1 hd.1, ih2 hl h.1.2 h'.1.2 hd.2.1, ih3 hl h.2 h'.2 hd.2.2]
 | lt x p q ih1 ih2 =>
  intro e' a b hl h h' hd
  cases e' <;> simp only [Ex.db, reduceCtorEq] at hd
  rename_i x' p' q'
  simp only [Ex.ok, Bool.and_eq_true] at h h'
  simp only [Ex.lt.injEq] at hd
  simp only [Yp, Ex.db, ih1 hl h.1.2 h'.1.2 hd.2.1, ih2 (a := a ++ [x]) (b := b ++ [x']) (by simp [hl]) h.2 h'.2 hd.2.2]
 | fn g x s u q ih =>
  intro e' a b hl h h' hd
  cases e' <;> simp only [Ex.db, reduceCtorEq] at hd
  rename_i g' x' s' u' q'
  simp only [Ex.ok, Bool.and_eq_true] at h h'
  simp only [Ex.fn.injEq] at hd
  simp only [Yo, Ex.db, ih (a := a ++ [g, x]) (b := b ++ [g', x']) (by simp [hl]) h.2 h'.2 hd.2.2.2.2, hd.2.2.1, hd.2.2.2.1]
 | un o p ih =>
  intro e' a b hl h h' hd
  cases e' <;> simp only [Ex.db, reduceCtorEq] at hd
  simp only [Ex.ok] at h h'
  simp only [Ex.un.injEq] at hd
  simp only [Yq, Ex.db, ih hl h h' hd.2, hd.1]
theorem Ex.as.put {e e' : Ex} (h : e.as e') (ho : e.ok = true) (ho' : e'.ok = true) {n : As} {v : Ex} (hv : v.occ [] = []) : (e.put n v).as (e'.put n v) := by
 have := Ex.put_db (n := n) hv (a := []) (b := []) rfl ho ho' h
 rwa [Fy Ae, Fy Ae] at this
/- Types of alike expressions. -/
theorem ty_bin (o : B5) (a b : Ex) (l : List As) (m : List Ty) : (Ex.bin o a b).ty l m = (a.ty l m).bind fun s => (b.ty l m).bind fun t => o.ty s t := by
 unfold Ex.ty; simp only [Ex.chk]
 cases a.chk l m with
 | error x => rfl
 | ok s => cases b.chk l m with
  | error x => rfl
  | ok t => simp only [Option.bind_some]; cases o.ty s t <;> rfl
theorem ty_ite (a b c : Ex) (l : List As) (m : List Ty) : (Ex.ite a b c).ty l m = (a.ty l m).bind fun s => (b.ty l m).bind fun t => (c.ty l m).bind fun u => if s = .i ∧ t = u then some t else none := by
 unfold Ex.ty; simp only [Ex.chk]
 cases a.chk l m with
 | error x => rfl
 | ok s => cases b.chk l m with
  | error x => rfl
  | ok t => cases c.chk l m with
   | error x => rfl
   | ok u =>
    simp only [Option.bind_some]
    by_cases h : s = .i ∧ t = u
    ·rw [if_pos h, if_pos h]
    ·rw [if_neg h, if_neg h]
theorem ty_lt (x : As) (a b : Ex) (l : List As) (m : List Ty) : (Ex.lt x a b).ty l m = (a.ty l m).bind fun s => b.ty (l ++ [x]) (m ++ [s]) := by
 unfold Ex.ty; simp only [Ex.chk]
 cases a.chk l m <;> rfl
theorem ty_fn (f x : As) (s t : Ty) (b : Ex) (l : List As) (m : List Ty) : (Ex.fn f x s t b).ty l m = if (Ty.fn s t).size ≤ 16 then (b.ty (l ++ [f, x]) (m ++ [.fn s t, s])).bind fun u => if u = t then some (.fn s t) else none else none := by
 unfold Ex.ty; simp only [Ex.chk]
 by_cases h : (Ty.fn s t).size ≤ 16
 ·rw [if_pos h, if_pos h]
  cases b.chk (l ++ [f, x]) (m ++ [.fn s t, s]) with
  | error x => rfl
  | ok u =>
   simp only [Option.bind_some]
   by_cases h : u = t
   ·rw [if_pos h, if_pos h]
   ·rw [if_neg h, if_neg h]
 ·rw [if_neg h, if_neg h]
theorem ty_un (o : U2) (a : Ex) (l : List As) (m : List Ty) : (Ex.un o a).ty l m = (a.ty l m).bind fun s => o.ty s := by
 unfold Ex.ty; simp only [Ex.chk]
 cases a.chk l m with
 | error x => rfl
 | ok s => simp only [Option.bind_some]; cases o.ty s <;> rfl
theorem ty_name (s : As) (l : List As) (m : List Ty) : (Ex.name s).ty l m = Ge l m s := by
 unfold Ex.ty; simp only [Ex.chk]
 cases Ge l m s <;> rfl
theorem Tz {l a : List As} {m k : List Ty} (h : l.length = m.length) (s : As) : Ge (l ++ a) (m ++ k) s = match B7 a s with | some i => k[i]? | none => Ge l m s := by
 unfold Ge
 rw [Ng]
 cases hs : B7 a s with
 | some i => simp only [Option.bind_some, h]; rw [List.getElem?_append_right Aa]; congr 1; omega
 | none =>
  simp only
  cases hi : B7 l s with
  | none => rfl
  | some i =>
   have := (Ks hi).1
   simp only [Option.bind_some]; rw [List.getElem?_append_left Aa]
theorem Ex.ty_db {l : List As} {m : List Ty} (hlm : l.length = m.length) : ∀ {e e' : Ex} {a b : List As} {k : List Ty}, a.length = k.length → b.length = k.length → e.ok = true → e'.ok = true → e.db a = e'.db b → e.ty (l ++ a) (m ++ k) = e'.ty (l ++ b) (m ++ k) := by
 intro e
 induction e with
 | num s => intro e' a b k h1 h2 h h' hd; cases e' <;> simp only [Ex.db, reduceCtorEq] at hd; rfl
 | name s =>
  intro e' a b k h1 h2 h h' hd
  cases e' <;> simp only [Ex.db, reduceCtorEq] at hd
  rename_i s'
  simp only [Ex.ok] at h h'
  simp only [Ex.name.injEq] at hd
  rw [ty_name, ty_name, Tz hlm, Tz hlm]
  cases hs : B7 a s with
  | none => cases ht : B7 b s' with
   | none => rw [hs, ht] at hd; simp only at hd; subst hd; rfl
   | some j => rw [hs, ht] at hd; exact absurd hd.symm (Vt h j)
  | some i => cases ht : B7 b s' with
   | none => rw [hs, ht] at hd; exact absurd hd (Vt h' i)
   | some j => rw [hs, ht] at hd; rw [Vs hd]
 | bin o p q ih1 ih2 =>
  intro e' a b k h1 h2 h h' hd
  cases e' <;> simp only [Ex.db, reduceCtorEq] at hd
  simp only [Ex.ok, Bool.and_eq_true] at h h'
  simp only [Ex.bin.injEq] at hd
  rw [ty_bin, ty_bin, ih1 h1 h2 h.1 h'.1 hd.2.1, ih2 h1 h2 h.2 h'.2 hd.2.2, hd.1]
 | ite p q r ih1 ih2 ih3 =>
  intro e' a b k h1 h2 h h' hd
  cases e' <;> simp only [Ex.db, reduceCtorEq] at hd
  simp only [Ex.ok, Bool.and_eq_true] at h h'
  simp only [Ex.ite.injEq] at hd
  rw [ty_ite, ty_ite, ih1 h1 h2 h.1.1 h'.1.1 hd.1, ih2 h1 h2 h.1.2 h'.1.2 hd.2.1, ih3 h1 h2 h.2 h'.2 hd.2.2]
 | lt x p q ih1 ih2 =>
  intro e' a b k h1 h2 h h' hd
  cases e' <;> simp only [Ex.db, reduceCtorEq] at hd
  rename_i x' p' q'
  simp only [Ex.ok, Bool.and_eq_true] at h h'
  simp only [Ex.lt.injEq] at hd
  rw [ty_lt, ty_lt, ih1 h1 h2 h.1.2 h'.1.2 hd.2.1]
  congr 1; funext s
  have := ih2 (a := a ++ [x]) (b := b ++ [x']) (k := k ++ [s]) (by simp [h1]) (by simp [h2]) h.2 h'.2 hd.2.2
  simpa only [List.append_assoc] using this
 | fn g x s u q ih =>
  intro e' a b k h1 h2 h h' hd
  cases e' <;> simp only [Ex.db, reduceCtorEq] at hd
  rename_i g' x' s' u' q'
  simp only [Ex.ok, Bool.and_eq_true] at h h'
  simp only [Ex.fn.injEq] at hd
  obtain ⟨-, -, rfl, rfl, hd⟩ := hd
  have := ih (a := a ++ [g, x]) (b := b ++ [g', x']) (k := k ++ [.fn s u, s]) (by simp [h1]) (by simp [h2]) h.2 h'.2 hd
  simp only [← List.append_assoc] at this
  rw [ty_fn, ty_fn, this]
 | un o p ih =>
  intro e' a b k h1 h2 h h' hd
  cases e' <;> simp only [Ex.db, reduceCtorEq] at hd
  simp only [Ex.ok] at h h'
  simp only [Ex.un.injEq] at hd
  rw [ty_un, ty_un, ih h1 h2 h h' hd.2, hd.1]
theorem Ex.as.ty {e e' : Ex} (h : e.as e') (ho : e.ok = true) (ho' : e'.ok = true) {l : List As} {m : List Ty} (hlm : l.length = m.length) : e.ty l m = e'.ty l m := by
 have := Ex.ty_db hlm (a := []) (b := []) (k := []) rfl rfl ho ho' h
 simpa using this
theorem Ex.as.hd {e e' : Ex} (h : e.as e') : e.hd = e'.hd := by
 have h : e.db [] = e'.db [] := h
 cases e <;> cases e' <;> simp only [Ex.db, reduceCtorEq] at h <;> first
  | rfl
  | (simp only [Ex.bin.injEq] at h; simp only [Ex.hd, h.1]; rfl)
  | (simp only [Ex.un.injEq] at h; simp only [Ex.hd, h.1]; rfl)
theorem Ex.as.symm {e e' : Ex} (h : e.as e') : e'.as e := Eq.symm h
theorem Ex.as.trans {e e' e'' : Ex} (h : e.as e') (h' : e'.as e'') : e.as e'' := Eq.trans h h'
def nul : Ex := .num [48]
theorem Ex.put0_occ : ∀ {e : Ex} {n x : As}, x ∈ (e.put n nul).occ [] ↔ x ∈ e.occ [] ∧ x ≠ n
 | .num s, n, x => by simp [Ex.put, Ex.occ]
 | .name s, n, x => by
  simp only [Ex.put]
  by_cases h : s = n
  ·subst h; simp [Ex.occ, nul]
  ·rw [if_neg h]
   simp only [Ex.occ, List.not_mem_nil, if_false, List.mem_singleton]
   constructor
   ·rintro rfl; exact ⟨rfl, h⟩
   ·exact fun hh => hh.1
 | .bin o a b, n, x => by
  simp only [Ex.put, Ex.occ, List.mem_append, Ex.put0_occ (e := a), Ex.put0_occ (e := b)]
  constructor
  ·rintro (⟨h1, h2⟩ | ⟨h1, h2⟩)
   ·exact ⟨.inl h1, h2⟩
   ·exact ⟨.inr h1, h2⟩
  ·rintro ⟨h1 | h1, h2⟩
   ·exact .inl ⟨h1, h2⟩
   ·exact .inr ⟨h1, h2⟩
 | .ite a b c, n, x => by
  simp only [Ex.put, Ex.occ, List.mem_append, Ex.put0_occ (e := a), Ex.put0_occ (e := b), Ex.put0_occ (e := c)]
  constructor
  ·rintro ((⟨h1, h2⟩ | ⟨h1, h2⟩) | ⟨h1, h2⟩)
   ·exact ⟨.inl (.inl h1), h2⟩
   ·exact ⟨.inl (.inr h1), h2⟩
   ·exact ⟨.inr h1, h2⟩
  ·rintro ⟨(h1 | h1) | h1, h2⟩
   ·exact .inl (.inl ⟨h1, h2⟩)
   ·exact .inl (.inr ⟨h1, h2⟩)
   ·exact .inr ⟨h1, h2⟩
 | .lt y a b, n, x => by
  simp only [Ex.put, Ex.occ, List.mem_append, List.nil_append, Ex.put0_occ (e := a)]
  rw [Ex.occ_mem (bd := [y]), Ex.occ_mem (e := b) (bd := [y])]
  simp only [List.mem_singleton]
  by_cases h : y = n
  ·subst h; rw [if_pos rfl]
   constructor
   ·rintro (⟨h1, h2⟩ | ⟨h1, h2⟩)
    ·exact ⟨.inl h1, h2⟩
    ·exact ⟨.inr ⟨h1, h2⟩, h2⟩
   ·rintro ⟨h1 | h1, h2⟩
    ·exact .inl ⟨h1, h2⟩
    ·exact .inr h1
  ·rw [if_neg h, Ex.put0_occ (e := b)]
   constructor
   ·rintro (⟨h1, h2⟩ | ⟨⟨h1, h3⟩, h2⟩)
    ·exact ⟨.inl h1, h2⟩
    ·exact ⟨.inr ⟨h1, h2⟩, h3⟩
   ·rintro ⟨h1 | ⟨h1, h3⟩, h2⟩
    ·exact .inl ⟨h1, h2⟩
    ·exact .inr ⟨⟨h1, h2⟩, h3⟩
 | .fn f y s t b, n, x => by
  simp only [Ex.put, Ex.occ, List.nil_append]
  rw [Ex.occ_mem (bd := [f, y]), Ex.occ_mem (e := b) (bd := [f, y])]
  simp only [List.mem_cons, List.not_mem_nil, or_false, not_or]
  by_cases h : f = n ∨ y = n
  ·rw [if_pos h]
   constructor
   ·rintro ⟨h1, h2, h3⟩; refine ⟨⟨h1, h2, h3⟩, ?_⟩
    rcases h with rfl | rfl
    ·exact h2
    ·exact h3
   ·exact fun hh => hh.1
  ·rw [if_neg h, Ex.put0_occ (e := b)]
   constructor
   ·rintro ⟨⟨h1, h4⟩, h2⟩; exact ⟨⟨h1, h2⟩, h4⟩
   ·rintro ⟨⟨h1, h2⟩, h4⟩; exact ⟨⟨h1, h4⟩, h2⟩
 | .un o a, n, x => by
  simp only [Ex.put, Ex.occ, Ex.put0_occ (e := a)]
def Ex.puts (e : Ex) (l : List As) : Ex := l.foldl (fun e n => e.put n nul) e
def Aht (s n : As) : Int := match Fo s with
 | some e => if B0 n = true then (((e.occ []).count n : Nat) : Int) else -1
 | none => -1
theorem Afq {v : Ex} (h : v.occ [] = []) (bd : List As) : v.occ bd = [] := by rw [Ex.occ_filter, h]; rfl
theorem Ex.put_occ0 {n : As} {v : Ex} (hv : v.occ [] = []) : ∀ (e : Ex) (bd : List As), (e.put n v).occ bd = (e.put n nul).occ bd
 | .num s, bd => rfl
 | .name s, bd => by
  simp only [Ex.put]
  by_cases h : s = n
  ·rw [if_pos h, if_pos h, Afq hv]; rfl
  ·rw [if_neg h, if_neg h]
 | .bin o a b, bd => by simp only [Ex.put, Ex.occ, Ex.put_occ0 hv a, Ex.put_occ0 hv b]
 | .ite a b c, bd => by simp only [Ex.put, Ex.occ, Ex.put_occ0 hv a, Ex.put_occ0 hv b, Ex.put_occ0 hv c]
 | .lt x a b, bd => by simp only [Ex.put, Ex.occ, Ex.put_occ0 hv a]; split <;> simp only [Ex.put_occ0 hv b]
 | .fn f x s t b, bd => by simp only [Ex.put, Ex.occ]; split <;> simp only [Ex.put_occ0 hv b]
 | .un o a, bd => by simp only [Ex.put, Ex.occ, Ex.put_occ0 hv a]
theorem Ex.put_occ {n x : As} {v e : Ex} (hv : v.occ [] = []) : x ∈ (e.put n v).occ [] ↔ x ∈ e.occ [] ∧ x ≠ n := by rw [Ex.put_occ0 hv e, Ex.put0_occ]
def Ahs (a b : As) : Bool := match Fo a, Fo b with
 | some e, some f => e.alk f [] []
 | _, _ => false
theorem Zh {s : As} {e : Ex} (h : Fo s = some e) : Fo e.plain.tree.text = some e.plain := Qd (G5 (R2 h).1)
def No (n : Int) : Int := (n + 500) % 1000 - 500
theorem Ab9 (n : Int) : ((n + 500).tmod 1000 + 1000).tmod 1000 - 500 = No n := by
 unfold No
 rw [Int.tmod_eq_emod_of_nonneg (a := (n + 500).tmod 1000 + 1000) (by have := Int.lt_tmod_of_pos (n + 500) (b := 1000) Ad; omega)]; rw [Int.tmod_eq_emod]
 split <;> omega
theorem Ma (n : Int) : -500 ≤ No n ∧ No n ≤ 499 := by unfold No; omega
def B5.calc (o : B5) (x y : Int) : Int := match o with
 | .add => x + y
 | .sub => x - y
 | _ => x * y
def B5.nums : B5 → Bool
 | .call => false
 | .pair => false
 | _ => true
def Tl (o : B5) (a b : As) : As := Ue (No (o.calc (Fq a) (Fq b)))
theorem Yy : ∀ k : Nat, k < 1000 → Ci (Ue ((k : Int) - 500)) = true ∧ Fq (Ue ((k : Int) - 500)) = (k : Int) - 500 := by decide +kernel
theorem Adn {n : Int} (h0 : -500 ≤ n) (h1 : n ≤ 499) : Ci (Ue n) = true ∧ Fq (Ue n) = n := by
 have := Yy (n + 500).toNat Aa
 rw [show ((n + 500).toNat : Int) - 500 = n by omega] at this
 exact this
theorem Yt (o : B5) (a b : As) : Ci (Tl o a b) = true ∧ Fq (Tl o a b) = No (o.calc (Fq a) (Fq b)) := Adn (Ma _).1 (Ma _).2
theorem Aa5 : ∀ (l : As), l.all E6 = true → Fb l < 10 ^ l.length := by
 have key : ∀ (l : As) (a : Nat), l.all E6 = true → l.foldl (fun n b => 10 * n + (b.toNat - 48)) a < (a + 1) * 10 ^ l.length := by
  intro l
  induction l with
  | nil => intro a _; simp
  | cons b r ih =>
   intro a h
   simp only [List.all_cons, Bool.and_eq_true] at h
   have hb : b.toNat - 48 ≤ 9 := by have := h.1; simp [E6] at this; omega
   refine Nat.lt_of_lt_of_le (ih _ h.2) ?_; rw [List.length_cons, Nat.pow_succ]
   calc (10 * a + (b.toNat - 48) + 1) * 10 ^ r.length ≤ ((a + 1) * 10) * 10 ^ r.length := Nat.mul_le_mul_right _ Aa
    _ = (a + 1) * (10 ^ r.length * 10) := by rw [Nat.mul_assoc, Nat.mul_comm 10]
 intro l h
 have := key l 0 h
 simpa [Fb] using this
theorem U7 {s : As} (h : Ci s = true) : -999 ≤ Fq s ∧ Fq s ≤ 999 := by
 unfold Fq
 split
 ·omega
 ·rename_i h0
  simp only [Ci, h0, decide_false, Bool.false_or, Bool.and_eq_true, decide_eq_true_eq] at h
  have h1 := Aa5 (Ef s) h.1.2
  have h2 : 10 ^ (Ef s).length ≤ 10 ^ 3 := Nat.pow_le_pow_right Ad h.1.1.2
  split <;> omega
def Ex.turn : Ex → Option Ex
 | .bin .call (.fn f x s t b) v => some ((b.put f (.fn f x s t b)).put x v)
 | .bin o (.num a) (.num b) => if o.nums = true then some (.num (Tl o a b)) else none
 | .ite (.num a) b c => some (if a = [48] then b else c)
 | .lt x a b => some (b.put x a)
 | .un .fst (.bin .pair a b) => some a
 | .un .snd (.bin .pair a b) => some b
 | _ => none
def Ex.step : Ex → Option Ex
 | .bin o a b => if a.value = false then a.step.map fun c => .bin o c b else if b.value = false then b.step.map fun c => .bin o a c else (Ex.bin o a b).turn
 | .ite a b c => if a.value = false then a.step.map fun d => .ite d b c else (Ex.ite a b c).turn
 | .lt x a b => if a.value = false then a.step.map fun d => .lt x d b else (Ex.lt x a b).turn
 | .un o a => if a.value = false then a.step.map fun d => .un o d else (Ex.un o a).turn
 | _ => none
theorem Tu {o : B5} {a b e' : Ex} (h : (Ex.bin o a b).turn = some e') : (∃ f x s t c, o = .call ∧ a = .fn f x s t c ∧ e' = (c.put f (.fn f x s t c)).put x b) ∨ (∃ p q, o.nums = true ∧ a = .num p ∧ b = .num q ∧ e' = .num (Tl o p q)) := by
 cases a with
 | fn f x s t c =>
  cases o <;> first
   | (exact .inl ⟨f, x, s, t, c, rfl, rfl, (Option.some.inj h).symm⟩)
   | (cases b <;> cases h)
 | num p =>
  cases b with
  | num q =>
   have h : (if o.nums = true then some (Ex.num (Tl o p q)) else none) = some e' := by cases o <;> exact h
   split at h
   ·rename_i ho; exact .inr ⟨p, q, ho, rfl, rfl, (Option.some.inj h).symm⟩
   ·cases h
  | _ => cases o <;> cases h
 | _ => cases o <;> first | cases h | (cases b <;> cases h)
theorem Tv {a b c e' : Ex} (h : (Ex.ite a b c).turn = some e') : ∃ p, a = .num p ∧ e' = if p = [48] then b else c := by
 cases a <;> first | exact ⟨_, rfl, (Option.some.inj h).symm⟩ | cases h
def U2.pick (o : U2) (p q : Ex) : Ex := match o with
 | .fst => p
 | .snd => q
theorem Ww {o : U2} {a e' : Ex} (h : (Ex.un o a).turn = some e') : ∃ p q, a = .bin .pair p q ∧ e' = o.pick p q := by
 cases a with
 | bin k p q => cases k <;> cases o <;> first | exact ⟨p, q, rfl, (Option.some.inj h).symm⟩ | cases h
 | _ => cases o <;> cases h
theorem Ex.step_ok : ∀ {e e' : Ex}, e.ok = true → e.step = some e' → e'.ok = true
 | .num _, e', h, hs => by cases hs
 | .name _, e', h, hs => by cases hs
 | .fn _ _ _ _ _, e', h, hs => by cases hs
 | .bin o a b, e', h, hs => by
  simp only [Ex.ok, Bool.and_eq_true] at h
  simp only [Ex.step] at hs
  split at hs
  ·obtain ⟨c, hc, rfl⟩ := Option.map_eq_some_iff.1 hs
   simp only [Ex.ok, Bool.and_eq_true]; exact ⟨Ex.step_ok h.1 hc, h.2⟩
  ·split at hs
   ·obtain ⟨c, hc, rfl⟩ := Option.map_eq_some_iff.1 hs
    simp only [Ex.ok, Bool.and_eq_true]; exact ⟨h.1, Ex.step_ok h.2 hc⟩
   ·rcases Tu hs with ⟨f, x, s, t, c, rfl, rfl, rfl⟩ | ⟨p, q, ho, rfl, rfl, rfl⟩
    ·have hc : c.ok = true := by have := h.1; simp only [Ex.ok, Bool.and_eq_true] at this; exact this.2
     exact Ex.put_ok (Ex.put_ok hc h.1) h.2
    ·exact (Yt o p q).1
 | .ite a b c, e', h, hs => by
  simp only [Ex.ok, Bool.and_eq_true] at h
  simp only [Ex.step] at hs
  split at hs
  ·obtain ⟨d, hd, rfl⟩ := Option.map_eq_some_iff.1 hs
   simp only [Ex.ok, Bool.and_eq_true]; exact ⟨⟨Ex.step_ok h.1.1 hd, h.1.2⟩, h.2⟩
  ·obtain ⟨p, rfl, rfl⟩ := Tv hs
   split
   ·exact h.1.2
   ·exact h.2
 | .lt x a b, e', h, hs => by
  simp only [Ex.ok, Bool.and_eq_true] at h
  simp only [Ex.step] at hs
  split at hs
  ·obtain ⟨d, hd, rfl⟩ := Option.map_eq_some_iff.1 hs
   simp only [Ex.ok, Bool.and_eq_true]; exact ⟨⟨h.1.1, Ex.step_ok h.1.2 hd⟩, h.2⟩
  ·obtain rfl := (Option.some.inj hs).symm
   exact Ex.put_ok h.2 h.1.2
 | .un o a, e', h, hs => by
  have h1 : a.ok = true := h
  simp only [Ex.step] at hs
  split at hs
  ·obtain ⟨d, hd, rfl⟩ := Option.map_eq_some_iff.1 hs
   show d.ok = true
   exact Ex.step_ok h1 hd
  ·obtain ⟨p, q, rfl, rfl⟩ := Ww hs
   simp only [Ex.ok, Bool.and_eq_true] at h1
   cases o
   ·exact h1.1
   ·exact h1.2
theorem G0 {a b : List As} (h : a ++ b = []) : a = [] ∧ b = [] := List.append_eq_nil_iff.1 h
theorem Tf {e : Ex} {bd : List As} : e.occ bd = [] ↔ ∀ x ∈ e.occ [], x ∈ bd := by
 rw [Ex.occ_filter, List.filter_eq_nil_iff]
 constructor
 ·intro h x hx; have := h x hx; simpa using this
 ·intro h x hx; simpa using h x hx
theorem Ex.step_closed : ∀ {e e' : Ex}, e.occ [] = [] → e.step = some e' → e'.occ [] = []
 | .num _, e', h, hs => by cases hs
 | .name _, e', h, hs => by cases hs
 | .fn _ _ _ _ _, e', h, hs => by cases hs
 | .bin o a b, e', h, hs => by
  obtain ⟨h1, h2⟩ := G0 (show a.occ [] ++ b.occ [] = [] from h)
  simp only [Ex.step] at hs
  split at hs
  ·obtain ⟨c, hc, rfl⟩ := Option.map_eq_some_iff.1 hs
   simp only [Ex.occ, Ex.step_closed h1 hc, h2, List.append_nil]
  ·split at hs
   ·obtain ⟨c, hc, rfl⟩ := Option.map_eq_some_iff.1 hs
    simp only [Ex.occ, Ex.step_closed h2 hc, h1, List.append_nil]
   ·rcases Tu hs with ⟨f, x, s, t, c, rfl, rfl, rfl⟩ | ⟨p, q, ho, rfl, rfl, rfl⟩
    ·have hc : ∀ y ∈ c.occ [], y ∈ [f, x] := Tf.1 (show c.occ ([] ++ [f, x]) = [] from h1)
     rw [List.eq_nil_iff_forall_not_mem]; intro y hy; obtain ⟨hy, hx⟩ := (Ex.put_occ h2).1 hy; obtain ⟨hy, hf⟩ := (Ex.put_occ h1).1 hy
     have := hc y hy
     simp only [List.mem_cons, List.not_mem_nil, or_false] at this
     exact this.elim hf hx
    ·rfl
 | .ite a b c, e', h, hs => by
  obtain ⟨h1, h3⟩ := G0 (show (a.occ [] ++ b.occ []) ++ c.occ [] = [] from h); obtain ⟨h1, h2⟩ := G0 h1
  simp only [Ex.step] at hs
  split at hs
  ·obtain ⟨d, hd, rfl⟩ := Option.map_eq_some_iff.1 hs
   simp only [Ex.occ, Ex.step_closed h1 hd, h2, h3, List.append_nil]
  ·obtain ⟨p, rfl, rfl⟩ := Tv hs
   split
   ·exact h2
   ·exact h3
 | .lt x a b, e', h, hs => by
  obtain ⟨h1, h2⟩ := G0 (show a.occ [] ++ b.occ ([] ++ [x]) = [] from h)
  simp only [Ex.step] at hs
  split at hs
  ·obtain ⟨d, hd, rfl⟩ := Option.map_eq_some_iff.1 hs
   simp only [Ex.occ, Ex.step_closed h1 hd, List.nil_append]; exact h2
  ·obtain rfl := (Option.some.inj hs).symm
   have hc := Tf.1 h2
   rw [List.eq_nil_iff_forall_not_mem]; intro y hy; obtain ⟨hy, hx⟩ := (Ex.put_occ h1).1 hy
   have := hc y hy
   simp only [List.nil_append, List.mem_cons, List.not_mem_nil, or_false] at this
   exact hx this
 | .un o a, e', h, hs => by
  have h : a.occ [] = [] := h
  simp only [Ex.step] at hs
  split at hs
  ·obtain ⟨d, hd, rfl⟩ := Option.map_eq_some_iff.1 hs
   show d.occ [] = []
   exact Ex.step_closed h hd
  ·obtain ⟨p, q, rfl, rfl⟩ := Ww hs; obtain ⟨h1, h2⟩ := G0 (show p.occ [] ++ q.occ [] = [] from h)
   cases o
   ·exact h1
   ·exact h2
def Ex.go (e : Ex) : Option Ex := if e.value = true then none else e.step.bind fun e' => if e'.fine = true then some e' else none
def Aid (s : As) : Option As := (Cr s).bind fun e => e.go.map fun e' => e'.tree.text
def Ah1 (s : As) : Bool := match Cr s with
 | some e => !e.value && e.step.isNone
 | none => false
def Ex.goes (e : Ex) : Nat → Ex × Nat
 | 0 => (e, 0)
 | n + 1 => match e.go with
  | some e' => ((e'.goes n).1, (e'.goes n).2 + 1)
  | none => (e, 0)
theorem Xd {e : Ex} (hf : e.fine = true) (hc : e.occ [] = []) : Cr e.tree.text = some e := by
 unfold Cr
 rw [Qd hf]
 simp [Ex.closed, hc]
theorem Z4 {e : Ex} {l : List As} {m : List Ty} {t : Ty} : e.ty l m = some t ↔ e.chk l m = .ok t := by
 unfold Ex.ty
 cases e.chk l m with
 | ok u => simp
 | error x => simp
theorem Aet {e : Ex} (h : e.occ [] = []) {l l' : List As} {m m' : List Ty} (hl : l.length = m.length) (hl' : l'.length = m'.length) : e.ty l m = e.ty l' m' := by
 unfold Ex.ty
 rw [Ex.chk_congr (l' := l') (m' := m') hl hl' (fun x hx => by rw [h] at hx; cases hx)]
theorem Zy {e v : Ex} {n : As} {k t : Ty} {l : List As} {m : List Ty} (hl : l.length = m.length) (hv : v.ty [] [] = some k) (hn : Ge l m n = some k) (he : e.ty l m = some t) : (e.put n v).ty l m = some t :=
 Z4.2 (Ex.put_chk hl (Z4.1 hv) hn (Z4.1 he))
theorem R8 {e e' : Ex} {t : Ty} (hok : e.ok = true) (hc : e.occ [] = []) (hs : e.turn = some e') (hs' : e'.occ [] = []) (h : e.ty [] [] = some t) : e'.ty [] [] = some t := by
 cases e with
 | num s => cases hs
 | name s => cases hs
 | fn f x s u b => cases hs
 | bin o a b =>
  simp only [Ex.ok, Bool.and_eq_true] at hok
  rw [ty_bin] at h; obtain ⟨p, hp, h'⟩ := Option.bind_eq_some_iff.1 h; clear h; have h := h'; clear h'; obtain ⟨q, hq, h'⟩ := Option.bind_eq_some_iff.1 h; clear h; have h := h'; clear h'
  rcases Tu hs with ⟨f, x, s, u, c, rfl, rfl, rfl⟩ | ⟨y, z, ho, rfl, rfl, rfl⟩
  ·have hpf := hp
   rw [ty_fn] at hp
   split at hp
   ·rename_i hsz
    obtain ⟨r, hr, hp⟩ := Option.bind_eq_some_iff.1 hp
    split at hp
    ·rename_i hru
     subst hru; obtain rfl := Option.some.inj hp
     replace h : (if s = q then some r else none) = some t := h
     split at h
     ·rename_i hsq
      subst hsq; obtain rfl := Option.some.inj h
      have hfx : f ≠ x := by
       have := hok.1
       simp only [Ex.ok, Bool.and_eq_true, decide_eq_true_eq] at this
       exact this.1.1.1.2
      have h1 := Zy (n := f) (l := [] ++ [f, x]) (m := [] ++ [.fn s r, s]) rfl hpf (by rw [Jw rfl, if_neg (Ne.symm hfx), if_pos rfl]) hr
      have h2 := Zy (n := x) (l := [] ++ [f, x]) (m := [] ++ [.fn s r, s]) rfl hq (by rw [Jw rfl, if_pos rfl]) h1
      rw [Aet hs' (l' := [] ++ [f, x]) (m' := [] ++ [.fn s r, s]) rfl rfl]; exact h2
     ·cases h
    ·cases hp
   ·cases hp
  ·have ht : t = .i := by
    cases o <;> first | (cases ho; done) | skip
    all_goals
     replace h : (if p = .i ∧ q = .i then some Ty.i else none) = some t := h
     split at h
     ·exact (Option.some.inj h).symm
     ·cases h
   rw [ht]; rfl
 | ite a b c =>
  rw [ty_ite] at h; obtain ⟨p, hp, h'⟩ := Option.bind_eq_some_iff.1 h; clear h; have h := h'; clear h'; obtain ⟨q, hq, h'⟩ := Option.bind_eq_some_iff.1 h; clear h; have h := h'; clear h'; obtain ⟨r, hr, h'⟩ := Option.bind_eq_some_iff.1 h; clear h; have h := h'; clear h'
  split at h
  ·rename_i hi
   obtain rfl := Option.some.inj h; obtain ⟨y, rfl, rfl⟩ := Tv hs
   split
   ·exact hq
   ·rw [hi.2]; exact hr
  ·cases h
 | lt x a b =>
  rw [ty_lt] at h; obtain ⟨p, hp, h'⟩ := Option.bind_eq_some_iff.1 h; clear h; have h := h'; clear h'; obtain rfl := (Option.some.inj hs).symm
  have h1 := Zy (n := x) (l := [] ++ [x]) (m := [] ++ [p]) rfl hp (by rw [Gb rfl, if_pos rfl]) h
  rw [Aet hs' (l' := [] ++ [x]) (m' := [] ++ [p]) rfl rfl]; exact h1
 | un o a =>
  rw [ty_un] at h; obtain ⟨p, hp, h'⟩ := Option.bind_eq_some_iff.1 h; clear h; have h := h'; clear h'; obtain ⟨y, z, rfl, rfl⟩ := Ww hs; rw [ty_bin] at hp; obtain ⟨q, hq, hp⟩ := Option.bind_eq_some_iff.1 hp; obtain ⟨r, hr, hp⟩ := Option.bind_eq_some_iff.1 hp
  have hp : (if (Ty.pr q r).size ≤ 16 then some (Ty.pr q r) else none) = some p := hp
  split at hp
  ·obtain rfl := Option.some.inj hp
   cases o with
   | fst => obtain rfl := Option.some.inj (show some q = some t from h); exact hq
   | snd => obtain rfl := Option.some.inj (show some r = some t from h); exact hr
  ·cases hp
theorem Jk : ∀ {e e' : Ex} {t : Ty}, e.ok = true → e.occ [] = [] → e.step = some e' → e.ty [] [] = some t → e'.ty [] [] = some t
 | .num _, e', t, hok, hc, hs, h => by cases hs
 | .name _, e', t, hok, hc, hs, h => by cases hs
 | .fn _ _ _ _ _, e', t, hok, hc, hs, h => by cases hs
 | .bin o a b, e', t, hok, hc, hs, h => by
  have hs0 := hs
  have hok0 := hok
  obtain ⟨h1, h2⟩ := G0 (show a.occ [] ++ b.occ [] = [] from hc)
  simp only [Ex.ok, Bool.and_eq_true] at hok
  simp only [Ex.step] at hs
  split at hs
  ·obtain ⟨c, hd, rfl⟩ := Option.map_eq_some_iff.1 hs; rw [ty_bin] at h ⊢; obtain ⟨p, hp, h'⟩ := Option.bind_eq_some_iff.1 h; clear h; have h := h'; clear h'; rw [Jk hok.1 h1 hd hp]; exact h
  ·split at hs
   ·obtain ⟨c, hd, rfl⟩ := Option.map_eq_some_iff.1 hs; rw [ty_bin] at h ⊢; obtain ⟨p, hp, h'⟩ := Option.bind_eq_some_iff.1 h; clear h; have h := h'; clear h'; obtain ⟨q, hq, h'⟩ := Option.bind_eq_some_iff.1 h; clear h; have h := h'; clear h'; rw [hp, Option.bind_some, Jk hok.2 h2 hd hq]; exact h
   ·exact R8 hok0 hc hs (Ex.step_closed hc hs0) h
 | .ite a b c, e', t, hok, hc, hs, h => by
  have hs0 := hs
  have hok0 := hok
  obtain ⟨h1, h3⟩ := G0 (show (a.occ [] ++ b.occ []) ++ c.occ [] = [] from hc); obtain ⟨h1, h2⟩ := G0 h1
  simp only [Ex.ok, Bool.and_eq_true] at hok
  simp only [Ex.step] at hs
  split at hs
  ·obtain ⟨d, hd, rfl⟩ := Option.map_eq_some_iff.1 hs; rw [ty_ite] at h ⊢; obtain ⟨p, hp, h'⟩ := Option.bind_eq_some_iff.1 h; clear h; have h := h'; clear h'; rw [Jk hok.1.1 h1 hd hp]; exact h
  ·exact R8 hok0 hc hs (Ex.step_closed hc hs0) h
 | .lt x a b, e', t, hok, hc, hs, h => by
  have hs0 := hs
  have hok0 := hok
  obtain ⟨h1, h2⟩ := G0 (show a.occ [] ++ b.occ ([] ++ [x]) = [] from hc)
  simp only [Ex.ok, Bool.and_eq_true] at hok
  simp only [Ex.step] at hs
  split at hs
  ·obtain ⟨d, hd, rfl⟩ := Option.map_eq_some_iff.1 hs; rw [ty_lt] at h ⊢; obtain ⟨p, hp, h'⟩ := Option.bind_eq_some_iff.1 h; clear h; have h := h'; clear h'; rw [Jk hok.1.2 h1 hd hp]; exact h
  ·exact R8 hok0 hc hs (Ex.step_closed hc hs0) h
 | .un o a, e', t, hok, hc, hs, h => by
  have hs0 := hs
  have hok0 := hok
  have h1 : a.occ [] = [] := hc
  have hok1 : a.ok = true := hok
  simp only [Ex.step] at hs
  split at hs
  ·obtain ⟨d, hd, rfl⟩ := Option.map_eq_some_iff.1 hs; rw [ty_un] at h ⊢; obtain ⟨p, hp, h'⟩ := Option.bind_eq_some_iff.1 h; clear h; have h := h'; clear h'; rw [Jk hok1 h1 hd hp]; exact h
  ·exact R8 hok0 hc hs (Ex.step_closed hc hs0) h
theorem Z6 : ∀ {e : Ex}, e.value = true → e.step = none
 | .num _, h => rfl
 | .name _, h => rfl
 | .fn _ _ _ _ _, h => rfl
 | .bin o a b, h => by
  cases o <;> first | (cases h; done) | skip
  simp only [Ex.value, Bool.and_eq_true] at h
  simp only [Ex.step, h.1, h.2, Bool.true_eq_false, if_false]
  cases a with
  | num p => cases b <;> rfl
  | _ => rfl
def Aip (s : As) (n : Int) : Option (As × Nat) := if 0 ≤ n ∧ n ≤ 500 then (Cr s).map fun e => ((e.goes n.toNat).1.tree.text, (e.goes n.toNat).2) else none
open Go.Shelf
def Yc : Go.Shelf.Ren := ⟨fun | 172 => 113 | 244 => 156 | 245 => 157 | 247 => 188 | 279 => 189 | 280 => 190 | 281 => 191 | 282 => 192 | 287 => 202 | 316 => 203 | 171 => 158 | 205 => 204 | 321 => 210 | 322 => 211 | 243 => 193 | 246 => 205 | 283 => 212 | 284 => 213 | 285 => 214 | 286 => 215 | 129 => 217 | 317 => 216 | 318 => 218 | 319 => 219 | 320 => 220 | 337 => 221 | 338 => 222 | n => n, fun | 9 => 9 | 3 => 3 | 75 => 112 | 76 => 113 | 4 => 4 | 5 => 5 | 167 => 191 | 37 => 22 | 0 => 0 | 85 => 192 | 2 => 2 | 168 => 194 | 53 => 201 | 175 => 202 | 46 => 204 | 210 => 207 | 127 => 115 | 145 => 214 | 143 => 212 | 21 => 21 | 171 => 215 | 173 => 218 | 212 => 221 | 51 => 222 | 20 => 20 | 213 => 223 | 232 => 227 | 233 => 228 | 80 => 63 | n => n, fun | 15 => 0 | 16 => 1 | 17 => 2 | 18 => 3 | 19 => 4 | n => n⟩
theorem Afj : Go.Proofs.Lays.n172 Tryz.prog Yc := {
 mixed := by kernel_rfl
 f129 := Tryz.func217.trans (congrArg some (by kernel_rfl))
 f171 := Tryz.func158.trans (congrArg some (by kernel_rfl))
 f172 := Tryz.func113.trans (congrArg some (by kernel_rfl))
 f205 := Tryz.func204.trans (congrArg some (by kernel_rfl))
 f243 := Tryz.func193.trans (congrArg some (by kernel_rfl))
 f244 := Tryz.func156.trans (congrArg some (by kernel_rfl))
 f245 := Tryz.func157.trans (congrArg some (by kernel_rfl))
 f246 := Tryz.func205.trans (congrArg some (by kernel_rfl))
 f247 := Tryz.func188.trans (congrArg some (by kernel_rfl))
 f279 := Tryz.func189.trans (congrArg some (by kernel_rfl))
 f280 := Tryz.func190.trans (congrArg some (by kernel_rfl))
 f281 := Tryz.func191.trans (congrArg some (by kernel_rfl))
 f282 := Tryz.func192.trans (congrArg some (by kernel_rfl))
 f283 := Tryz.func212.trans (congrArg some (by kernel_rfl))
 f284 := Tryz.func213.trans (congrArg some (by kernel_rfl))
 f285 := Tryz.func214.trans (congrArg some (by kernel_rfl))
 f286 := Tryz.func215.trans (congrArg some (by kernel_rfl))
 f287 := Tryz.func202.trans (congrArg some (by kernel_rfl))
 f316 := Tryz.func203.trans (congrArg some (by kernel_rfl))
 f317 := Tryz.func216.trans (congrArg some (by kernel_rfl))
 f318 := Tryz.func218.trans (congrArg some (by kernel_rfl))
 f319 := Tryz.func219.trans (congrArg some (by kernel_rfl))
 f320 := Tryz.func220.trans (congrArg some (by kernel_rfl))
 f321 := Tryz.func210.trans (congrArg some (by kernel_rfl))
 f322 := Tryz.func211.trans (congrArg some (by kernel_rfl))
 f337 := Tryz.func221.trans (congrArg some (by kernel_rfl))
 f338 := Tryz.func222.trans (congrArg some (by kernel_rfl))
 t0 := Tryz.underlying0
 a0 := Tryz.isAgg0
 z0 := Tryz.sizeOf0
 v0 := Tryz.zeroValue0
 t2 := Tryz.underlying2
 a2 := Tryz.isAgg2
 z2 := Tryz.sizeOf2
 v2 := Tryz.zeroValue2
 t3 := Tryz.underlying3
 a3 := Tryz.isAgg3
 z3 := Tryz.sizeOf3
 v3 := Tryz.zeroValue3
 t4 := Tryz.underlying4
 a4 := Tryz.isAgg4
 z4 := Tryz.sizeOf4
 v4 := Tryz.zeroValue4
 t5 := Tryz.underlying5
 a5 := Tryz.isAgg5
 z5 := Tryz.sizeOf5
 v5 := Tryz.zeroValue5
 t9 := Tryz.underlying9
 a9 := Tryz.isAgg9
 z9 := Tryz.sizeOf9
 v9 := Tryz.zeroValue9
 t20 := Tryz.underlying20
 a20 := Tryz.isAgg20
 z20 := Tryz.sizeOf20
 v20 := Tryz.zeroValue20
 t21 := Tryz.underlying21
 a21 := Tryz.isAgg21
 z21 := Tryz.sizeOf21
 v21 := Tryz.zeroValue21
 t37 := Tryz.underlying22
 a37 := Tryz.isAgg22
 z37 := Tryz.sizeOf22
 v37 := Tryz.zeroValue22
 t46 := Tryz.underlying204
 a46 := Tryz.isAgg204
 z46 := Tryz.sizeOf204
 v46 := Tryz.zeroValue204
 t51 := Tryz.underlying222
 a51 := Tryz.isAgg222
 z51 := Tryz.sizeOf222
 v51 := Tryz.zeroValue222
 t53 := Tryz.underlying201
 a53 := Tryz.isAgg201
 z53 := Tryz.sizeOf201
 v53 := Tryz.zeroValue201
 t75 := Tryz.underlying112
 a75 := Tryz.isAgg112
 z75 := Tryz.sizeOf112
 v75 := Tryz.zeroValue112
 t76 := Tryz.underlying113
 a76 := Tryz.isAgg113
 z76 := Tryz.sizeOf113
 v76 := Tryz.zeroValue113
 t85 := Tryz.underlying192
 a85 := Tryz.isAgg192
 z85 := Tryz.sizeOf192
 v85 := Tryz.zeroValue192
 t127 := Tryz.underlying115
 a127 := Tryz.isAgg115
 z127 := Tryz.sizeOf115
 v127 := Tryz.zeroValue115
 t143 := Tryz.underlying212
 a143 := Tryz.isAgg212
 z143 := Tryz.sizeOf212
 v143 := Tryz.zeroValue212
 t145 := Tryz.underlying214
 a145 := Tryz.isAgg214
 z145 := Tryz.sizeOf214
 v145 := Tryz.zeroValue214
 t167 := Tryz.underlying191
 a167 := Tryz.isAgg191
 z167 := Tryz.sizeOf191
 v167 := Tryz.zeroValue191
 t168 := Tryz.underlying194
 a168 := Tryz.isAgg194
 z168 := Tryz.sizeOf194
 v168 := Tryz.zeroValue194
 t171 := Tryz.underlying215
 a171 := Tryz.isAgg215
 z171 := Tryz.sizeOf215
 v171 := Tryz.zeroValue215
 t173 := Tryz.underlying218
 a173 := Tryz.isAgg218
 z173 := Tryz.sizeOf218
 v173 := Tryz.zeroValue218
 t175 := Tryz.underlying202
 a175 := Tryz.isAgg202
 z175 := Tryz.sizeOf202
 v175 := Tryz.zeroValue202
 t210 := Tryz.underlying207
 a210 := Tryz.isAgg207
 z210 := Tryz.sizeOf207
 v210 := Tryz.zeroValue207
 t212 := Tryz.underlying221
 a212 := Tryz.isAgg221
 z212 := Tryz.sizeOf221
 v212 := Tryz.zeroValue221
 t213 := Tryz.underlying223
 a213 := Tryz.isAgg223
 z213 := Tryz.sizeOf223
 t232 := Tryz.underlying227
 a232 := Tryz.isAgg227
 z232 := Tryz.sizeOf227
 v232 := Tryz.zeroValue227
 t233 := Tryz.underlying228
 a233 := Tryz.isAgg228
 z233 := Tryz.sizeOf228
 v233 := Tryz.zeroValue228
 g15 := by kernel_rfl
 g16 := by kernel_rfl
 g17 := by kernel_rfl
 g18 := by kernel_rfl
 g19 := by kernel_rfl }
theorem Mem.frozenAt {I : Heap} {L : Bj} {b k m : Nat} {o : Obj} {w : World} (h : Mem I ((b, o) :: L) w) : Mem I L (w.freeze ⟨b, k, none⟩ m) := by
 obtain ⟨h1, h2, h3⟩ := h
 have hb := h2 (b, o) (.head _)
 have hn : b ∉ L.map (·.1) ∧ (L.map (·.1)).Nodup := List.nodup_cons.1 h3
 unfold World.freeze
 split
 ·exact ⟨h1, fun p hp => h2 p (.tail _ hp), hn.2⟩
 ·refine ⟨⟨fun c u hc => ?_, h1.2⟩, fun p hp => ⟨?_, (h2 p (.tail _ hp)).2⟩, hn.2⟩
  ·have hne : b ≠ c := fun e => by subst e; rw [hb.2] at hc; cases hc
   simp only [Array.getElem?_modify, if_neg hne]
   exact h1.1 c u hc
  ·have hne : b ≠ p.1 := fun e => hn.1 (e ▸ List.mem_map.2 ⟨p, hp, rfl⟩)
   simp only [Array.getElem?_modify, if_neg hne]
   exact (h2 p (.tail _ hp)).1
theorem Re : ∀ (l : As) (a : Nat), l.all E6 = true → Lib.decFrom a l = some (l.foldl (fun n b => 10 * n + (b.toNat - 48)) a)
 | [], a, _ => rfl
 | b :: r, a, h => by
  simp only [List.all_cons, Bool.and_eq_true] at h
  have hb : 48 ≤ b.toNat ∧ b.toNat ≤ 57 := by have := h.1; simpa [E6] using this
  have := Re r (a * 10 + (b.toNat - 48)) h.2
  rw [Nat.mul_comm a 10] at this
  simp only [Lib.decFrom, Lib.digitVal, if_pos hb, List.foldl_cons]
  rw [Nat.mul_comm a 10]; exact this
theorem Zf {l : As} (h : l.all E6 = true) (h1 : 1 ≤ l.length) : Lib.decNat l = some (Fb l) := by
 unfold Lib.decNat
 rw [if_neg (by cases l <;> simp at h1 ⊢)]
 exact Re l 0 h
theorem Aco {s : As} (h : Ci s = true) : Lib.atoi s = some (Fq s) := by
 unfold Fq
 split
 ·rename_i h0; subst h0; rfl
 ·rename_i h0
  simp only [Ci, h0, decide_false, Bool.false_or, Bool.and_eq_true, decide_eq_true_eq] at h
  have h1 := Zf h.1.2 h.1.1.1
  cases s with
  | nil => simp [Ef] at h
  | cons b r =>
   simp only [List.getD_cons_zero] at *
   by_cases h45 : b.toNat = 45
   ·have hb : (b == 45) = true := by simpa using UInt8.toNat_inj.1 (by rw [h45]; rfl)
    have hu : Ef (b :: r) = r := by unfold Ef; simp [h45]
    rw [hu] at h1 ⊢
    simp only [Lib.atoi, hb, if_true, h1, h45]
    simp
   ·have hb : (b == 45) = false := by
     simp only [beq_eq_false_iff_ne]; intro e; exact h45 (by rw [e]; rfl)
    have hu : Ef (b :: r) = b :: r := by unfold Ef; simp [h45]
    rw [hu] at h1 h ⊢
    have hd : E6 b = true := by have := h.1.2; simp only [List.all_cons, Bool.and_eq_true] at this; exact this.1
    have h43 : (b == 43) = false := by
     simp only [beq_eq_false_iff_ne]; intro e; rw [e] at hd; exact absurd hd Ad
    simp only [Lib.atoi, hb, h43, Bool.false_eq_true, if_false, h1, h45]
    simp
theorem Xv (s : As) (hs : Ci s = true) (I : Heap) (L : Bj) : Fun Tryz.prog 64 [.string (str s)] I L (E2 (.int .i64 (Fq s)) I L) := by
 have hat : Fun Tryz.prog 113 [.string (str s)] I L (E2 (.tuple #[.int .i64 (Fq s), .nilIface]) I L) := by
  refine ⟨fun w hm => (Any.strconv_Atoi Afj (str s) (Fq s) ?_ ?_ w).mono ?_⟩
  ·have := Ny hs
   show s.toArray.size ≤ 18
   simp; omega
  ·show Lib.atoi (s.toArray.toList) = _
   exact Aco hs
  ·rintro e w' ⟨rfl, t, rfl⟩
   exact ⟨_, I, L, rfl, .refl _, Mem.frozenAt (hm.alloc _), rfl, rfl, rfl⟩
 refine Ao Ae ?_; refine Se rfl (Oa rfl (Ab (Se rfl (Om rfl ?_)))); refine Cx rfl .free rfl hat ?_; rintro _ _ _ _ ⟨rfl, rfl, rfl⟩; refine Om rfl (Oe rfl rfl (Oe rfl rfl (Oa rfl (Oa rfl (Ab (Se rfl (Om rfl (Oa rfl (Ab (Am (.tmp rfl .nil) ?_)))))))))); refine only rfl ?_
 simp [C2, *]
section
variable {P : Program} {f : FuncId} {n : Nat} {I₀ : Heap} {Q : Cv} {k : List Item} {E : Hg} {I : Heap} {L : Bj} {ops : Array Oper} {d : Nat} {ty : TypeId} {pos : String} {af : Array Edge} {g : Option (Nat × Bool)} {l : List Oper}
theorem Aeb {T T' : TypeId} {x y : Operand} {a : Int} {b : Nat} (hx : Ch E x = some (.int .i64 a)) (hy : Ch E y = some (.int .i64 (b : Nat))) (hb : 0 < b) (hg : Wants ops E g) (hdn : Nat.blt d n = true)
  (h : A8 P f n I₀ Q ops l k ((d, .int .i64 (a.tmod (b : Nat))) :: E) I L) : A8 P f n I₀ Q ops (⟨some d, .binOp .rem T x y T', ty, pos, af, g⟩ :: l) k E I L := Es (fun ac w he _ => by
 simp only [execOp, he.eval hx, he.eval hy]
 refine Ag (a := _) (w' := w) ?_ |>.trans rfl
 rw [Ag (F0 w)]
 have h0 : ¬ ((b : Int) = 0) := by omega
 simp only [binOp, Op.intDiv, if_neg h0, ne_eq, not_true_eq_false, if_false]; rfl) hg hdn h
end
theorem Aat (a : Int) : -1000 < a.tmod 1000 ∧ a.tmod 1000 < 1000 := by
 have h1 := Int.lt_tmod_of_pos a (b := 1000) Ad
 have h2 := Int.tmod_lt_of_pos a (b := 1000) Ad
 omega
theorem V8 (n : Int) (h0 : -2000000 ≤ n) (h1 : n ≤ 2000000) (I : Heap) (L : Bj) : Fun Tryz.prog 159 [.int .i64 n] I L (E2 (.int .i64 (No n)) I L) := by
 have hb := Aat (n + 500)
 have hb2 := Aat ((n + 500).tmod 1000 + 1000)
 refine Ao Ae ?_; refine Se rfl (Oa rfl (Ab (Se rfl (Om rfl ?_)))); refine Or rfl rfl rfl ?_; refine Aeb (b := 1000) rfl rfl Ad .free rfl ?_; refine N2 (a := (n + 500).tmod 1000) rfl rfl rfl Aa .free rfl ?_; refine Aeb (a := (n + 500).tmod 1000 + 1000) (b := 1000) rfl rfl Ad .free rfl ?_; refine N2 (a := ((n + 500).tmod 1000 + 1000).tmod 1000) rfl rfl rfl Aa .free rfl ?_; refine Oa rfl (Ab (Am (.tmp rfl .nil) ?_)); refine only rfl ?_
 exact congrArg (Value.int .i64) (Ab9 n)
theorem Agr {x y : Int} (hx : -999 ≤ x ∧ x ≤ 999) (hy : -999 ≤ y ∧ y ≤ 999) : -998001 ≤ x * y ∧ x * y ≤ 998001 := by
 have h1 : (x * y).natAbs ≤ 999 * 999 := by rw [Int.natAbs_mul]; exact Nat.mul_le_mul Aa Aa
 omega
theorem Ls {o : B5} (h : o.txt = [43]) (x y : Int) : o.calc x y = x + y := by
 obtain rfl : o = .add := B5.txt_inj (o' := .add) h
 rfl
theorem Lu {o : B5} (h : o.txt = [45]) (x y : Int) : o.calc x y = x - y := by
 obtain rfl : o = .sub := B5.txt_inj (o' := .sub) h
 rfl
theorem Lt {o : B5} (h1 : ¬ o.txt = [43]) (h2 : ¬ o.txt = [45]) (x y : Int) : o.calc x y = x * y := by
 cases o with
 | add => exact absurd rfl h1
 | sub => exact absurd rfl h2
 | _ => rfl
theorem Ac7 {I : Heap} (ht : Tab I) (o : B5) {a b : As} (ha : Ci a = true) (hb : Ci b = true) (L : Bj) : Fun Tryz.prog 115 [.string (str o.txt), .string (str a), .string (str b)] I L (E2 (.string (str (Tl o a b))) I L) := by
 have xa := U7 ha
 have xb := U7 hb
 have hm := Agr xa xb
 refine Ao Ae ?_; refine Se rfl (Oa rfl (Ab (Se rfl (Om rfl ?_)))); refine Ca rfl (Xv a ha _ _) ?_; rintro _ _ _ _ ⟨rfl, rfl, rfl⟩; refine Om rfl ?_; refine Ca rfl (Xv b hb _ _) ?_; rintro _ _ _ _ ⟨rfl, rfl, rfl⟩; refine Oa rfl (Oa rfl (Ab (Ah (Se rfl (Om rfl (Ab (Aq (Se rfl (Od rfl rfl rfl (Oa rfl (Ab ?_))))))))))); refine A6 rfl ?_ ?_
 ·intro c0
  try simp only [nb] at c0
  refine Al rfl (Om rfl (Om rfl ?_)); refine Or rfl rfl rfl ?_; refine Oa rfl (Ab (Ap (Se rfl (Om rfl ?_)))); refine Ca rfl (V8 _ Aa Aa _ _) ?_; rintro _ _ _ _ ⟨rfl, rfl, rfl⟩; refine Ca rfl (Ic ht _ Lo Lo _) ?_; rintro _ _ _ _ ⟨rfl, rfl, rfl⟩; refine Oa rfl (Ab (Am (.tmp rfl .nil) ?_)); refine only rfl ?_
  unfold Tl
  first
   | (rw [Ls c0]; done)
   | (rw [Lu c1]; done)
   | (rw [Lt c0 c1]; done)
   | (rw [Ls c0]; rfl)
   | (rw [Lu c1]; rfl)
   | (rw [Lt c0 c1]; rfl)
 intro c0
 try simp only [nb] at c0
 refine Se rfl (Od rfl rfl rfl (Oa rfl (Ab ?_))); refine A6 rfl ?_ ?_
 ·intro c1
  try simp only [nb] at c1
  refine Al rfl (Om rfl (Om rfl ?_)); refine Or rfl rfl rfl ?_; refine Oa rfl (Ab (Ap (Se rfl (Om rfl ?_)))); refine Ca rfl (V8 _ Aa Aa _ _) ?_; rintro _ _ _ _ ⟨rfl, rfl, rfl⟩; refine Ca rfl (Ic ht _ Lo Lo _) ?_; rintro _ _ _ _ ⟨rfl, rfl, rfl⟩; refine Oa rfl (Ab (Am (.tmp rfl .nil) ?_)); refine only rfl ?_
  unfold Tl
  first
   | (rw [Ls c0]; done)
   | (rw [Lu c1]; done)
   | (rw [Lt c0 c1]; done)
   | (rw [Ls c0]; rfl)
   | (rw [Lu c1]; rfl)
   | (rw [Lt c0 c1]; rfl)
 intro c1
 try simp only [nb] at c1
 refine Al rfl (Om rfl (Om rfl ?_)); refine Or rfl rfl rfl ?_; refine Oa rfl (Ab (Ap (Se rfl (Om rfl ?_)))); refine Ca rfl (V8 _ Aa Aa _ _) ?_; rintro _ _ _ _ ⟨rfl, rfl, rfl⟩; refine Ca rfl (Ic ht _ Lo Lo _) ?_; rintro _ _ _ _ ⟨rfl, rfl, rfl⟩; refine Oa rfl (Ab (Am (.tmp rfl .nil) ?_)); refine only rfl ?_
 unfold Tl
 first
  | (rw [Ls c0]; done)
  | (rw [Lu c1]; done)
  | (rw [Lt c0 c1]; done)
  | (rw [Ls c0]; rfl)
  | (rw [Lu c1]; rfl)
  | (rw [Lt c0 c1]; rfl)
def evT (t : Tree) : List Nat := if t.head = Gy then [1] else if t.head = Dz then [2] else if t.head = Dk then [] else D2 t
theorem Gr {I : Heap} {t : Tree} {cs : List Value} (h : Rep I t cs) (L : Bj) : Fun Tryz.prog 85 [.agg cs.toArray] I L (KD (evT t) L) := by
 obtain ⟨oa, c, vs, rfl, hrl, hs, hn, hc, ha, hp⟩ := h.open; refine Ao Ae ?_; refine Se rfl ?_; refine Cm rfl rfl .free rfl ?_; intro b1; refine Oa rfl (Ab (Ah (Se rfl ?_))); refine Az rfl .free rfl ?_; refine Ca rfl (Bl h _) ?_; rintro _ _ _ _ ⟨rfl, rfl, rfl⟩; refine Ab (Aq (Se rfl (Od rfl rfl rfl (Oa rfl (Ab ?_))))); refine A6 rfl ?_ ?_
 ·intro c0
  try simp only [nb] at c0
  refine Se rfl ?_; refine Ol rfl rfl ?_; intro b7; refine Oa rfl (Ab ?_); refine Bu ?_; intro hz; refine Am (.tmp rfl .nil) ?_; refine ⟨_, L, hz, fun _ h => h.drop, Jy (l := [1]) ?_⟩
  unfold evT Gy Dz Dk; rw [if_pos c0]
 intro c0
 try simp only [nb] at c0
 refine Se rfl (Od rfl rfl rfl (Oa rfl (Ab ?_))); refine A6 rfl ?_ ?_
 ·intro c1
  try simp only [nb] at c1
  refine Se rfl ?_; refine Ol rfl rfl ?_; intro b10; refine Oa rfl (Ab ?_); refine Bu ?_; intro hz; refine Am (.tmp rfl .nil) ?_; refine ⟨_, L, hz, fun _ h => h.drop, Jy (l := [2]) ?_⟩
  unfold evT Gy Dz Dk; rw [if_neg c0, if_pos c1]
 intro c1
 try simp only [nb] at c1
 refine Se rfl (Od rfl rfl rfl (Oa rfl (Ab ?_))); refine A6 rfl ?_ ?_
 ·intro c2
  try simp only [nb] at c2
  refine Se rfl (Oa rfl (Ab (Am (.tmp rfl .nil) ?_)))
  have hk : evT t = [] := by unfold evT Gy Dz Dk; rw [if_neg c0, if_neg c1, if_pos c2]
  exact ⟨I, L, .refl _, fun _ h => h.drop, none, 0, by rw [hk]; rfl, ⟨by simp, fun _ => hk, by rw [hk]; simp⟩, rfl⟩
 intro c2
 try simp only [nb] at c2
 refine Ak (Ap (Se rfl ?_)); refine Az rfl .free rfl ?_; refine Ca rfl (Du h _) ?_; rintro _ J _ e1 ⟨o1, k1, rfl, hk, rfl⟩; refine Oa rfl (Ab (Am (.tmp rfl .nil) ?_))
 have hke : evT t = D2 t := by unfold evT Gy Dz Dk; rw [if_neg c0, if_neg c1, if_neg c2]
 exact ⟨J, L, e1, fun _ h => h.drop, o1, k1, by rw [hke]; rfl, by rw [hke]; exact hk, rfl⟩
def eag (h : As) : List Nat := if h = Gy ∨ h = Gw ∨ h = Gx then [1] else if h = Dz then [2] else if h = Dk then [] else [1, 2]
mutual
inductive KV where
 | num (s : As)
 | pair (a b : KV)
 | clo (f x : As) (s t : Ty) (b : Ex) (r : KE)
inductive KE where
 | nil
 | cons (n : As) (v : KV) (up : KE)
end
def KE.look : KE → As → Option KV
 | .nil, _ => none
 | .cons m v up, n => if m = n then some v else up.look n
structure Res where
 v : Option KV
 left : Nat
 stuck : Bool
def B5.act : B5 → KV → KV → Option KV
 | .pair, u, w => some (.pair u w)
 | .call, _, _ => none
 | o, .num a, .num b => some (.num (Tl o a b))
 | _, _, _ => none
def U2.act : U2 → KV → Option KV
 | .fst, .pair a _ => some a
 | .snd, .pair _ b => some b
 | _, _ => none
def Res.of (o : Option KV) (n : Nat) : Res := ⟨o, n, o.isNone⟩
def ev : Nat → Nat → Ex → KE → Res
 | 0, _, _, _ => ⟨none, 0, false⟩
 | _ + 1, 0, _, _ => ⟨none, 0, false⟩
 | _ + 1, n + 1, .num s, _ => ⟨some (.num s), n, false⟩
 | _ + 1, n + 1, .name s, k => ⟨k.look s, n, false⟩
 | _ + 1, n + 1, .fn f x s t b, k => ⟨some (.clo f x s t b k), n, false⟩
 | N + 1, n + 1, .bin o a b, k =>
  match (ev N n a k).v with
  | none => ev N n a k
  | some u => match (ev N (ev N n a k).left b k).v with
   | none => ev N (ev N n a k).left b k
   | some w => match o, u with
    | .call, .clo f x s t c r => ev N (ev N (ev N n a k).left b k).left c (.cons x w (.cons f (.clo f x s t c r) r))
    | o, u => .of (o.act u w) (ev N (ev N n a k).left b k).left
 | N + 1, n + 1, .ite a b c, k =>
  match (ev N n a k).v with
  | none => ev N n a k
  | some (.num s) => ev N (ev N n a k).left (if s = [48] then b else c) k
  | some _ => ⟨none, (ev N n a k).left, true⟩
 | N + 1, n + 1, .lt x a b, k =>
  match (ev N n a k).v with
  | none => ev N n a k
  | some u => ev N (ev N n a k).left b (.cons x u k)
 | N + 1, n + 1, .un o a, k =>
  match (ev N n a k).v with
  | none => ev N n a k
  | some u => .of (o.act u) (ev N n a k).left
theorem V2 : ∀ (N n : Nat) (e : Ex) (k : KE), (ev N n e k).left ≤ n := by
 intro N
 induction N with
 | zero => intro n e k; exact Nat.zero_le _
 | succ N ih =>
  intro n e k
  cases n with
  | zero => exact Nat.zero_le _
  | succ n =>
   cases e with
   | num s => exact Nat.le_succ _
   | name s => exact Nat.le_succ _
   | fn f x s t b => exact Nat.le_succ _
   | bin o a b =>
    simp only [ev]
    have h1 := ih n a k
    have h2 := ih (ev N n a k).left b k
    cases hp : (ev N n a k).v with
    | none => simp only; omega
    | some u =>
     simp only
     cases hq : (ev N (ev N n a k).left b k).v with
     | none => simp only; omega
     | some w =>
      simp only
      split
      ·exact Nat.le_trans (ih _ _ _) Aa
      ·simp only [Res.of]; omega
   | ite a b c =>
    simp only [ev]
    have h1 := ih n a k
    split
    ·omega
    ·exact Nat.le_trans (ih _ _ _) Aa
    ·simp only; omega
   | lt x a b =>
    simp only [ev]
    have h1 := ih n a k
    split
    ·omega
    ·exact Nat.le_trans (ih _ _ _) Aa
   | un o a =>
    simp only [ev]
    have h1 := ih n a k
    split
    ·omega
    ·simp only [Res.of]; omega
theorem Ae7 : ∀ (N n : Nat) (e : Ex) (k : KE), n < N → ev (N + 1) n e k = ev N n e k := by
 intro N
 induction N with
 | zero => intro n e k h; omega
 | succ N ih =>
  intro n e k h
  cases n with
  | zero => rfl
  | succ n =>
   have key : ∀ m e k, m ≤ n → ev (N + 1) m e k = ev N m e k := fun m e k hm => ih m e k Aa
   have l1 := fun e k => V2 N n e k
   cases e with
   | num s => rfl
   | name s => rfl
   | fn f x s t b => rfl
   | bin o a b =>
    have l2 := V2 N (ev N n a k).left b k
    have l3 := l1 a k
    rw [ev, ev, key n a k (Nat.le_refl _), key _ b k l3]
    cases (ev N n a k).v with
    | none => rfl
    | some u =>
     simp only
     cases (ev N (ev N n a k).left b k).v with
     | none => rfl
     | some w =>
      simp only
      split
      ·exact key _ _ _ Aa
      ·rfl
   | ite a b c =>
    have l3 := l1 a k
    rw [ev, ev, key n a k (Nat.le_refl _)]
    split
    ·rfl
    ·exact key _ _ _ l3
    ·rfl
   | lt x a b =>
    have l3 := l1 a k
    rw [ev, ev, key n a k (Nat.le_refl _)]
    split
    ·rfl
    ·exact key _ _ _ l3
   | un o a =>
    rw [ev, ev, key n a k (Nat.le_refl _)]
theorem V1 {N n : Nat} (h : n < N) (e : Ex) (k : KE) : ev N n e k = ev (n + 1) n e k := by
 induction N with
 | zero => omega
 | succ N ih =>
  rcases Nat.lt_or_ge n N with g | g
  ·rw [Ae7 N n e k g]; exact ih g
  ·rw [show N = n by omega]
def eval (n : Nat) (e : Ex) (k : KE) : Res := ev (n + 1) n e k
theorem Co (n : Nat) (e : Ex) (k : KE) : (eval n e k).left ≤ n := V2 _ _ _ _
theorem Lw (e : Ex) (k : KE) : eval 0 e k = ⟨none, 0, false⟩ := rfl
theorem Kn (n : Nat) (s : As) (k : KE) : eval (n + 1) (.num s) k = ⟨some (.num s), n, false⟩ := rfl
theorem Hv (n : Nat) (s : As) (k : KE) : eval (n + 1) (.name s) k = ⟨k.look s, n, false⟩ := rfl
theorem Kc (n : Nat) (f x : As) (s t : Ty) (b : Ex) (k : KE) : eval (n + 1) (.fn f x s t b) k = ⟨some (.clo f x s t b k), n, false⟩ := rfl
theorem I3 (n : Nat) (o : B5) (a b : Ex) (k : KE) : eval (n + 1) (.bin o a b) k =
  match (eval n a k).v with
  | none => eval n a k
  | some u => match (eval (eval n a k).left b k).v with
   | none => eval (eval n a k).left b k
   | some w => match o, u with
    | .call, .clo f x s t c r => eval (eval (eval n a k).left b k).left c (.cons x w (.cons f (.clo f x s t c r) r))
    | o, u => .of (o.act u w) (eval (eval n a k).left b k).left := by
 have h1 := Co n a k
 have h2 := Co (eval n a k).left b k
 show ev (n + 1 + 1) (n + 1) (.bin o a b) k = _
 rw [ev]
 have e1 : ev (n + 1) n a k = eval n a k := rfl
 have e2 : ev (n + 1) (eval n a k).left b k = eval (eval n a k).left b k := V1 Aa _ _
 rw [e1, e2]
 cases (eval n a k).v with
 | none => rfl
 | some u =>
  simp only
  cases (eval (eval n a k).left b k).v with
  | none => rfl
  | some w =>
   simp only
   split
   ·exact V1 Aa _ _
   ·rfl
theorem Hm (n : Nat) (a b c : Ex) (k : KE) : eval (n + 1) (.ite a b c) k =
  match (eval n a k).v with
  | none => eval n a k
  | some (.num s) => eval (eval n a k).left (if s = [48] then b else c) k
  | some _ => ⟨none, (eval n a k).left, true⟩ := by
 have h1 := Co n a k
 show ev (n + 1 + 1) (n + 1) (.ite a b c) k = _
 rw [ev]
 have e1 : ev (n + 1) n a k = eval n a k := rfl
 rw [e1]
 split
 ·rfl
 ·exact V1 Aa _ _
 ·rfl
theorem I4 (n : Nat) (x : As) (a b : Ex) (k : KE) : eval (n + 1) (.lt x a b) k =
  match (eval n a k).v with
  | none => eval n a k
  | some u => eval (eval n a k).left b (.cons x u k) := by
 have h1 := Co n a k
 show ev (n + 1 + 1) (n + 1) (.lt x a b) k = _
 rw [ev]
 have e1 : ev (n + 1) n a k = eval n a k := rfl
 rw [e1]
 split
 ·rfl
 ·exact V1 Aa _ _
theorem I5 (n : Nat) (o : U2) (a : Ex) (k : KE) : eval (n + 1) (.un o a) k =
  match (eval n a k).v with
  | none => eval n a k
  | some u => .of (o.act u) (eval n a k).left := rfl
end Go.Proofs.YtmfagaajiakgoaaGreatDoor

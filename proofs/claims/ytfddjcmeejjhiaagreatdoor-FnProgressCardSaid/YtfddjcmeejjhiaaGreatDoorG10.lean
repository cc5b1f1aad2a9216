/- The type of an expression by its text, by the reference: the walk. No conditions. -/
import Derived.Test.YtfddjcmeejjhiaaGreatDoorG9

namespace Go.Proofs.YtfddjcmeejjhiaaGreatDoor
set_option maxRecDepth 100000
set_option linter.unusedVariables false
set_option linter.unusedSimpArgs false

structure EnvG (I : Heap) (l : List Aq) (m : List Ty) (oa : Option Addr) (c : Nat) (ob : Option Addr) (c' : Nat) : Prop where
 names : Strs I oa l c
 types : Strs I ob (tx m) c'
 len : l.length = m.length
 small : smallL m
theorem EnvG.mono {I I' : Heap} (hle : HLe I I') {l : List Aq} {m : List Ty} {oa : Option Addr} {c : Nat} {ob : Option Addr} {c' : Nat} (h : EnvG I l m oa c ob c') : EnvG I' l m oa c ob c' :=
 ⟨h.names.mono hle, h.types.mono hle, h.len, h.small⟩
structure GS where
 J : Heap
 i : Nat
 b : Nat
 sp : List Value
 c : Nat
def gv (e : Ex) (l : List Aq) (m : List Ty) (i : Nat) : List Value := (((e.sub.take i).map fun a => a.ty l m).map Jf).map sv
theorem Ab0 {e : Ex} {l : List Aq} {m : List Ty} {i : Nat} (h : i < e.sub.length) : gv e l m (i + 1) = gv e l m i ++ [sv (Jf (e.sub[i].ty l m))] := by
 unfold gv; rw [List.take_succ_eq_append_getElem h]; simp only [List.map_append, List.map_cons, List.map_nil]
set_option maxHeartbeats 1000000 in
theorem Aag : ∀ (n : Nat) {I : Heap} {l : List Aq} {m : List Ty} {oa ob : Option Addr} {c c' : Nat} {e : Ex} {cs : List Value} (_ : SizeOf.sizeOf e < n) (_ : EnvG I l m oa c ob c') (_ : Rep I e.tree cs) (_ : e.ok = true) (_ : l.length + 2 * e.size ≤ Ap) (L : Bf),
  Fun Tryz.prog 89 [.agg cs.toArray, .slice oa l.length c, .slice ob (tx m).length c'] I L (ST (Jf (e.ty l m)) L) := by
 intro n
 induction n with
 | zero => intro I l m oa ob c c' e cs h; omega
 | succ n ihn =>
  intro I l m oa ob c c' e cs hlt he h hok hroom L; obtain ⟨oc, cc, oaf, cf, rfl, hf⟩ := h.at'
  have ha := hf.alen
  have hsp := e.size_pos
  have hlm := he.len
  unfold Ap at hroom
  have hp := hf.len
  unfold Ap at hp
  have hfn := hf.nil
  refine Ai (by simp) ?_; refine Se rfl ?_; refine Ct rfl rfl .free rfl ?_; intro b3; refine Oa rfl (Aa (Ac (Se rfl (Oh rfl ?_)))); refine Bi rfl .free rfl ?_; refine Od rfl rfl rfl (Aa ?_); refine Ar rfl ?_ ?_
  ·intro c0
   try simp only [nb] at c0
   have hb : e.bare = true := by
    cases hb : e.bare with
    | true => rfl
    | false => exact absurd ((Ex.atom_iff hok).2 hb) c0
   refine Ac (Se rfl (Oh rfl ?_)); refine Bi rfl .free rfl ?_; refine Ca rfl (Ky e.tree.atom ha _ _) ?_; rintro _ _ _ _ ⟨rfl, rfl, rfl⟩; refine Aa ?_; refine Ar rfl ?_ ?_
   ·intro c1
    try simp only [nb] at c1
    refine Se rfl (Om rfl (Om rfl (Oh rfl ?_))); refine Bi rfl .free rfl ?_; refine Ca rfl (Ux he.names he.types (by simp [hlm]) e.tree.atom _) ?_; rintro _ _ _ _ ⟨rfl, rfl, rfl⟩; refine Oa rfl (Aa (Ad (.tmp rfl .nil) ?_)); refine ⟨I, L, .refl _, Ax, ?_, rfl⟩
    cases e with
    | num s => have h1 := Fh (show Bj s = true from c1); rw [show Cc s = true from hok] at h1; cases h1
    | name s => rw [Ex.ty_name, ← Wq hlm]; rfl
    | _ => cases hb
   intro c1
   try simp only [nb] at c1
   refine Ae (Se rfl (Oa rfl (Aa (Ad (.tmp rfl .nil) ?_)))); refine ⟨I, L, .refl _, Ax, ?_, rfl⟩
   cases e with
   | num s => rfl
   | name s => have h1 := c1.symm.trans (show Bj s = true from hok); cases h1
   | _ => cases hb
  intro c0
  try simp only [nb] at c0
  have hb : e.bare = false := (Ex.atom_iff hok).1 (by simpa using c0)
  have hpos : 0 < e.tree.parts.length := by
   rw [Ex.bare_parts] at hb
   have : e.tree.parts ≠ [] := by intro hh; rw [hh] at hb; cases hb
   exact List.length_pos_iff.2 this
  have hhd := Kb hpos
  refine Ae (Ac (Se rfl (Oh rfl ?_))); refine Bi rfl .free rfl ?_
  first | refine A8 rfl rfl 0 rfl .free rfl ?_ | refine A9 rfl rfl 0 rfl .free rfl ?_
  refine Bq rfl .free rfl ?_; refine Iz rfl .free rfl ?_; refine Aa (Al (Se rfl (Od rfl rfl rfl (Oa rfl (Aa ?_))))); refine Ar rfl ?_ ?_
  ·intro c2
   try simp only [nb] at c2
   obtain ⟨x, a, b, rfl⟩ := Ex.of_let (hhd.trans c2)
   simp only [Ex.ok, Bool.and_eq_true] at hok
   simp only [Ex.lt.sizeOf_spec] at hlt
   simp only [Ex.size] at hroom
   have hlen : (Ex.lt x a b).tree.parts.length = 4 := rfl
   have hxl := Ex.name_len hok.1.1
   refine Se rfl (Oh rfl ?_); refine Bi rfl .free rfl ?_
   first | refine A8 rfl rfl 2 rfl .free rfl ?_ | refine A9 rfl rfl 2 rfl .free rfl ?_
   refine Dn rfl .free rfl ?_; refine Om rfl (Om rfl ?_); refine Ca rfl (ihn (e := a) (by omega) he (hf.as 2 a.tree (by omega) rfl) hok.1.2 (by unfold Ap; omega) _) ?_; rintro _ J1 _ e1 ⟨rfl, rfl⟩
   have hf := hf.mono e1
   have he := he.mono e1
   have hty := Ex.ty_lt x a b l m
   have hsm := Ex.ty_small (l := l) hok.1.2 he.small
   generalize a.ty l m = ot at hty hsm ⊢
   refine Oa rfl (Aa (Ac (Se rfl (Om rfl (Od rfl rfl rfl (Aa ?_)))))); refine Ar rfl ?_ ?_
   ·intro c3
    try simp only [nb] at c3
    refine Se rfl (Oa rfl (Aa (Ad (.tmp rfl .nil) ?_))); refine ⟨J1, L, e1, Ax, ?_, rfl⟩; rw [hty, Tm.1 c3]; rfl
   intro c3
   try simp only [nb] at c3
   obtain ⟨s, rfl⟩ : ∃ s, ot = some s := by
    cases ot with
    | none => exact absurd rfl c3
    | some s => exact ⟨s, rfl⟩
   have hs16 := hsm s rfl
   have htl : s.tree.text.length ≤ Ap := by have := Ty.text_len hs16; unfold Ap; omega
   have hlr : HLe J1 J1 := .refl _
   simp only at hty
   refine Ae (Ac ?_); refine Cz 18 rfl rfl ?_; refine Da 0 rfl (Ah rfl) ?_; refine Dt 1 [18] rfl (Bl rfl) ?_
   first | refine Da 2 rfl (A5 rfl rfl 3 rfl) ?_ | refine Da 2 rfl (A6 rfl rfl 3 rfl) ?_
   refine Dt 3 [18] rfl (Bb rfl) ?_; refine Da 4 rfl (Af rfl) ?_; refine Da 5 rfl (Ah rfl) ?_; refine Dt 6 [18] rfl (Bl rfl) ?_
   first | refine Da 7 rfl (A5 rfl rfl 1 rfl) ?_ | refine Da 7 rfl (A6 rfl rfl 1 rfl) ?_
   refine Da 8 rfl (A1 rfl) ?_; refine Dt 9 [18] rfl (Ha rfl) ?_; refine Da 12 rfl (Af rfl) ?_; refine Da 13 rfl (Af rfl) ?_; refine Ci 10 14 (by kernel_rfl) ?_ ?_
   ·skip
    refine Fl 10 rfl rfl rfl rfl (by rfl) (by rfl) (by rfl) (by decide) (by decide) (by rfl) .free rfl (.inr Aj) ?_; intro b51; refine Cx ?_; intro hz
    have hlr := hlr.trans hz
    have hf := hf.mono hz
    have he := he.mono hz
    have hk1 := Fg hz hxl
    try have hk2 := hk2.mono hz
    refine Ci 11 14 (by kernel_rfl) ?_ ?_
    ·skip
     refine Ft 11 rfl rfl rfl .free rfl (Er he.names hk1 (by simp; unfold Ap; omega) _) ?_; rintro _ J2 _ e2 ⟨o3, c3', rfl, hn3, rfl⟩
     have hlr := hlr.trans e2
     have hf := hf.mono e2
     have he := he.mono e2
     try have hk2 := hk2.mono e2
     refine Hx ?_; refine Et 14 rfl (by kernel_rfl) rfl rfl rfl (by rfl) (by rfl) (by rfl) (by decide) (by decide) (by rfl) .free rfl (.inr Aj) ?_; intro b55; refine Cx ?_; intro hz
     have hlr := hlr.trans hz
     have hf := hf.mono hz
     have he := he.mono hz
     have hk2 := Fg (x := s.tree.text) hz htl
     try have hk1 := hk1.mono hz
     try have hn3 := hn3.mono hz
     refine Dc 15 rfl rfl (Er he.types hk2 (by simp; unfold Ap; omega) _) ?_; rintro _ J3 _ e3 ⟨o4, c4', rfl, hn4, rfl⟩
     have hlr := hlr.trans e3
     have hf := hf.mono e3
     have he := he.mono e3
     have hn3 := hn3.mono e3
     rw [show tx m ++ [s.tree.text] = tx (m ++ [s]) by simp [tx]] at hn4 ⊢; refine Hx ?_; refine Dc 16 rfl rfl (ihn (e := b) (by omega) ⟨hn3, hn4, by simp [hlm], he.small.add hs16⟩ (hf.as 3 b.tree (by omega) rfl) hok.2 (by simp; unfold Ap; omega) _) ?_; rintro _ J4 _ e4 ⟨rfl, rfl⟩
     have hlr := hlr.trans e4
     refine Hx ?_; refine Da 17 rfl (Av rfl) ?_; refine Ao (by kernel_rfl) ?_; refine Ad (.tmp rfl .nil) ?_
     exact ⟨J4, L, e1.trans hlr, Ax, by rw [hty]; rfl, rfl⟩
    ·skip
     refine Fl 14 rfl rfl rfl rfl (by rfl) (by rfl) (by rfl) (by decide) (by decide) (by rfl) .free rfl (.inr Aj) ?_; intro b55; refine Cx ?_; intro hz
     have hlr := hlr.trans hz
     have hf := hf.mono hz
     have he := he.mono hz
     have hk2 := Fg (x := s.tree.text) hz htl
     try have hk1 := hk1.mono hz
     try have hn3 := hn3.mono hz
     refine Dc 11 rfl rfl (Er he.names hk1 (by simp; unfold Ap; omega) _) ?_; rintro _ J2 _ e2 ⟨o3, c3', rfl, hn3, rfl⟩
     have hlr := hlr.trans e2
     have hf := hf.mono e2
     have he := he.mono e2
     try have hk2 := hk2.mono e2
     refine Hx ?_; refine Dc 15 rfl rfl (Er he.types hk2 (by simp; unfold Ap; omega) _) ?_; rintro _ J3 _ e3 ⟨o4, c4', rfl, hn4, rfl⟩
     have hlr := hlr.trans e3
     have hf := hf.mono e3
     have he := he.mono e3
     have hn3 := hn3.mono e3
     rw [show tx m ++ [s.tree.text] = tx (m ++ [s]) by simp [tx]] at hn4 ⊢; refine Hx ?_; refine Dc 16 rfl rfl (ihn (e := b) (by omega) ⟨hn3, hn4, by simp [hlm], he.small.add hs16⟩ (hf.as 3 b.tree (by omega) rfl) hok.2 (by simp; unfold Ap; omega) _) ?_; rintro _ J4 _ e4 ⟨rfl, rfl⟩
     have hlr := hlr.trans e4
     refine Hx ?_; refine Da 17 rfl (Av rfl) ?_; refine Ao (by kernel_rfl) ?_; refine Ad (.tmp rfl .nil) ?_
     exact ⟨J4, L, e1.trans hlr, Ax, by rw [hty]; rfl, rfl⟩
   ·skip
    refine Fl 14 rfl rfl rfl rfl (by rfl) (by rfl) (by rfl) (by decide) (by decide) (by rfl) .free rfl (.inr Aj) ?_; intro b55; refine Cx ?_; intro hz
    have hlr := hlr.trans hz
    have hf := hf.mono hz
    have he := he.mono hz
    have hk2 := Fg (x := s.tree.text) hz htl
    try have hk1 := hk1.mono hz
    try have hn3 := hn3.mono hz
    refine Et 10 rfl (by kernel_rfl) rfl rfl rfl (by rfl) (by rfl) (by rfl) (by decide) (by decide) (by rfl) .free rfl (.inr Aj) ?_; intro b51; refine Cx ?_; intro hz
    have hlr := hlr.trans hz
    have hf := hf.mono hz
    have he := he.mono hz
    have hk1 := Fg hz hxl
    try have hk2 := hk2.mono hz
    refine Dc 11 rfl rfl (Er he.names hk1 (by simp; unfold Ap; omega) _) ?_; rintro _ J2 _ e2 ⟨o3, c3', rfl, hn3, rfl⟩
    have hlr := hlr.trans e2
    have hf := hf.mono e2
    have he := he.mono e2
    try have hk2 := hk2.mono e2
    refine Hx ?_; refine Dc 15 rfl rfl (Er he.types hk2 (by simp; unfold Ap; omega) _) ?_; rintro _ J3 _ e3 ⟨o4, c4', rfl, hn4, rfl⟩
    have hlr := hlr.trans e3
    have hf := hf.mono e3
    have he := he.mono e3
    have hn3 := hn3.mono e3
    rw [show tx m ++ [s.tree.text] = tx (m ++ [s]) by simp [tx]] at hn4 ⊢; refine Hx ?_; refine Dc 16 rfl rfl (ihn (e := b) (by omega) ⟨hn3, hn4, by simp [hlm], he.small.add hs16⟩ (hf.as 3 b.tree (by omega) rfl) hok.2 (by simp; unfold Ap; omega) _) ?_; rintro _ J4 _ e4 ⟨rfl, rfl⟩
    have hlr := hlr.trans e4
    refine Hx ?_; refine Da 17 rfl (Av rfl) ?_; refine Ao (by kernel_rfl) ?_; refine Ad (.tmp rfl .nil) ?_
    exact ⟨J4, L, e1.trans hlr, Ax, by rw [hty]; rfl, rfl⟩
  intro c2
  try simp only [nb] at c2
  refine Se rfl (Od rfl rfl rfl (Oa rfl (Aa ?_))); refine Ar rfl ?_ ?_
  ·intro c4
   try simp only [nb] at c4
   obtain ⟨f, x, s, t, b, rfl⟩ := Ex.of_fun (hhd.trans c4)
   simp only [Ex.ok, Bool.and_eq_true, decide_eq_true_eq] at hok
   simp only [Ex.fn.sizeOf_spec] at hlt
   simp only [Ex.size] at hroom
   have hlen : (Ex.fn f x s t b).tree.parts.length = 6 := rfl
   have hfl := Ex.name_len hok.1.1.1.1.1
   have hxl := Ex.name_len hok.1.1.1.1.2
   have hs16 := hok.1.1.2
   have ht16 := hok.1.2
   have hsl := Ty.text_len hs16
   have htl := Ty.text_len ht16
   have hst := s.tree_small
   have htt := t.tree_small
   have hty := Ex.ty_fn f x s t b l m
   refine Se rfl (Oh rfl ?_); refine Bi rfl .free rfl ?_
   first | refine A8 rfl rfl 3 rfl .free rfl ?_ | refine A9 rfl rfl 3 rfl .free rfl ?_
   refine Dn rfl .free rfl ?_; refine Ca rfl (Iw _ (Nat.lt_succ_self _) (hf.as 3 s.tree (by omega) rfl) s.tree_good.1 (by omega) _) ?_; rintro _ _ _ _ ⟨rfl, rfl, rfl⟩; refine Oa rfl (Aa (Se rfl (Oh rfl ?_))); refine Bi rfl .free rfl ?_
   first | refine A8 rfl rfl 4 rfl .free rfl ?_ | refine A9 rfl rfl 4 rfl .free rfl ?_
   refine Dn rfl .free rfl ?_; refine Ca rfl (Iw _ (Nat.lt_succ_self _) (hf.as 4 t.tree (by omega) rfl) t.tree_good.1 (by omega) _) ?_; rintro _ _ _ _ ⟨rfl, rfl, rfl⟩; refine Oa rfl (Aa (Se rfl (Om rfl (Om rfl ?_)))); refine Ca rfl (Ps true s.tree.text t.tree.text (by omega) (by omega) _ _) ?_; rintro _ J1 _ e1 ⟨rfl, rfl⟩
   have hf := hf.mono e1
   have he := he.mono e1
   rw [Adw hs16 ht16]; refine Om rfl (Oe rfl rfl (Oe rfl rfl (Oa rfl (Oa rfl (Aa (Ac (Ac ?_)))))))
   by_cases hz16 : (Ty.fn s t).size ≤ 16
   ·skip
    rw [if_pos hz16]
    have hlr : HLe J1 J1 := .refl _
    have hfl80 := Ty.text_len hz16
    refine Cz 29 rfl rfl ?_; refine Da 0 rfl (Af rfl) ?_; refine Da 1 rfl (Ov rfl) ?_; refine Da 2 rfl (Af rfl) ?_; refine Ea (t := 78) rfl (v' := .bool false) (by first | simp [*] | (simp; omega)) ?_; refine Dm 3 rfl (Ah rfl) ?_; refine Dl 4 [29] rfl (by kernel_rfl) rfl Aj (Bl rfl) (.met rfl rfl) rfl ?_
    first | refine Dm 5 rfl (A5 rfl rfl 5 rfl) ?_ | refine Dm 5 rfl (A6 rfl rfl 5 rfl) ?_
    refine Dl 6 [29] rfl (by kernel_rfl) rfl Aj (Bb rfl) (.met rfl rfl) rfl ?_; refine Dm 7 rfl (Af rfl) ?_; refine Dm 8 rfl (Ah rfl) ?_; refine Dl 9 [29] rfl (by kernel_rfl) rfl Aj (Bl rfl) (.met rfl rfl) rfl ?_
    first | refine Dm 10 rfl (A5 rfl rfl 1 rfl) ?_ | refine Dm 10 rfl (A6 rfl rfl 1 rfl) ?_
    refine Dm 11 rfl (A1 rfl) ?_; refine Dl 12 [29] rfl (by kernel_rfl) rfl Aj (Ha rfl) (.met rfl rfl) rfl ?_; refine Dm 13 rfl (Ah rfl) ?_; refine Dl 14 [29] rfl (by kernel_rfl) rfl Aj (Bl rfl) (.met rfl rfl) rfl ?_
    first | refine Dm 15 rfl (A5 rfl rfl 2 rfl) ?_ | refine Dm 15 rfl (A6 rfl rfl 2 rfl) ?_
    refine Dm 16 rfl (A1 rfl) ?_; refine Dl 17 [29] rfl (by kernel_rfl) rfl Aj (Ha rfl) (.met rfl rfl) rfl ?_; refine Dm 20 rfl (Af rfl) ?_; refine Dm 21 rfl (Af rfl) ?_; refine Dm 22 rfl (Af rfl) ?_; refine Dm 26 rfl (Af rfl) ?_; refine Ci 18 23 (by kernel_rfl) ?_ ?_
    ·skip
     refine Fl 18 rfl rfl rfl rfl (by rfl) (by rfl) (by rfl) (by decide) (by decide) (by rfl) (.met rfl rfl) rfl (.inr Aj) ?_; intro b94; refine Cx ?_; intro hz
     have hlr := hlr.trans hz
     have hf := hf.mono hz
     have he := he.mono hz
     have hk1 := Hy hz hfl hxl
     try have hk2 := hk2.mono hz
     refine Ci 19 23 (by kernel_rfl) ?_ ?_
     ·skip
      refine Ft 19 rfl rfl rfl (.met rfl rfl) rfl (Er he.names hk1 (by simp; unfold Ap; omega) _) ?_; rintro _ J2 _ e2 ⟨o3, c3', rfl, hn3, rfl⟩
      have hlr := hlr.trans e2
      have hf := hf.mono e2
      have he := he.mono e2
      try have hk2 := hk2.mono e2
      refine Hx ?_; refine Et 23 rfl (by kernel_rfl) rfl rfl rfl (by rfl) (by rfl) (by rfl) (by decide) (by decide) (by rfl) (.met rfl rfl) rfl (.inr Aj) ?_; intro b99; refine Cx ?_; intro hz
      have hlr := hlr.trans hz
      have hf := hf.mono hz
      have he := he.mono hz
      have hk2 := Hy (x := (Ty.fn s t).tree.text) (y := s.tree.text) hz (by unfold Ap; omega) (by unfold Ap; omega)
      try have hk1 := hk1.mono hz
      try have hn3 := hn3.mono hz
      refine E5 24 rfl (by kernel_rfl) rfl rfl (.met rfl rfl) rfl (Er he.types hk2 (by simp; unfold Ap; omega) _) ?_; rintro _ J3 _ e3 ⟨o4, c4', rfl, hn4, rfl⟩
      have hlr := hlr.trans e3
      have hf := hf.mono e3
      have he := he.mono e3
      have hn3 := hn3.mono e3
      rw [show tx m ++ [(Ty.fn s t).tree.text, s.tree.text] = tx (m ++ [.fn s t, s]) by simp [tx]] at hn4 ⊢; refine Hx ?_; refine E5 25 rfl (by kernel_rfl) rfl rfl (.met rfl rfl) rfl (ihn (e := b) (by omega) ⟨hn3, hn4, by simp [hlm], he.small.add2 hz16 hs16⟩ (hf.as 5 b.tree (by omega) rfl) hok.2 (by simp; unfold Ap; omega) _) ?_; rintro _ J4 _ e4 ⟨rfl, rfl⟩
      have hlr := hlr.trans e4
      refine Hx ?_; refine Dm 27 rfl (Kn rfl rfl rfl) ?_; refine Da 28 rfl (Ck rfl rfl) ?_; refine Ao (by kernel_rfl) ?_; refine Ar rfl ?_ ?_
      ·intro c5
       try simp only [nb] at c5
       refine Se rfl (Oa rfl (Aa (Ad (.tmp rfl .nil) ?_))); refine ⟨J4, L, e1.trans hlr, Ax, ?_, rfl⟩; rw [hty, if_neg (by rintro ⟨h1, h2⟩; exact c5 (congrArg Jf h2))]; rfl
      intro c5
      try simp only [nb] at c5
      refine Ae (Se rfl (Om rfl (Oa rfl (Aa (Ad (.tmp rfl .nil) ?_))))); refine ⟨J4, L, e1.trans hlr, Ax, ?_, rfl⟩; rw [hty, if_pos ⟨hz16, Tl (b := some t) c5⟩]; rfl
     ·skip
      refine Fl 23 rfl rfl rfl rfl (by rfl) (by rfl) (by rfl) (by decide) (by decide) (by rfl) (.met rfl rfl) rfl (.inr Aj) ?_; intro b99; refine Cx ?_; intro hz
      have hlr := hlr.trans hz
      have hf := hf.mono hz
      have he := he.mono hz
      have hk2 := Hy (x := (Ty.fn s t).tree.text) (y := s.tree.text) hz (by unfold Ap; omega) (by unfold Ap; omega)
      try have hk1 := hk1.mono hz
      try have hn3 := hn3.mono hz
      refine E5 19 rfl (by kernel_rfl) rfl rfl (.met rfl rfl) rfl (Er he.names hk1 (by simp; unfold Ap; omega) _) ?_; rintro _ J2 _ e2 ⟨o3, c3', rfl, hn3, rfl⟩
      have hlr := hlr.trans e2
      have hf := hf.mono e2
      have he := he.mono e2
      try have hk2 := hk2.mono e2
      refine Hx ?_; refine E5 24 rfl (by kernel_rfl) rfl rfl (.met rfl rfl) rfl (Er he.types hk2 (by simp; unfold Ap; omega) _) ?_; rintro _ J3 _ e3 ⟨o4, c4', rfl, hn4, rfl⟩
      have hlr := hlr.trans e3
      have hf := hf.mono e3
      have he := he.mono e3
      have hn3 := hn3.mono e3
      rw [show tx m ++ [(Ty.fn s t).tree.text, s.tree.text] = tx (m ++ [.fn s t, s]) by simp [tx]] at hn4 ⊢; refine Hx ?_; refine E5 25 rfl (by kernel_rfl) rfl rfl (.met rfl rfl) rfl (ihn (e := b) (by omega) ⟨hn3, hn4, by simp [hlm], he.small.add2 hz16 hs16⟩ (hf.as 5 b.tree (by omega) rfl) hok.2 (by simp; unfold Ap; omega) _) ?_; rintro _ J4 _ e4 ⟨rfl, rfl⟩
      have hlr := hlr.trans e4
      refine Hx ?_; refine Dm 27 rfl (Kn rfl rfl rfl) ?_; refine Da 28 rfl (Ck rfl rfl) ?_; refine Ao (by kernel_rfl) ?_; refine Ar rfl ?_ ?_
      ·intro c5
       try simp only [nb] at c5
       refine Se rfl (Oa rfl (Aa (Ad (.tmp rfl .nil) ?_))); refine ⟨J4, L, e1.trans hlr, Ax, ?_, rfl⟩; rw [hty, if_neg (by rintro ⟨h1, h2⟩; exact c5 (congrArg Jf h2))]; rfl
      intro c5
      try simp only [nb] at c5
      refine Ae (Se rfl (Om rfl (Oa rfl (Aa (Ad (.tmp rfl .nil) ?_))))); refine ⟨J4, L, e1.trans hlr, Ax, ?_, rfl⟩; rw [hty, if_pos ⟨hz16, Tl (b := some t) c5⟩]; rfl
    ·skip
     refine Fl 23 rfl rfl rfl rfl (by rfl) (by rfl) (by rfl) (by decide) (by decide) (by rfl) (.met rfl rfl) rfl (.inr Aj) ?_; intro b99; refine Cx ?_; intro hz
     have hlr := hlr.trans hz
     have hf := hf.mono hz
     have he := he.mono hz
     have hk2 := Hy (x := (Ty.fn s t).tree.text) (y := s.tree.text) hz (by unfold Ap; omega) (by unfold Ap; omega)
     try have hk1 := hk1.mono hz
     try have hn3 := hn3.mono hz
     refine Et 18 rfl (by kernel_rfl) rfl rfl rfl (by rfl) (by rfl) (by rfl) (by decide) (by decide) (by rfl) (.met rfl rfl) rfl (.inr Aj) ?_; intro b94; refine Cx ?_; intro hz
     have hlr := hlr.trans hz
     have hf := hf.mono hz
     have he := he.mono hz
     have hk1 := Hy hz hfl hxl
     try have hk2 := hk2.mono hz
     refine E5 19 rfl (by kernel_rfl) rfl rfl (.met rfl rfl) rfl (Er he.names hk1 (by simp; unfold Ap; omega) _) ?_; rintro _ J2 _ e2 ⟨o3, c3', rfl, hn3, rfl⟩
     have hlr := hlr.trans e2
     have hf := hf.mono e2
     have he := he.mono e2
     try have hk2 := hk2.mono e2
     refine Hx ?_; refine E5 24 rfl (by kernel_rfl) rfl rfl (.met rfl rfl) rfl (Er he.types hk2 (by simp; unfold Ap; omega) _) ?_; rintro _ J3 _ e3 ⟨o4, c4', rfl, hn4, rfl⟩
     have hlr := hlr.trans e3
     have hf := hf.mono e3
     have he := he.mono e3
     have hn3 := hn3.mono e3
     rw [show tx m ++ [(Ty.fn s t).tree.text, s.tree.text] = tx (m ++ [.fn s t, s]) by simp [tx]] at hn4 ⊢; refine Hx ?_; refine E5 25 rfl (by kernel_rfl) rfl rfl (.met rfl rfl) rfl (ihn (e := b) (by omega) ⟨hn3, hn4, by simp [hlm], he.small.add2 hz16 hs16⟩ (hf.as 5 b.tree (by omega) rfl) hok.2 (by simp; unfold Ap; omega) _) ?_; rintro _ J4 _ e4 ⟨rfl, rfl⟩
     have hlr := hlr.trans e4
     refine Hx ?_; refine Dm 27 rfl (Kn rfl rfl rfl) ?_; refine Da 28 rfl (Ck rfl rfl) ?_; refine Ao (by kernel_rfl) ?_; refine Ar rfl ?_ ?_
     ·intro c5
      try simp only [nb] at c5
      refine Se rfl (Oa rfl (Aa (Ad (.tmp rfl .nil) ?_))); refine ⟨J4, L, e1.trans hlr, Ax, ?_, rfl⟩; rw [hty, if_neg (by rintro ⟨h1, h2⟩; exact c5 (congrArg Jf h2))]; rfl
     intro c5
     try simp only [nb] at c5
     refine Ae (Se rfl (Om rfl (Oa rfl (Aa (Ad (.tmp rfl .nil) ?_))))); refine ⟨J4, L, e1.trans hlr, Ax, ?_, rfl⟩; rw [hty, if_pos ⟨hz16, Tl (b := some t) c5⟩]; rfl
   ·skip
    rw [if_neg hz16]; refine Cz 29 rfl rfl ?_; refine Da 0 rfl (Af rfl) ?_; refine Da 1 rfl (Ov rfl) ?_; refine Da 2 rfl (Af rfl) ?_; refine Ea (t := 78) rfl (v' := .bool true) (by first | simp [*] | (simp; omega)) ?_; refine Ds 3 rfl rfl rfl ?_; refine Ds 4 rfl rfl rfl ?_; refine Ds 5 rfl rfl rfl ?_; refine Ds 6 rfl rfl rfl ?_; refine Ds 7 rfl rfl rfl ?_; refine Ds 8 rfl rfl rfl ?_; refine Ds 9 rfl rfl rfl ?_; refine Ds 10 rfl rfl rfl ?_; refine Ds 11 rfl rfl rfl ?_; refine Ds 12 rfl rfl rfl ?_; refine Ds 13 rfl rfl rfl ?_; refine Ds 14 rfl rfl rfl ?_; refine Ds 15 rfl rfl rfl ?_
    refine Ds 16 rfl rfl rfl ?_; refine Ds 17 rfl rfl rfl ?_; refine Ds 18 rfl rfl rfl ?_; refine Ds 19 rfl rfl rfl ?_; refine Ds 20 rfl rfl rfl ?_; refine Ds 21 rfl rfl rfl ?_; refine Ds 22 rfl rfl rfl ?_; refine Ds 23 rfl rfl rfl ?_; refine Ds 24 rfl rfl rfl ?_; refine Ds 25 rfl rfl rfl ?_; refine Ds 26 rfl rfl rfl ?_; refine Ds 27 rfl rfl rfl ?_; refine Da 28 rfl (C0 rfl rfl) ?_; refine Ao (by kernel_rfl) ?_; refine Bn rfl ?_; refine Se rfl (Oa rfl (Aa (Ad (.tmp rfl .nil) ?_))); refine ⟨J1, L, e1, Ax, ?_, rfl⟩; rw [hty, if_neg (fun h => hz16 h.1)]; rfl
  intro c4
  try simp only [nb] at c4
  obtain ⟨hp1, hp2, hty, har⟩ := Wl hb (fun h => c2 (hhd.symm.trans h)) (fun h => c4 (hhd.symm.trans h)) l m; refine Ae (Ak (Se rfl ?_)); refine Eo .free rfl ?_; intro b106; refine Oa rfl (Aa (Ac (Se rfl (Oa rfl (Aa (Al ?_))))))
  refine De (X := GS) (fun x => e.sub.length - x.i) (fun x => [(1, .slice oa l.length c), (2, .slice ob (tx m).length c'), (3, .pointer (some ⟨b3, 0, none⟩)), (6, .string (str [])), (12, .slice (some ⟨x.b, 0, none⟩) x.i x.c), (13, .int .i64 ((x.i + 1 : Nat)))]) (fun x => x.J) (fun x => (x.b, .cells (gv e l m x.i ++ x.sp).toArray 9 (0, 0)) :: (b3, .cells [.string (str e.tree.atom), .slice oc e.tree.parts.length cc].toArray 46 (0, 0)) :: L) (fun x => HLe I x.J ∧ x.i ≤ e.sub.length ∧ D9 1 x.i x.c (gv e l m x.i) (some (x.b, x.sp))) ⟨I, 0, b106, [], 0⟩ ⟨.refl _, Nat.zero_le _, ⟨rfl, Nat.le_refl _, rfl⟩⟩ ⟨rfl, rfl, rfl, rfl, rfl, rfl, trivial⟩ (by intro _ h; exact h) ?_
  rintro ⟨J, i, bb, sp, cb⟩ ⟨ez, hi, hB⟩ ih
  simp only at ez hi hB ih ⊢
  have hf := hf.mono ez
  have he := he.mono ez
  have hn3 : e.sub.length ≤ 3 := by cases e <;> simp [Ex.sub]
  refine Ac (Se rfl (Om rfl (Oh rfl ?_))); refine Bi rfl .free rfl ?_; refine On rfl (Oc rfl rfl rfl (Aa ?_)); refine Ar rfl ?_ ?_
  ·intro c6
   try simp only [nb] at c6
   have hi1 : i < e.sub.length := by omega
   obtain ⟨hs1, hs2, hs3⟩ := Nw (List.getElem_mem hi1)
   have hs3 := hs3 hok
   have hspt := hp2 i hi1
   refine Ae (Ac (Al (Ag rfl (Om rfl (Oh rfl ?_))))); refine Bi rfl .free rfl ?_; refine Om rfl ?_
   first | refine A8 rfl rfl _ rfl .free rfl ?_ | refine A9 rfl rfl _ rfl .free rfl ?_
   refine Dn rfl .free rfl ?_; refine Om rfl (Om rfl ?_); refine Ca rfl (ihn (e := e.sub[i]) (by omega) he (Hu (hf.rp (i + 1) (by omega)) hspt) hs3 (by unfold Ap; omega) _) ?_; rintro _ J1 _ e1 ⟨rfl, rfl⟩; refine Ol rfl rfl ?_; intro b123
   refine D4 (B := some (bb, sp)) (xs := gv e l m i) (ys := [sv (Jf (e.sub[i].ty l m))]) (m := i) (c := cb) (by intro kk; simp) (by rfl) rfl rfl hB (fun _ h => h.f1) (by rfl) (fun a ha => by cases ha; exact Bk (by repeat first | exact .head _ | apply List.Mem.tail | apply List.mem_append_right) (by rfl)) (by simp) (by rfl) (by decide) (by decide) (by omega) (by decide) .free rfl ?_; intro b2 sp2 c2 hB2; rw [← Ab0 hi1] at hB2 ⊢; refine Oa rfl (Aa (Ak (Ag rfl (Om rfl ?_)))); refine Or rfl rfl rfl ?_; refine Oa rfl (Aa ?_)
   exact Be (E' := [(1, .slice oa l.length c), (2, .slice ob (tx m).length c'), (3, .pointer (some ⟨b3, 0, none⟩)), (6, .string (str [])), (12, .slice (some ⟨b2, 0, none⟩) (i + 1) c2), (13, .int .i64 ((i + 1 + 1 : Nat)))]) ⟨rfl, rfl, rfl, rfl, rfl, rfl, trivial⟩ (Bd (fun w h => Mem.sub (L' := (b2, _) :: (b3, _) :: L) (by repeat (first | exact List.Sublist.refl _ | apply List.Sublist.cons_cons | apply List.Sublist.cons)) h) (ih ⟨J1, i + 1, b2, sp2, c2⟩ ⟨ez.trans e1, by simp only; omega, hB2⟩ (by simp only; omega)))
  intro c6
  try simp only [nb] at c6
  obtain rfl : i = e.sub.length := by omega
  have hgv : gv e l m e.sub.length = ((e.sub.map fun a => a.ty l m).map Jf).map sv := by unfold gv; rw [List.take_length]
  rw [hgv] at hB ⊢; obtain ⟨o5, c5', hbv, hrd⟩ := V9 (I := J) (L := (b3, .cells [.string (str e.tree.atom), .slice oc e.tree.parts.length cc].toArray 46 (0, 0)) :: L) (e := 9) hB (by simp) (by simp; unfold Ap; omega); refine Je (t := 12) rfl hbv ?_; refine Bx rfl ?_; refine Se rfl (Oh rfl ?_); refine Bi rfl .free rfl ?_
  first | refine A8 rfl rfl 0 rfl .free rfl ?_ | refine A9 rfl rfl 0 rfl .free rfl ?_
  refine Bq rfl .free rfl ?_; refine Iz rfl .free rfl ?_; refine Om rfl ?_; refine Ca rfl (Aae (e.tree.pt 0).atom (e.sub.map fun a => a.ty l m) hrd (fun o ho => by obtain ⟨a, h1, rfl⟩ := List.mem_map.1 ho; exact Ex.ty_small ((Nw h1).2.2 hok) he.small) (by rw [List.length_map, ← hhd]; exact har) _) ?_; rintro _ J1 _ e1 ⟨rfl, rfl⟩; refine Oa rfl (Aa (Ad (.tmp rfl .nil) ?_))
  exact ⟨J1, L, ez.trans e1, Ax, by rw [hty, hhd]; rfl, rfl⟩
theorem Iy {l : List Aq} {s : Aq} {i : Nat} (h : By l s = some i) : s ∈ l := by
 obtain ⟨h1, h2⟩ := Hq (show Fu l s l.length = some i from h); rw [← h2]; simp [h1]
theorem Xa {l : List Aq} {m : List Ty} {s : Aq} {t : Ty} (h : Ew l m s = some t) : s ∈ l := by
 unfold Ew at h
 cases hi : By l s with
 | none => rw [hi] at h; cases h
 | some i => exact Iy hi
theorem Ex.chk_occ : ∀ {e : Ex} {l : List Aq} {m : List Ty} {t : Ty}, e.chk l m = .ok t → ∀ x ∈ e.occ [], x ∈ l
 | .num _, l, m, t, h, x, hx => by cases hx
 | .name s, l, m, t, h, x, hx => by
  simp only [Ex.occ, List.not_mem_nil, if_false, List.mem_singleton] at hx
  subst hx
  simp only [Ex.chk] at h
  split at h
  ·rename_i h1; exact Xa h1
  ·cases h
 | .bin o a b, l, m, t, h, x, hx => by
  simp only [Ex.occ, List.mem_append] at hx
  simp only [Ex.chk] at h
  split at h
  ·cases h
  ·rename_i h1
   split at h
   ·cases h
   ·rename_i h2
    rcases hx with hx | hx
    ·exact Ex.chk_occ h1 x hx
    ·exact Ex.chk_occ h2 x hx
 | .ite a b c, l, m, t, h, x, hx => by
  simp only [Ex.occ, List.mem_append] at hx
  simp only [Ex.chk] at h
  split at h
  ·cases h
  ·rename_i h1
   split at h
   ·cases h
   ·rename_i h2
    split at h
    ·cases h
    ·rename_i h3
     rcases hx with (hx | hx) | hx
     ·exact Ex.chk_occ h1 x hx
     ·exact Ex.chk_occ h2 x hx
     ·exact Ex.chk_occ h3 x hx
 | .lt y a b, l, m, t, h, x, hx => by
  simp only [Ex.occ, List.mem_append, List.nil_append] at hx
  simp only [Ex.chk] at h
  split at h
  ·cases h
  ·rename_i h1
   rcases hx with hx | hx
   ·exact Ex.chk_occ h1 x hx
   ·rw [Ex.occ_mem] at hx
    have := Ex.chk_occ h x hx.1
    rcases List.mem_append.1 this with h2 | h2
    ·exact h2
    ·exact absurd h2 hx.2
 | .fn f y s t b, l, m, u, h, x, hx => by
  simp only [Ex.occ, List.nil_append] at hx
  rw [Ex.occ_mem] at hx
  simp only [Ex.chk] at h
  split at h
  ·split at h
   ·cases h
   ·rename_i h2
    have := Ex.chk_occ h2 x hx.1
    rcases List.mem_append.1 this with h3 | h3
    ·exact h3
    ·exact absurd h3 hx.2
  ·cases h
 | .un o a, l, m, t, h, x, hx => by
  simp only [Ex.occ] at hx
  simp only [Ex.chk] at h
  split at h
  ·cases h
  ·rename_i h1; exact Ex.chk_occ h1 x hx
theorem Ex.ty_occ {e : Ex} {l : List Aq} {m : List Ty} {t : Ty} (h : e.ty l m = some t) : ∀ x ∈ e.occ [], x ∈ l := by
 unfold Ex.ty at h
 split at h
 ·exact Ex.chk_occ (by assumption)
 ·cases h
theorem Ex.ty_closed {e : Ex} {t : Ty} (h : e.ty [] [] = some t) : e.closed = true := by
 unfold Ex.closed
 rw [List.isEmpty_iff]
 exact List.eq_nil_iff_forall_not_mem.2 fun x hx => by have := Ex.ty_occ h x hx; cases this
def Qh (s : Aq) : Option Ty := (En s).bind fun e => e.ty [] []
theorem Ub (s : Aq) : Ua [] [] s = (Qh s).map fun t => t.tree.text := by
 unfold Ua Qh
 rw [if_pos Yv]
 cases En s <;> rfl
theorem Gf {s : Aq} {e : Ex} (h : Co s = some e) : En s = some e ∧ e.ok = true ∧ e.size ≤ 120 ∧ e.tree.len ≤ 12000 ∧ e.closed = true := by
 obtain ⟨h1, h2⟩ := Jg h
 have h3 := (Io h1).2.1
 simp only [Ex.fine, Bool.and_eq_true, Tree.fits, decide_eq_true_eq] at h3
 exact ⟨h1, h3.1.1, h3.1.2, h3.2.2, h2⟩
theorem Pi {s : Aq} {e : Ex} (h1 : En s = some e) : e.ok = true ∧ e.size ≤ 120 ∧ e.tree.len ≤ 12000 ∧ s = e.tree.text := by
 have h3 := (Io h1).2.1
 simp only [Ex.fine, Bool.and_eq_true, Tree.fits, decide_eq_true_eq] at h3
 exact ⟨h3.1.1, h3.1.2, h3.2.2, (Io h1).2.2⟩
theorem Zk {p : Option Ex} {t : Tree} {ok : Bool} (hpf : match p with | some e => ok = true ∧ t = e.tree | none => ok = false) : (ok = false → p = none) ∧ (ok = true → ∃ e, p = some e ∧ t = e.tree) := by
 cases p with
 | none => exact ⟨fun _ => rfl, fun h => (by rw [hpf] at h; cases h)⟩
 | some e => exact ⟨fun h => (by rw [hpf.1] at h; cases h), fun _ => ⟨e, rfl, hpf.2⟩⟩
theorem Y9 {I : Heap} {ts : List Tree} {oa : Option Addr} {c : Nat} (h : Rep I (.node [] ts) [.string (str []), .slice oa ts.length c]) : Forms I oa ts c := by
 obtain ⟨oa', c', vs, he, hl, hs, hn, hc, ha, hp⟩ := h.open
 simp only [List.cons.injEq, Value.slice.injEq, and_true, true_and] at he
 obtain ⟨-, rfl, -, rfl⟩ := he
 exact ⟨⟨vs, hl, hs⟩, hn, hc, hp⟩
theorem Wf {I : Heap} {oa ob : Option Addr} {l m : List Aq} {c c' : Nat} (h : Strs I oa l c) (h' : Strs I ob m c') (s : Aq) (hs : s.length ≤ Ap) (L : Bf) :
  Fun Tryz.prog 12 [.slice oa l.length c, .slice ob m.length c', .string (str s)] I L (EL (Ua l m s) L) := by
 refine Ai (by simp) ?_; refine Se rfl (Oa rfl (Oa rfl (Aa (Se rfl (Om rfl (Om rfl ?_)))))); refine Ca rfl (Yh h h' _) ?_; rintro _ J1 _ e1 ⟨oa', n, c2, ob', ts, c3, rfl, rfl, hrt, henv⟩; refine Om rfl (Oe rfl rfl (Oe rfl rfl ?_)); refine A2 .free rfl ?_; intro b8; refine Bt rfl rfl rfl rfl .free ?_; refine Oa rfl (Aa (Se rfl (Om rfl ?_))); refine Ca rfl (Pk s hs _ _) ?_; rintro _ J2 _ e2 ⟨t, cs, ok, rfl, hrep, rfl, hpf⟩; obtain ⟨o1, k1, _, rfl, -⟩ := hrep.open
 have g1 := Zk hpf
 have hle := e1.trans e2
 refine Om rfl (Oe rfl rfl (Oe rfl rfl ?_)); refine A2 .free rfl ?_; intro b10; refine Bt rfl rfl rfl rfl .free ?_; refine Oa rfl (Aa (Ac (Se rfl (Om rfl ?_)))); refine Cw rfl .free rfl ?_; refine Om rfl ?_
 apply Gb 28 31 rfl
 ·intro g3_3 hk
  try simp only [nb] at g3_3
  refine Ow rfl ?_; refine Cw rfl (.met rfl rfl) rfl ?_; refine Of rfl rfl ?_
  exact Ay 2 rfl rfl hk
 ·intro _ hk; refine Ba 2 rfl ?_; refine Ot rfl rfl ?_
  exact Ay 2 rfl rfl hk
 refine Aa ?_; refine Ar rfl ?_ ?_
 ·intro c0
  try simp only [nb] at c0
  refine Se rfl (Oa rfl (Oa rfl (Aa ?_))); refine Ad (.tmp rfl (.tmp rfl .nil)) ?_; refine ⟨J2, L, hle, Ax, ?_, rfl⟩; rw [Abu (by rcases c0 with h | h; exact .inl h; exact .inr (g1.1 h))]; rfl
 intro c0
 try simp only [nb] at c0
 obtain ⟨he, hok⟩ := c0; obtain ⟨rfl, rfl, rfl, hts⟩ := henv he; obtain ⟨e, hx, rfl⟩ := g1.2 hok; obtain ⟨hek, hez, hel, -⟩ := Pi hx; obtain ⟨h1, h2, h3, h4, h5, h6⟩ := Yw he
 have hts2 : ts = (H9 m).map Ty.tree := by
  have := h3.symm.trans hts
  exact (List.map_inj_right (fun a b h => Option.some.inj h)).1 this.symm
 subst hts2
 have hty := Abv he hx
 refine Ae (Se rfl ?_); refine Az rfl .free rfl ?_; refine Az rfl .free rfl ?_; refine Ca rfl (Sk _ (Nat.lt_succ_self _) ⟨h.mono hle, (Y9 hrt).mono e2, h4, h2⟩ hrep hek (by unfold Ap; omega) _) ?_; rintro _ J3 _ e3 ⟨u, cs, w', ds, ok', rfl, hru, hrw, rfl, hm⟩; obtain ⟨o4, k4, _, rfl, -⟩ := hru.open; obtain ⟨o5, k5, _, rfl, -⟩ := hrw.open
 have hle := hle.trans e3
 refine Om rfl ?_
 iterate 3 refine Oe rfl rfl ?_
 refine A2 .free rfl ?_; intro b12; refine A2 .free rfl ?_; intro b13; refine Bt rfl rfl rfl rfl .free ?_; refine Bt rfl rfl rfl rfl .free ?_; refine Oa rfl (Aa (Ac (Se rfl (Om rfl ?_)))); refine Cw rfl .free rfl ?_; refine Aa ?_; refine Ar rfl ?_ ?_
 ·intro c1
  try simp only [nb] at c1
  refine Se rfl (Oa rfl (Oa rfl (Aa ?_))); refine Ad (.tmp rfl (.tmp rfl .nil)) ?_; refine ⟨J3, L, hle, Ax, ?_, rfl⟩; obtain ⟨y, hy, -⟩ := Acv hm (by simpa using c1); rw [hty, show e.ty l (H9 m) = none by unfold Ex.ty; rw [hy]]; rfl
 intro c1
 try simp only [nb] at c1
 obtain ⟨ty, hy, rfl⟩ := Acw hm (by simpa using c1)
 have hsm := Ex.chk_small hek h2 hy
 have htl := Ty.text_len hsm
 refine Ae (Se rfl ?_); refine Az rfl .free rfl ?_; refine Ca rfl (Uj hru (by unfold Ap; omega) _) ?_; rintro _ _ _ _ ⟨rfl, rfl, rfl⟩; refine Oa rfl (Oa rfl (Aa ?_)); refine Ad (.tmp rfl (.tmp rfl .nil)) ?_; refine ⟨J3, L, hle, Ax, ?_, rfl⟩; rw [hty, show e.ty l (H9 m) = some ty by unfold Ex.ty; rw [hy]]; rfl
theorem Ue (s : Aq) (hs : s.length ≤ Ap) (I : Heap) (L : Bf) : Fun Tryz.prog 19 [.string (str s)] I L (fun v I' L' => v = .bool (Qh s).isSome ∧ L = L') := by
 refine Ai (by simp) ?_; refine Se rfl (Oa rfl (Aa (Se rfl (Om rfl ?_)))); refine Ca rfl (Wf (l := []) (m := []) (Mz I) (Mz I) s hs _) ?_; rintro _ J _ e1 ⟨rfl, rfl⟩; refine Om rfl (Oe rfl rfl (Oe rfl rfl (Oa rfl (Oa rfl (Aa (Se rfl (Om rfl (Oa rfl (Aa (Ad (.tmp rfl .nil) ?_))))))))))
 exact ⟨J, L, e1, Ax, by rw [Ub]; cases Qh s <;> rfl, rfl⟩
theorem Wo (s : Aq) (hs : s.length ≤ Jk) (I : Heap) (L : Bf) : Fun Tryz.prog 47 [.string (str s)] I L (ST (Jf (Qh s)) L) := by
 refine Ai (by simp) ?_; refine Se rfl (Oa rfl (Aa (Se rfl (Om rfl ?_)))); refine Ca rfl (L5 s hs _ _) ?_; rintro _ J1 _ e1 ⟨t, cs, ok, rfl, hrep, rfl, hpf⟩; obtain ⟨o1, k1, _, rfl, -⟩ := hrep.open
 have g1 := Zk hpf
 refine Om rfl (Oe rfl rfl (Oe rfl rfl ?_)); refine A2 .free rfl ?_; intro b3; refine Bt rfl rfl rfl rfl .free ?_; refine Oa rfl (Aa (Ac (Se rfl (Om rfl ?_)))); refine Cw rfl .free rfl ?_; refine Om rfl ?_
 apply Gb 12 16 rfl
 ·intro g2_3 hk
  try simp only [nb] at g2_3
  refine Ow rfl ?_; refine B9 rfl (.met rfl rfl) rfl (Sq s hs _ _) ?_; rintro _ _ _ _ ⟨rfl, rfl, rfl⟩; refine Cw rfl (.met rfl rfl) rfl ?_; refine Of rfl rfl ?_
  exact Ay 3 rfl rfl hk
 ·intro _ hk; refine Ba 3 rfl ?_; refine Ot rfl rfl ?_
  exact Ay 3 rfl rfl hk
 refine Aa ?_; refine Ar rfl ?_ ?_
 ·intro c0
  try simp only [nb] at c0
  refine Se rfl (Oa rfl (Aa (Ad (.tmp rfl .nil) ?_))); refine ⟨J1, L, e1, Ax, ?_, rfl⟩
  have : Qh s = none := by
   unfold Qh
   cases hx : En s with
   | none => rfl
   | some e =>
    rcases c0 with h | h
    ·rw [g1.1 h] at hx; cases hx
    ·cases ht : e.ty [] [] with
     | none => simp [ht]
     | some ty =>
      have hc := Ex.ty_closed ht
      unfold Co at h
      rw [hx] at h; simp [hc] at h
  rw [this]; rfl
 intro c0
 try simp only [nb] at c0
 obtain ⟨hok, hcl⟩ := c0; obtain ⟨e, hx, rfl⟩ := g1.2 hok; obtain ⟨hek, hez, hel, -⟩ := Pi hx
 have hty : Qh s = e.ty [] [] := by unfold Qh; rw [hx]; rfl
 refine Ae (Se rfl ?_); refine Az rfl .free rfl ?_; refine Eo .free rfl ?_; intro b18; refine Eo .free rfl ?_; intro b19; refine Ca rfl (Aag (l := []) (m := []) _ (Nat.lt_succ_self _) ⟨Gj _ _, Gj _ _, rfl, fun _ h => by cases h⟩ hrep hek (by simp; unfold Ap; omega) _) ?_; rintro _ J3 _ e3 ⟨rfl, rfl⟩
 have hle := e1.trans e3
 refine Oa rfl (Aa (Ad (.tmp rfl .nil) ?_))
 exact ⟨J3, L, hle, Ax, by rw [hty]; rfl, rfl⟩
theorem Ur (s : Aq) (hs : s.length ≤ Jk) (I : Heap) (L : Bf) : Fun Tryz.prog 20 [.string (str s)] I L (fun v I' L' => v = .bool (Qh s).isSome ∧ L = L') := by
 refine Ai (by simp) ?_; refine Se rfl (Oa rfl (Aa (Se rfl (Om rfl ?_)))); refine Ca rfl (Wo s hs _ _) ?_; rintro _ J _ e1 ⟨rfl, rfl⟩; refine Od rfl rfl rfl (Oa rfl (Aa (Ad (.tmp rfl .nil) ?_))); refine ⟨J, L, e1, Ax, ?_, rfl⟩
 cases Qh s with
 | none => rfl
 | some ty => simp [Cv, Jf, ty.text_ne]
theorem Ex.text_ne {e : Ex} (h : e.ok = true) : e.tree.text ≠ [] := by
 cases e with
 | num s => exact Pv h
 | name s => exact Gp h
 | _ => simp [Ex.tree, Tree.text]
def Ex.flt (e : Ex) (l : List Aq) (m : List Ty) : Aq := match e.chk l m with
 | .ok _ => []
 | .error x => x.tree.text
structure FS where
 J : Heap
 ts : List Ty
def FS.is (e : Ex) (l : List Aq) (m : List Ty) (J0 : Heap) (x : FS) : Prop := HLe J0 x.J ∧ x.ts.length ≤ e.sub.length ∧ smallL x.ts ∧
 e.runs l m = e.run l m (e.sub.drop x.ts.length) ((Ch e.tree).drop x.ts.length) x.ts ∧ (∀ y a b, e = .lt y a b → x.ts.length = 1 → a.chk l m = .ok (x.ts.getD 0 .i))
def Sp (s : Aq) : Option Aq := match Co s with
 | some e => match e.chk [] [] with
  | .error x => some x.tree.text
  | .ok _ => none
 | none => none
theorem Wk {s : Aq} {e : Ex} {t : Ty} (h : Co s = some e) (h' : e.chk [] [] = .ok t) : Sp s = none := by unfold Sp; rw [h]; simp only [h']
end Go.Proofs.YtfddjcmeejjhiaaGreatDoor

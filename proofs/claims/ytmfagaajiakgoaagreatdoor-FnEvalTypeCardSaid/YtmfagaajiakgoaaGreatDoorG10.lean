/- The type of an expression by its text, by the reference: the walk. No conditions. -/
import Derived.Test.YtmfagaajiakgoaaGreatDoorG9

namespace Go.Proofs.YtmfagaajiakgoaaGreatDoor
set_option maxRecDepth 100000
set_option linter.unusedVariables false
set_option linter.unusedSimpArgs false

structure EnvG (I : Heap) (l : List As) (m : List Ty) (oa : Option Addr) (c : Nat) (ob : Option Addr) (c' : Nat) : Prop where
 names : Strs I oa l c
 types : Strs I ob (tx m) c'
 len : l.length = m.length
 small : smallL m
theorem EnvG.mono {I I' : Heap} (hle : HLe I I') {l : List As} {m : List Ty} {oa : Option Addr} {c : Nat} {ob : Option Addr} {c' : Nat} (h : EnvG I l m oa c ob c') : EnvG I' l m oa c ob c' :=
 ⟨h.names.mono hle, h.types.mono hle, h.len, h.small⟩
structure GS where
 J : Heap
 i : Nat
 b : Nat
 sp : List Value
 c : Nat
def gv (e : Ex) (l : List As) (m : List Ty) (i : Nat) : List Value := (((e.sub.take i).map fun a => a.ty l m).map tyT).map sv
theorem Kd {l : List As} {s : As} {i : Nat} (h : B9 l s = some i) : s ∈ l := by
 obtain ⟨h1, h2⟩ := Ju (show Gn l s l.length = some i from h); rw [← h2]; simp [h1]
theorem Y8 {l : List As} {m : List Ty} {s : As} {t : Ty} (h : Fg l m s = some t) : s ∈ l := by
 unfold Fg at h
 cases hi : B9 l s with
 | none => rw [hi] at h; cases h
 | some i => exact Kd hi
theorem Ex.chk_occ : ∀ {e : Ex} {l : List As} {m : List Ty} {t : Ty}, e.chk l m = .ok t → ∀ x ∈ e.occ [], x ∈ l
 | .num _, l, m, t, h, x, hx => by cases hx
 | .name s, l, m, t, h, x, hx => by
  simp only [Ex.occ, List.not_mem_nil, if_false, List.mem_singleton] at hx
  subst hx
  simp only [Ex.chk] at h
  split at h
  ·rename_i h1; exact Y8 h1
  ·cases h
 | .bin o a b, l, m, t, h, x, hx => by
  simp only [Ex.occ, List.mem_append] at hx
  simp only [Ex.chk] at h
  split at h
  ·cases h
  ·rename_i h1
   split at h
   ·cases h
   ·rename_i h2
    rcases hx with hx | hx
    ·exact Ex.chk_occ h1 x hx
    ·exact Ex.chk_occ h2 x hx
 | .ite a b c, l, m, t, h, x, hx => by
  simp only [Ex.occ, List.mem_append] at hx
  simp only [Ex.chk] at h
  split at h
  ·cases h
  ·rename_i h1
   split at h
   ·cases h
   ·rename_i h2
    split at h
    ·cases h
    ·rename_i h3
     rcases hx with (hx | hx) | hx
     ·exact Ex.chk_occ h1 x hx
     ·exact Ex.chk_occ h2 x hx
     ·exact Ex.chk_occ h3 x hx
 | .lt y a b, l, m, t, h, x, hx => by
  simp only [Ex.occ, List.mem_append, List.nil_append] at hx
  simp only [Ex.chk] at h
  split at h
  ·cases h
  ·rename_i h1
   rcases hx with hx | hx
   ·exact Ex.chk_occ h1 x hx
   ·rw [Ex.occ_mem] at hx
    have := Ex.chk_occ h x hx.1
    rcases List.mem_append.1 this with h2 | h2
    ·exact h2
    ·exact absurd h2 hx.2
 | .fn f y s t b, l, m, u, h, x, hx => by
  simp only [Ex.occ, List.nil_append] at hx
  rw [Ex.occ_mem] at hx
  simp only [Ex.chk] at h
  split at h
  ·split at h
   ·cases h
   ·rename_i h2
    have := Ex.chk_occ h2 x hx.1
    rcases List.mem_append.1 this with h3 | h3
    ·exact h3
    ·exact absurd h3 hx.2
  ·cases h
 | .un o a, l, m, t, h, x, hx => by
  simp only [Ex.occ] at hx
  simp only [Ex.chk] at h
  split at h
  ·cases h
  ·rename_i h1; exact Ex.chk_occ h1 x hx
theorem Ex.ty_occ {e : Ex} {l : List As} {m : List Ty} {t : Ty} (h : e.ty l m = some t) : ∀ x ∈ e.occ [], x ∈ l := by
 unfold Ex.ty at h
 split at h
 ·exact Ex.chk_occ C8
 ·cases h
theorem Ex.ty_closed {e : Ex} {t : Ty} (h : e.ty [] [] = some t) : e.closed = true := by
 unfold Ex.closed
 rw [List.isEmpty_iff]
 exact List.eq_nil_iff_forall_not_mem.2 fun x hx => by have := Ex.ty_occ h x hx; cases this
def tyC (s : As) : Option Ty := (Ei s).bind fun e => e.ty [] []
theorem Wc (s : As) : N6 [] [] s = (tyC s).map fun t => t.tree.text := by
 unfold N6 tyC
 rw [if_pos Aa1]
 cases Ei s <;> rfl
theorem Ga {s : As} {e : Ex} (h : Cm s = some e) : Ei s = some e ∧ e.ok = true ∧ e.size ≤ 120 ∧ e.tree.len ≤ 12000 ∧ e.closed = true := by
 obtain ⟨h1, h2⟩ := Hq h
 have h3 := (It h1).2.1
 simp only [Ex.fine, Bool.and_eq_true, Tree.fits, decide_eq_true_eq] at h3
 exact ⟨h1, h3.1.1, h3.1.2, h3.2.2, h2⟩
theorem X9 {s : As} {e : Ex} (h1 : Ei s = some e) : e.ok = true ∧ e.size ≤ 120 ∧ e.tree.len ≤ 12000 ∧ s = e.tree.text := by
 have h3 := (It h1).2.1
 simp only [Ex.fine, Bool.and_eq_true, Tree.fits, decide_eq_true_eq] at h3
 exact ⟨h3.1.1, h3.1.2, h3.2.2, (It h1).2.2⟩
theorem Afl {p : Option Ex} {t : Tree} {ok : Bool} (hpf : match p with | some e => ok = true ∧ t = e.tree | none => ok = false) : (ok = false → p = none) ∧ (ok = true → ∃ e, p = some e ∧ t = e.tree) := by
 cases p with
 | none => exact ⟨fun _ => rfl, fun h => (by rw [hpf] at h; cases h)⟩
 | some e => exact ⟨fun h => (by rw [hpf.1] at h; cases h), fun _ => ⟨e, rfl, hpf.2⟩⟩
theorem Abe {I : Heap} {ts : List Tree} {oa : Option Addr} {c : Nat} (h : Rep I (.node [] ts) [.string (str []), .slice oa ts.length c]) : Forms I oa ts c := by
 obtain ⟨oa', c', vs, he, hl, hs, hn, hc, ha, hp⟩ := h.open
 simp only [List.cons.injEq, Value.slice.injEq, and_true, true_and] at he
 obtain ⟨-, rfl, -, rfl⟩ := he
 exact ⟨⟨vs, hl, hs⟩, hn, hc, hp⟩
theorem Yb {I : Heap} {oa ob : Option Addr} {l m : List As} {c c' : Nat} (h : Strs I oa l c) (h' : Strs I ob m c') (s : As) (hs : s.length ≤ Bb) (L : Bh) :
  Fun Tryz.prog 19 [.slice oa l.length c, .slice ob m.length c', .string (str s)] I L (EL (N6 l m s) L) := by
 refine Al Af ?_; refine Se rfl (Oa rfl (Oa rfl (Ab (Se rfl (Om rfl (Om rfl ?_)))))); refine Ca rfl (Aai h h' _) ?_; rintro _ J1 _ e1 ⟨oa', n, c2, ob', ts, c3, rfl, rfl, hrt, henv⟩; refine Om rfl (Oe rfl rfl (Oe rfl rfl ?_)); refine A3 .free rfl ?_; intro b8; refine Bu rfl rfl rfl rfl .free ?_; refine Oa rfl (Ab (Se rfl (Om rfl ?_))); refine Ca rfl (Rc s hs _ _) ?_; rintro _ J2 _ e2 ⟨t, cs, ok, rfl, hrep, rfl, hpf⟩; obtain ⟨o1, k1, _, rfl, -⟩ := hrep.open
 have g1 := Afl hpf
 have hle := e1.trans e2
 refine Om rfl (Oe rfl rfl (Oe rfl rfl ?_)); refine A3 .free rfl ?_; intro b10; refine Bu rfl rfl rfl rfl .free ?_; refine Oa rfl (Ab (Ah (Se rfl (Om rfl ?_)))); refine Dl rfl .free rfl ?_; refine Om rfl ?_
 apply F6 28 31 rfl
 ·intro g3_3 hk
  try simp only [nb] at g3_3
  refine Ow rfl ?_; refine Dl rfl (.met rfl rfl) rfl ?_; refine Of rfl rfl ?_
  exact Au 2 rfl rfl hk
 ·intro _ hk; refine A2 2 rfl ?_; refine Ot rfl rfl ?_
  exact Au 2 rfl rfl hk
 refine Ab ?_; refine Av rfl ?_ ?_
 ·intro c0
  try simp only [nb] at c0
  refine Se rfl (Oa rfl (Oa rfl (Ab ?_))); refine Ai (.tmp rfl (.tmp rfl .nil)) ?_; refine ⟨J2, L, hle, Bj, ?_, rfl⟩; rw [N7 (by rcases c0 with h | h; exact .inl h; exact .inr (g1.1 h))]; rfl
 intro c0
 try simp only [nb] at c0
 obtain ⟨he, hok⟩ := c0; obtain ⟨rfl, rfl, rfl, hts⟩ := henv he; obtain ⟨e, hx, rfl⟩ := g1.2 hok; obtain ⟨hek, hez, hel, -⟩ := X9 hx; obtain ⟨h1, h2, h3, h4, h5, h6⟩ := Aa2 he
 have hts2 : ts = (Gi m).map Ty.tree := by
  have := h3.symm.trans hts
  exact (List.map_inj_right (fun a b h => Option.some.inj h)).1 this.symm
 subst hts2
 have hty := Mq he hx
 refine Aj (Se rfl ?_); refine Bq rfl .free rfl ?_; refine Bq rfl .free rfl ?_; refine Ca rfl (Up _ (Nat.lt_succ_self _) ⟨h.mono hle, (Abe hrt).mono e2, h4, h2⟩ hrep hek Bz _) ?_; rintro _ J3 _ e3 ⟨u, cs, w', ds, ok', rfl, hru, hrw, rfl, hm⟩; obtain ⟨o4, k4, _, rfl, -⟩ := hru.open; obtain ⟨o5, k5, _, rfl, -⟩ := hrw.open
 have hle := hle.trans e3
 refine Om rfl ?_
 iterate 3 refine Oe rfl rfl ?_
 refine A3 .free rfl ?_; intro b12; refine A3 .free rfl ?_; intro b13; refine Bu rfl rfl rfl rfl .free ?_; refine Bu rfl rfl rfl rfl .free ?_; refine Oa rfl (Ab (Ah (Se rfl (Om rfl ?_)))); refine Dl rfl .free rfl ?_; refine Ab ?_; refine Av rfl ?_ ?_
 ·intro c1
  try simp only [nb] at c1
  refine Se rfl (Oa rfl (Oa rfl (Ab ?_))); refine Ai (.tmp rfl (.tmp rfl .nil)) ?_; refine ⟨J3, L, hle, Bj, ?_, rfl⟩; obtain ⟨y, hy, -⟩ := Afj hm (by simpa using c1); rw [hty, show e.ty l (Gi m) = none by unfold Ex.ty; rw [hy]]; rfl
 intro c1
 try simp only [nb] at c1
 obtain ⟨ty, hy, rfl⟩ := Afk hm (by simpa using c1)
 have hsm := Ex.chk_small hek h2 hy
 have htl := Ty.text_len hsm
 refine Aj (Se rfl ?_); refine Bq rfl .free rfl ?_; refine Ca rfl (L6 hru Bz _) ?_; rintro _ _ _ _ ⟨rfl, rfl, rfl⟩; refine Oa rfl (Oa rfl (Ab ?_)); refine Ai (.tmp rfl (.tmp rfl .nil)) ?_; refine ⟨J3, L, hle, Bj, ?_, rfl⟩; rw [hty, show e.ty l (Gi m) = some ty by unfold Ex.ty; rw [hy]]; rfl
def Ex.flt (e : Ex) (l : List As) (m : List Ty) : As := match e.chk l m with
 | .ok _ => []
 | .error x => x.tree.text
structure FS where
 J : Heap
 ts : List Ty
def FS.is (e : Ex) (l : List As) (m : List Ty) (J0 : Heap) (x : FS) : Prop := HLe J0 x.J ∧ x.ts.length ≤ e.sub.length ∧ smallL x.ts ∧
 e.runs l m = e.run l m (e.sub.drop x.ts.length) ((Cl e.tree).drop x.ts.length) x.ts ∧ (∀ y a b, e = .lt y a b → x.ts.length = 1 → a.chk l m = .ok (x.ts.getD 0 .i))
def Ag2 (s : As) : Option As := match Cm s with
 | some e => match e.chk [] [] with
  | .error x => some x.tree.text
  | .ok _ => none
 | none => none
end Go.Proofs.YtmfagaajiakgoaaGreatDoor

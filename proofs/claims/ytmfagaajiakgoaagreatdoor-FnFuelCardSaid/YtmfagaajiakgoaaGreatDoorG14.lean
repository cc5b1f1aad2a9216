/- What is left to do when the parts are evaluated, by the reference. No conditions. -/
import Derived.Test.YtmfagaajiakgoaaGreatDoorG13

namespace Go.Proofs.YtmfagaajiakgoaaGreatDoor
set_option maxRecDepth 100000
set_option linter.unusedVariables false
set_option linter.unusedSimpArgs false

def KV.kd : KV → As
 | .num _ => [110, 117, 109, 98, 101, 114]
 | .pair _ _ => [112, 97, 105, 114]
 | .clo _ _ _ _ _ _ => [102, 117, 110]
def KV.kn : KV → Int
 | .num s => Do s
 | _ => 0
theorem GVat.openK {I : Heap} {v : KV} {cs : List Value} (h : GVat I v cs) : ∃ q mq cq o l c on m1 c1 ov m2 c2, cs = [.string (str v.kd), .int .i64 v.kn, .slice q mq cq, .string (str []), .slice o l c, .slice on m1 c1, .slice ov m2 c2] := by
 cases h with
 | num => exact ⟨_, _, _, _, _, _, _, _, _, _, _, _, rfl⟩
 | pair hq hc hu hv => exact ⟨_, _, _, _, _, _, _, _, _, _, _, _, rfl⟩
 | clo hr he => exact ⟨_, _, _, _, _, _, _, _, _, _, _, _, rfl⟩
theorem Xi {v : KV} (h : v.kd = [110, 117, 109, 98, 101, 114]) : ∃ s, v = .num s := by
 cases v with
 | num s => exact ⟨s, rfl⟩
 | _ => simp [KV.kd] at h
theorem Acx {v : KV} (h : v.kd = [112, 97, 105, 114]) : ∃ a b, v = .pair a b := by
 cases v with
 | pair a b => exact ⟨a, b, rfl⟩
 | _ => simp [KV.kd] at h
theorem Ad5 {v : KV} (h : v.kd = [102, 117, 110]) : ∃ f x s t b r, v = .clo f x s t b r := by
 cases v with
 | clo f x s t b r => exact ⟨f, x, s, t, b, r, rfl⟩
 | _ => simp [KV.kd] at h
def H3 (b n : Nat) (st : Bool) : Nat × Obj := (b, .cells [.int .i64 (n : Nat), .bool st].toArray 73 (0, 0))
def Rn (b : Nat) (r : Res) (L : Bl) : Cx := fun v I' L' => ∃ cs, v = .tuple #[.agg (List.toArray cs), .bool r.v.isSome] ∧ GO I' r.v cs ∧ L' = H3 b r.left r.stuck :: L
def EvG (N : Nat) : Prop := ∀ {I : Heap} {e : Ex} {cs : List Value} {k : KE} {on ov : Option Addr} {cn cv : Nat} (n : Nat) (_ : n < N) (_ : Rep I e.tree cs) (_ : e.ok = true) (_ : GEat I k on cn ov cv) (_ : k.wf) (_ : ∀ y ∈ e.occ [], y ∈ k.dom) (_ : k.tall + 2 * n ≤ 100000) (b : Nat) (L : Bl),
 Fun Tryz.prog 54 [.pointer (some ⟨b, 0, none⟩), .agg cs.toArray, .slice on k.names.length cn, .slice ov k.names.length cv] I (H3 b n false :: L) (Rn b (eval n e k) L)

theorem Aba {a d : Ex} {u v : KV} {I : Heap} {cs : List Value} (h : Rep I (Ex.bin .pair a d).tree cs) {gu : List Value} (hu : GVat I u gu) {gv : List Value} (hv : GVat I v gv) {q : Addr} {c : Nat} (hq : Still I q (gu ++ gv)) (hc : 2 ≤ c)  {on ov : Option Addr} {lm cn lv cv : Nat} (b n : Nat) (hn : n ≤ 1000000) (L : Bl) :
  Fun Tryz.prog 100 [.pointer (some ⟨b, 0, none⟩), .agg cs.toArray, .slice (some q) 2 c, .slice on lm cn, .slice ov lv cv] I (H3 b n false :: L) (Rn b (Res.of (B5.act .pair u v) n) L) := by
 obtain ⟨oa, cc, oaf, cf, rfl, hf⟩ := h.at'
 have hlen : (Ex.bin .pair a d).tree.parts.length = 3 := rfl
 obtain ⟨xa, rfl⟩ : ∃ xa, oa = some xa := ⟨_, D5 hf.nil (show 0 < 3 by decide)⟩
 have hle : HLe I I := .refl _
 have q0 : Still I (q.add (0 * 7)) gu := hq.left
 have q1 : Still I (q.add (1 * 7)) gv := hq.right 1 hu.len
 obtain ⟨_, _, _, _, _, _, _, _, _, _, _, _, rfl⟩ := hu.openK; obtain ⟨_, _, _, _, _, _, _, _, _, _, _, _, rfl⟩ := hv.openK
 unfold H3
 refine Ao Ad ?_; refine Se rfl ?_; refine Cg rfl rfl .free rfl ?_; intro b6; refine A5 .free rfl ?_; intro b10; refine Oa rfl (Ab (Se rfl (Oh rfl ?_))); refine A9 rfl .free rfl ?_
 first | refine Bh rfl rfl 0 rfl .free rfl ?_ | refine Bi rfl rfl 0 rfl .free rfl ?_
 refine Be rfl .free rfl ?_; refine Gf rfl .free rfl ?_; refine C5 (t := 20) (v' := .string (str [112, 97, 105, 114])) rfl rfl ?_; refine Oa rfl (Ab (Se rfl (Om rfl ?_)))
 first | refine Bh rfl rfl 0 rfl .free rfl ?_ | refine Bi rfl rfl 0 rfl .free rfl ?_
 refine Bs rfl (Bc q0 Ae) .free rfl ?_; refine A5 .free rfl ?_; intro b13; refine By rfl rfl rfl rfl .free ?_; refine Ab (Se rfl (Om rfl (Om rfl (On rfl ?_)))); refine Or rfl rfl rfl ?_; refine C5 (t := 27) (v' := .int .i64 ((1 : Nat))) rfl Ae ?_
 first | refine Bh rfl rfl _ rfl .free rfl ?_ | refine Bi rfl rfl _ rfl .free rfl ?_
 refine Bs rfl (Bc q1 Ae) .free rfl ?_; refine A5 .free rfl ?_; intro b14; refine By rfl rfl rfl rfl .free ?_; refine Ab (Ah (Ar (Se rfl (Om rfl (Od rfl rfl rfl (Oa rfl (Ab ?_)))))))
 first | refine St rfl (rfl) ?_ | refine Br Ak ?_
 refine Se rfl ?_; refine Bj rfl .free rfl ?_; refine Bj rfl .free rfl ?_; refine Ol rfl rfl ?_; intro b35; refine Cp rfl rfl rfl .free rfl ?_; refine By rfl rfl rfl rfl .free ?_; refine Oa rfl (Ab ?_); refine Bo ?_; intro hz; refine Al (.c rfl (.tmp rfl .nil)) ?_
 exact ⟨_, _, hz, Ms (L' := (b, _) :: L), _, rfl, .pair (Ba (ys := [])) (Nat.le_refl 2) (hu.mono hz) (hv.mono hz), rfl⟩
theorem Ad0 {z : As} {a d : Ex} {u : KV} (hok : (Ex.lt z a d).ok = true) (wu : u.wf) {I : Heap} {cs : List Value} (h : Rep I (Ex.lt z a d).tree cs) {gu : List Value} (hu : GVat I u gu) {q : Addr} {c : Nat} (hq : Still I q (gu))  {N : Nat} (ihn : EvG N) {k : KE} {on ov : Option Addr} {cn cv : Nat} (hk : GEat I k on cn ov cv) (hkw : k.wf) (b n : Nat) (hn : n ≤ 1000000) (hN : n < N) (htl : k.tall + 2 * n ≤ 100000) (hdm : ∀ y ∈ d.occ [], y ∈ (KE.cons z u k).dom) (htl2 : (KE.cons z u k).tall + 2 * n ≤ 100000) (L : Bl) :
  Fun Tryz.prog 100 [.pointer (some ⟨b, 0, none⟩), .agg cs.toArray, .slice (some q) 1 c, .slice on k.names.length cn, .slice ov k.names.length cv] I (H3 b n false :: L) (Rn b (eval n d (.cons z u k)) L) := by
 obtain ⟨oa, cc, oaf, cf, rfl, hf⟩ := h.at'
 have hlen : (Ex.lt z a d).tree.parts.length = 4 := rfl
 obtain ⟨xa, rfl⟩ : ∃ xa, oa = some xa := ⟨_, D5 hf.nil (show 0 < 4 by decide)⟩
 have hle : HLe I I := .refl _
 have q0 : Still I (q.add (0 * 7)) gu := Still.left (cv := []) Jf
 have hu2 := hu
 obtain ⟨_, _, _, _, _, _, _, _, _, _, _, _, rfl⟩ := hu.openK
 have hnt := Lf k
 obtain ⟨hnm, hvs, hst, h0, hcv⟩ := hk
 simp only [Ex.ok, Bool.and_eq_true] at hok
 have hzl : z.length ≤ Bd := by have := Fs hok.1.1; unfold Bd; omega
 unfold H3
 refine Ao Ad ?_; refine Se rfl ?_; refine Cg rfl rfl .free rfl ?_; intro b6; refine A5 .free rfl ?_; intro b10; refine Oa rfl (Ab (Se rfl (Oh rfl ?_))); refine A9 rfl .free rfl ?_
 first | refine Bh rfl rfl 0 rfl .free rfl ?_ | refine Bi rfl rfl 0 rfl .free rfl ?_
 refine Be rfl .free rfl ?_; refine Gf rfl .free rfl ?_; refine C5 (t := 20) (v' := .string (str [108, 101, 116])) rfl rfl ?_; refine Oa rfl (Ab (Se rfl (Om rfl ?_)))
 first | refine Bh rfl rfl 0 rfl .free rfl ?_ | refine Bi rfl rfl 0 rfl .free rfl ?_
 refine Bs rfl (Bc q0 Ae) .free rfl ?_; refine A5 .free rfl ?_; intro b13; refine By rfl rfl rfl rfl .free ?_; refine Ab (Se rfl (Om rfl (Om rfl (On rfl ?_)))); refine Or rfl rfl rfl ?_; refine C5 (t := 27) (v' := .int .i64 ((0 : Nat))) rfl Ae ?_
 first | refine Bh rfl rfl _ rfl .free rfl ?_ | refine Bi rfl rfl _ rfl .free rfl ?_
 refine Bs rfl (Bc q0 Ae) .free rfl ?_; refine A5 .free rfl ?_; intro b14; refine By rfl rfl rfl rfl .free ?_; refine Ab (Ah (Ar (Se rfl (Om rfl (Od rfl rfl rfl (Oa rfl (Ab ?_)))))))
 first | refine Sf rfl Ac ?_ | refine At Ak ?_
 refine Se rfl (Om rfl (Od rfl rfl rfl (Oa rfl (Ab ?_))))
 first | refine St rfl (rfl) ?_ | refine Br Ak ?_
 refine Ah ?_; refine Cq (fun w h => h.f4) ?_; refine H5 21 rfl rfl ?_; refine Da 0 rfl (Ai rfl) ?_; refine Da 1 rfl (Ap rfl) ?_; refine Dt 2 [19] rfl (Bx rfl) ?_
 first | refine Da 3 rfl (Bp rfl rfl 3 rfl) ?_ | refine Da 3 rfl (Bq rfl rfl 3 rfl) ?_
 refine Dt 4 [19] rfl (Dz rfl) ?_; refine Da 5 rfl (Ai rfl) ?_; refine Da 6 rfl (Ap rfl) ?_; refine Dt 7 [19] rfl (Bx rfl) ?_
 first | refine Da 8 rfl (Bp rfl rfl 1 rfl) ?_ | refine Da 8 rfl (Bq rfl rfl 1 rfl) ?_
 refine Da 9 rfl (Bn rfl) ?_; refine Dt 10 [19] rfl (L6 rfl) ?_; refine Da 13 rfl (Ai rfl) ?_; refine Dt 14 [19] rfl (D2 rfl) ?_; refine Fz 11 rfl Af rfl rfl rfl Ae Ae Ae Ac Ac Ae .free rfl (.inr Bb) ?_; intro b51; refine Ee ?_; intro hz
 have hle := hz
 have hf := hf.mono hz
 have hnm := hnm.mono hz
 have hvs := hvs.mono hz
 have hst := fun x hx => (hst x hx).mono hz
 have hu2 := hu2.mono hz
 have hk1 := Hy hz hzl
 refine Dc 12 rfl rfl (It hnm hk1 Gy _) ?_; rintro _ J2 _ e2 ⟨o3, c3, rfl, hn3, rfl⟩
 have hle := hle.trans e2
 have hf := hf.mono e2
 have hvs := hvs.mono e2
 have hst := fun x hx => (hst x hx).mono e2
 have hu2 := hu2.mono e2
 refine Hx ?_; refine Dc 15 rfl rfl (Qy hvs hst h0 Aa hu2 z _) ?_; rintro _ J3 _ e3 ⟨x4, c4, rfl, hs4, hc4, rfl⟩
 have hle := hle.trans e3
 have hf := hf.mono e3
 have hvs := hvs.mono e3
 have hu2 := hu2.mono e3
 have hn3 := hn3.mono e3
 have hgk : GEat J3 (.cons z u k) o3 c3 (some x4) c4 := .mk hn3 (.cons hvs hu2) (fun x hx => by cases hx; exact hs4) (fun h => by cases h) hc4
 refine Hx ?_; refine Dc 16 rfl rfl (ihn n hN (hf.as 3 d.tree Aa rfl) hok.2 hgk ⟨hok.1.1, wu, hkw⟩ hdm htl2 b _) ?_; rintro _ J4 _ e4 ⟨cs5, rfl, hg5, rfl⟩
 have hle := hle.trans e4
 obtain ⟨_, _, _, _, _, _, _, _, _, _, _, _, _, _, rfl⟩ := hg5.open
 unfold H3
 refine Hx ?_; refine Da 17 rfl (Cj rfl rfl) ?_; refine Da 18 rfl (Cj rfl rfl) ?_; refine Dx 19 rfl rfl rfl rfl ?_; refine Db 20 rfl (A2 rfl) ?_; refine Bg Af ?_; refine Al (.c rfl (.tmp rfl .nil)) ?_
 exact ⟨J4, _, hle, Ms (L' := (b, _) :: L), _, rfl, hg5, rfl⟩
theorem Acr {o : B5} (ho : o.nums = true) {a d : Ex} {u v : KV} (wu : u.wf) (wv : v.wf) {I : Heap} {cs : List Value} (h : Rep I (Ex.bin o a d).tree cs) {gu : List Value} (hu : GVat I u gu) {gv : List Value} (hv : GVat I v gv) {q : Addr} {c : Nat} (hq : Still I q (gu ++ gv)) (hc : 2 ≤ c)  {on ov : Option Addr} {lm cn lv cv : Nat} (b n : Nat) (hn : n ≤ 1000000) (L : Bl) :
  Fun Tryz.prog 100 [.pointer (some ⟨b, 0, none⟩), .agg cs.toArray, .slice (some q) 2 c, .slice on lm cn, .slice ov lv cv] I (H3 b n false :: L) (Rn b (Res.of (o.act u v) n) L) := by
 obtain ⟨oa, cc, oaf, cf, rfl, hf⟩ := h.at'
 have hlen : (Ex.bin o a d).tree.parts.length = 3 := rfl
 obtain ⟨xa, rfl⟩ : ∃ xa, oa = some xa := ⟨_, D5 hf.nil (show 0 < 3 by decide)⟩
 have hle : HLe I I := .refl _
 have q0 : Still I (q.add (0 * 7)) gu := hq.left
 have q1 : Still I (q.add (1 * 7)) gv := hq.right 1 hu.len
 obtain ⟨_, _, _, _, _, _, _, _, _, _, _, _, rfl⟩ := hu.openK; obtain ⟨_, _, _, _, _, _, _, _, _, _, _, _, rfl⟩ := hv.openK
 have h1 : ¬ o.txt = [112, 97, 105, 114] := fun h => by have := B5.txt_inj (o' := .pair) h; subst this; cases ho
 have h2 : ¬ o.txt = [108, 101, 116] := o.txt_ne.2.1
 have h3 : ¬ o.txt = [105, 102] := o.txt_ne.1
 have h4 : ¬ o.txt = [99, 97, 108, 108] := fun h => by have := B5.txt_inj (o' := .call) h; subst this; cases ho
 have h5 : ¬ o.txt = [102, 115, 116] := Nc o .fst
 have h6 : ¬ o.txt = [115, 110, 100] := Nc o .snd
 have hor : (o.txt = [43] ∨ o.txt = [45]) ∨ o.txt = [42] := by cases o <;> first | exact .inl (.inl rfl) | exact .inl (.inr rfl) | exact .inr rfl | cases ho
 unfold H3
 refine Ao Ad ?_; refine Se rfl ?_; refine Cg rfl rfl .free rfl ?_; intro b6; refine A5 .free rfl ?_; intro b10; refine Oa rfl (Ab (Se rfl (Oh rfl ?_))); refine A9 rfl .free rfl ?_
 first | refine Bh rfl rfl 0 rfl .free rfl ?_ | refine Bi rfl rfl 0 rfl .free rfl ?_
 refine Be rfl .free rfl ?_; refine Gf rfl .free rfl ?_; refine C5 (t := 20) (v' := .string (str o.txt)) rfl rfl ?_; refine Oa rfl (Ab (Se rfl (Om rfl ?_)))
 first | refine Bh rfl rfl 0 rfl .free rfl ?_ | refine Bi rfl rfl 0 rfl .free rfl ?_
 refine Bs rfl (Bc q0 Ae) .free rfl ?_; refine A5 .free rfl ?_; intro b13; refine By rfl rfl rfl rfl .free ?_; refine Ab (Se rfl (Om rfl (Om rfl (On rfl ?_)))); refine Or rfl rfl rfl ?_; refine C5 (t := 27) (v' := .int .i64 ((1 : Nat))) rfl Ae ?_
 first | refine Bh rfl rfl _ rfl .free rfl ?_ | refine Bi rfl rfl _ rfl .free rfl ?_
 refine Bs rfl (Bc q1 Ae) .free rfl ?_; refine A5 .free rfl ?_; intro b14; refine By rfl rfl rfl rfl .free ?_; refine Ab (Ah (Ar (Se rfl (Om rfl (Od rfl rfl rfl (Oa rfl (Ab ?_)))))))
 first | refine Ej rfl (h1) ?_ | refine Ei rfl (h1) ?_ | refine At Ak ?_
 refine Se rfl (Om rfl (Od rfl rfl rfl (Oa rfl (Ab ?_))))
 first | refine Ej rfl (h2) ?_ | refine Ei rfl (h2) ?_ | refine At Ak ?_
 refine Se rfl (Om rfl (Od rfl rfl rfl (Om rfl ?_)))
 apply C0 62 66 rfl
 ·intro g8_3 hk
  try simp only [nb] at g8_3
  refine Ay rfl (.met rfl rfl) rfl ?_; refine A9 rfl (.met rfl rfl) rfl ?_; refine Ci rfl rfl rfl (.met rfl rfl) rfl ?_; refine Ot rfl rfl ?_
  exact Aw 3 rfl rfl hk
 ·intro _ hk; refine A0 3 rfl ?_; refine Of rfl rfl ?_
  exact Aw 3 rfl rfl hk
 refine Oa rfl (Ab ?_)
 first | refine Ej rfl (fun h => h3 h.1) ?_ | refine Ei rfl (fun h => h3 h.1) ?_ | refine At Ak ?_
 refine Se rfl (Om rfl (Od rfl rfl rfl (Om rfl ?_)))
 apply C0 87 91 rfl
 ·intro g10_3 hk
  try simp only [nb] at g10_3
  refine Ay rfl (.met rfl rfl) rfl ?_; refine A9 rfl (.met rfl rfl) rfl ?_; refine Ci rfl rfl rfl (.met rfl rfl) rfl ?_; refine Ot rfl rfl ?_
  exact Aw 3 rfl rfl hk
 ·intro _ hk; refine A0 3 rfl ?_; refine Of rfl rfl ?_
  exact Aw 3 rfl rfl hk
 refine Oa rfl (Ab ?_)
 first | refine Ej rfl (fun h => h4 h.1) ?_ | refine Ei rfl (fun h => h4 h.1) ?_ | refine At Ak ?_
 refine Se rfl (Om rfl (Od rfl rfl rfl (Om rfl ?_)))
 apply C0 123 127 rfl
 ·intro g13_3 hk
  try simp only [nb] at g13_3
  refine Ay rfl (.met rfl rfl) rfl ?_; refine A9 rfl (.met rfl rfl) rfl ?_; refine Ci rfl rfl rfl (.met rfl rfl) rfl ?_; refine Ot rfl rfl ?_
  exact Aw 3 rfl rfl hk
 ·intro _ hk; refine A0 3 rfl ?_; refine Of rfl rfl ?_
  exact Aw 3 rfl rfl hk
 refine Oa rfl (Ab ?_)
 first | refine Ej rfl (fun h => h5 h.1) ?_ | refine Ei rfl (fun h => h5 h.1) ?_ | refine At Ak ?_
 refine Se rfl (Om rfl (Od rfl rfl rfl (Om rfl ?_)))
 apply C0 135 139 rfl
 ·intro g15_3 hk
  try simp only [nb] at g15_3
  refine Ay rfl (.met rfl rfl) rfl ?_; refine A9 rfl (.met rfl rfl) rfl ?_; refine Ci rfl rfl rfl (.met rfl rfl) rfl ?_; refine Ot rfl rfl ?_
  exact Aw 3 rfl rfl hk
 ·intro _ hk; refine A0 3 rfl ?_; refine Of rfl rfl ?_
  exact Aw 3 rfl rfl hk
 refine Oa rfl (Ab ?_)
 first | refine Ej rfl (fun h => h6 h.1) ?_ | refine Ei rfl (fun h => h6 h.1) ?_ | refine At Ak ?_
 refine Se rfl (Om rfl (Od rfl rfl rfl (Om rfl ?_)))
 apply Gk 147 150 rfl
 ·intro g17_3 hk
  try simp only [nb] at g17_3
  refine Ow rfl ?_; refine Ci rfl rfl rfl (.met rfl rfl) rfl ?_; refine Of rfl rfl ?_
  exact Aw 2 rfl rfl hk
 ·intro _ hk; refine A0 2 rfl ?_; refine Ot rfl rfl ?_
  exact Aw 2 rfl rfl hk
 refine Om rfl ?_
 apply Gk 151 154 rfl
 ·intro g17_7 hk
  try simp only [nb] at g17_7
  refine Ow rfl ?_; refine Ci rfl rfl rfl (.met rfl rfl) rfl ?_; refine Of rfl rfl ?_
  exact Aw 2 rfl rfl hk
 ·intro _ hk; refine A0 2 rfl ?_; refine Ot rfl rfl ?_
  exact Aw 2 rfl rfl hk
 refine Om rfl ?_
 apply C0 155 159 rfl
 ·intro g17_11 hk
  try simp only [nb] at g17_11
  refine Ay rfl (.met rfl rfl) rfl ?_; refine A9 rfl (.met rfl rfl) rfl ?_; refine Ci rfl rfl rfl (.met rfl rfl) rfl ?_; refine Ot rfl rfl ?_
  exact Aw 3 rfl rfl hk
 ·intro _ hk; refine A0 3 rfl ?_; refine Of rfl rfl ?_
  exact Aw 3 rfl rfl hk
 refine Om rfl ?_
 apply C0 160 164 rfl
 ·intro g17_16 hk
  try simp only [nb] at g17_16
  refine Ay rfl (.met rfl rfl) rfl ?_; refine A9 rfl (.met rfl rfl) rfl ?_; refine Ci rfl rfl rfl (.met rfl rfl) rfl ?_; refine Ot rfl rfl ?_
  exact Aw 3 rfl rfl hk
 ·intro _ hk; refine A0 3 rfl ?_; refine Of rfl rfl ?_
  exact Aw 3 rfl rfl hk
 refine Oa rfl (Ab ?_); refine Az rfl ?_ ?_
 ·intro c6
  try simp only [nb] at c6
  obtain ⟨s, rfl⟩ := Xi (v := u) c6.1.2; obtain ⟨r, rfl⟩ := Xi (v := v) c6.2; refine Se rfl (Om rfl (Oh rfl ?_)); refine A9 rfl .free rfl ?_; refine Oh rfl ?_; refine A9 rfl .free rfl ?_; refine Ca rfl (Ze o (Do s) (Do r) (Jj wu) (Jj wv) _ _) ?_; rintro _ _ _ _ ⟨rfl, rfl, rfl⟩; refine Cp rfl rfl rfl .free rfl ?_; refine By rfl rfl rfl rfl .free ?_; refine Oa rfl (Ab ?_); refine Al (.c rfl (.tmp rfl .nil)) ?_
  have hac : o.act (.num s) (.num r) = some (.num (Pb o s r)) := by
   cases o <;> first | rfl | cases ho
  have hg := GVat.num (I := I) (s := Pb o s r)
  rw [(Rc o s r).2] at hg; rw [hac]
  exact ⟨I, _, .refl _, Ms (L' := (b, _) :: L), _, rfl, hg, rfl⟩
 intro c6
 try simp only [nb] at c6
 refine Aj (Aq (Se rfl (Om rfl ?_))); refine Au rfl .free rfl ?_
 first | refine Oh rfl ?_ | refine Oj rfl ?_
 refine By rfl rfl rfl rfl .free ?_; refine Ab (Se rfl ?_); refine Cp rfl rfl rfl .free rfl ?_; refine By rfl rfl rfl rfl .free ?_; refine Oa rfl (Ab ?_); refine Al (.c rfl (.tmp rfl .nil)) ?_
 have hac : o.act u v = none := by
  cases u with
  | num s =>
   cases v with
   | num r => exact absurd c6 (by simp [KV.kd]; intro x1 x2; rcases hor with (h | h) | h; exact absurd h x1; exact absurd h x2; exact h)
   | _ => cases o <;> first | rfl | cases ho
  | _ => cases o <;> first | rfl | cases ho
 rw [hac]
 exact ⟨I, _, .refl _, Ms (L' := (b, _) :: L), S6, rfl, rfl, rfl⟩
theorem Vv {a d : Ex} {u v : KV} (hno : ¬ u.kd = [102, 117, 110]) {I : Heap} {cs : List Value} (h : Rep I (Ex.bin .call a d).tree cs) {gu : List Value} (hu : GVat I u gu) {gv : List Value} (hv : GVat I v gv) {q : Addr} {c : Nat} (hq : Still I q (gu ++ gv)) (hc : 2 ≤ c)  {on ov : Option Addr} {lm cn lv cv : Nat} (b n : Nat) (hn : n ≤ 1000000) (L : Bl) :
  Fun Tryz.prog 100 [.pointer (some ⟨b, 0, none⟩), .agg cs.toArray, .slice (some q) 2 c, .slice on lm cn, .slice ov lv cv] I (H3 b n false :: L) (Rn b ⟨none, n, true⟩ L) := by
 obtain ⟨oa, cc, oaf, cf, rfl, hf⟩ := h.at'
 have hlen : (Ex.bin .call a d).tree.parts.length = 3 := rfl
 obtain ⟨xa, rfl⟩ : ∃ xa, oa = some xa := ⟨_, D5 hf.nil (show 0 < 3 by decide)⟩
 have hle : HLe I I := .refl _
 have q0 : Still I (q.add (0 * 7)) gu := hq.left
 have q1 : Still I (q.add (1 * 7)) gv := hq.right 1 hu.len
 obtain ⟨_, _, _, _, _, _, _, _, _, _, _, _, rfl⟩ := hu.openK; obtain ⟨_, _, _, _, _, _, _, _, _, _, _, _, rfl⟩ := hv.openK
 unfold H3
 refine Ao Ad ?_; refine Se rfl ?_; refine Cg rfl rfl .free rfl ?_; intro b6; refine A5 .free rfl ?_; intro b10; refine Oa rfl (Ab (Se rfl (Oh rfl ?_))); refine A9 rfl .free rfl ?_
 first | refine Bh rfl rfl 0 rfl .free rfl ?_ | refine Bi rfl rfl 0 rfl .free rfl ?_
 refine Be rfl .free rfl ?_; refine Gf rfl .free rfl ?_; refine C5 (t := 20) (v' := .string (str [99, 97, 108, 108])) rfl rfl ?_; refine Oa rfl (Ab (Se rfl (Om rfl ?_)))
 first | refine Bh rfl rfl 0 rfl .free rfl ?_ | refine Bi rfl rfl 0 rfl .free rfl ?_
 refine Bs rfl (Bc q0 Ae) .free rfl ?_; refine A5 .free rfl ?_; intro b13; refine By rfl rfl rfl rfl .free ?_; refine Ab (Se rfl (Om rfl (Om rfl (On rfl ?_)))); refine Or rfl rfl rfl ?_; refine C5 (t := 27) (v' := .int .i64 ((1 : Nat))) rfl Ae ?_
 first | refine Bh rfl rfl _ rfl .free rfl ?_ | refine Bi rfl rfl _ rfl .free rfl ?_
 refine Bs rfl (Bc q1 Ae) .free rfl ?_; refine A5 .free rfl ?_; intro b14; refine By rfl rfl rfl rfl .free ?_; refine Ab (Ah (Ar (Se rfl (Om rfl (Od rfl rfl rfl (Oa rfl (Ab ?_)))))))
 first | refine Sf rfl Ac ?_ | refine At Ak ?_
 refine Se rfl (Om rfl (Od rfl rfl rfl (Oa rfl (Ab ?_))))
 first | refine Sf rfl Ac ?_ | refine At Ak ?_
 refine Se rfl (Om rfl (Od rfl rfl rfl (Om rfl ?_)))
 apply C0 62 66 rfl
 ·intro g8_3 hk
  try simp only [nb] at g8_3
  refine Ay rfl (.met rfl rfl) rfl ?_; refine A9 rfl (.met rfl rfl) rfl ?_; refine Ci rfl rfl rfl (.met rfl rfl) rfl ?_; refine Ot rfl rfl ?_
  exact Aw 3 rfl rfl hk
 ·intro _ hk; refine A0 3 rfl ?_; refine Of rfl rfl ?_
  exact Aw 3 rfl rfl hk
 refine Oa rfl (Ab ?_)
 first | refine Ej rfl (fun h => absurd h.1 Ac) ?_ | refine Ei rfl (fun h => absurd h.1 Ac) ?_ | refine At Ak ?_
 refine Se rfl (Om rfl (Od rfl rfl rfl (Om rfl ?_)))
 apply C0 87 91 rfl
 ·intro g10_3 hk
  try simp only [nb] at g10_3
  refine Ay rfl (.met rfl rfl) rfl ?_; refine A9 rfl (.met rfl rfl) rfl ?_; refine Ci rfl rfl rfl (.met rfl rfl) rfl ?_; refine Ot rfl rfl ?_
  exact Aw 3 rfl rfl hk
 ·intro _ hk; refine A0 3 rfl ?_; refine Of rfl rfl ?_
  exact Aw 3 rfl rfl hk
 refine Oa rfl (Ab ?_)
 first | refine Ej rfl (fun h => hno h.2) ?_ | refine Ei rfl (fun h => hno h.2) ?_ | refine At Ak ?_
 refine Se rfl (Om rfl (Od rfl rfl rfl (Om rfl ?_)))
 apply C0 123 127 rfl
 ·intro g13_3 hk
  try simp only [nb] at g13_3
  refine Ay rfl (.met rfl rfl) rfl ?_; refine A9 rfl (.met rfl rfl) rfl ?_; refine Ci rfl rfl rfl (.met rfl rfl) rfl ?_; refine Ot rfl rfl ?_
  exact Aw 3 rfl rfl hk
 ·intro _ hk; refine A0 3 rfl ?_; refine Of rfl rfl ?_
  exact Aw 3 rfl rfl hk
 refine Oa rfl (Ab ?_)
 first | refine Ej rfl (fun h => absurd h.1 Ac) ?_ | refine Ei rfl (fun h => absurd h.1 Ac) ?_ | refine At Ak ?_
 refine Se rfl (Om rfl (Od rfl rfl rfl (Om rfl ?_)))
 apply C0 135 139 rfl
 ·intro g15_3 hk
  try simp only [nb] at g15_3
  refine Ay rfl (.met rfl rfl) rfl ?_; refine A9 rfl (.met rfl rfl) rfl ?_; refine Ci rfl rfl rfl (.met rfl rfl) rfl ?_; refine Ot rfl rfl ?_
  exact Aw 3 rfl rfl hk
 ·intro _ hk; refine A0 3 rfl ?_; refine Of rfl rfl ?_
  exact Aw 3 rfl rfl hk
 refine Oa rfl (Ab ?_)
 first | refine Ej rfl (fun h => absurd h.1 Ac) ?_ | refine Ei rfl (fun h => absurd h.1 Ac) ?_ | refine At Ak ?_
 refine Se rfl (Om rfl (Od rfl rfl rfl (Om rfl ?_)))
 apply Gk 147 150 rfl
 ·intro g17_3 hk
  try simp only [nb] at g17_3
  refine Ow rfl ?_; refine Ci rfl rfl rfl (.met rfl rfl) rfl ?_; refine Of rfl rfl ?_
  exact Aw 2 rfl rfl hk
 ·intro _ hk; refine A0 2 rfl ?_; refine Ot rfl rfl ?_
  exact Aw 2 rfl rfl hk
 refine Om rfl ?_
 apply Gk 151 154 rfl
 ·intro g17_7 hk
  try simp only [nb] at g17_7
  refine Ow rfl ?_; refine Ci rfl rfl rfl (.met rfl rfl) rfl ?_; refine Of rfl rfl ?_
  exact Aw 2 rfl rfl hk
 ·intro _ hk; refine A0 2 rfl ?_; refine Ot rfl rfl ?_
  exact Aw 2 rfl rfl hk
 refine Om rfl ?_
 apply C0 155 159 rfl
 ·intro g17_11 hk
  try simp only [nb] at g17_11
  refine Ay rfl (.met rfl rfl) rfl ?_; refine A9 rfl (.met rfl rfl) rfl ?_; refine Ci rfl rfl rfl (.met rfl rfl) rfl ?_; refine Ot rfl rfl ?_
  exact Aw 3 rfl rfl hk
 ·intro _ hk; refine A0 3 rfl ?_; refine Of rfl rfl ?_
  exact Aw 3 rfl rfl hk
 refine Om rfl ?_
 apply C0 160 164 rfl
 ·intro g17_16 hk
  try simp only [nb] at g17_16
  refine Ay rfl (.met rfl rfl) rfl ?_; refine A9 rfl (.met rfl rfl) rfl ?_; refine Ci rfl rfl rfl (.met rfl rfl) rfl ?_; refine Ot rfl rfl ?_
  exact Aw 3 rfl rfl hk
 ·intro _ hk; refine A0 3 rfl ?_; refine Of rfl rfl ?_
  exact Aw 3 rfl rfl hk
 refine Oa rfl (Ab ?_)
 first | refine Ej rfl (fun h => absurd h.1.1 Ac) ?_ | refine Ei rfl (fun h => absurd h.1.1 Ac) ?_ | refine At Ak ?_
 refine Aj (Aq (Se rfl (Om rfl ?_))); refine Au rfl .free rfl ?_
 first | refine Oh rfl ?_ | refine Oj rfl ?_
 refine By rfl rfl rfl rfl .free ?_; refine Ab (Se rfl ?_); refine Cp rfl rfl rfl .free rfl ?_; refine By rfl rfl rfl rfl .free ?_; refine Oa rfl (Ab ?_); refine Al (.c rfl (.tmp rfl .nil)) ?_
 exact ⟨I, _, .refl _, Ms (L' := (b, _) :: L), S6, rfl, rfl, rfl⟩
theorem Xe {a d e : Ex} {u : KV} (hno : ¬ u.kd = [110, 117, 109, 98, 101, 114]) {I : Heap} {cs : List Value} (h : Rep I (Ex.ite a d e).tree cs) {gu : List Value} (hu : GVat I u gu) {q : Addr} {c : Nat} (hq : Still I q (gu))  {on ov : Option Addr} {lm cn lv cv : Nat} (b n : Nat) (hn : n ≤ 1000000) (L : Bl) :
  Fun Tryz.prog 100 [.pointer (some ⟨b, 0, none⟩), .agg cs.toArray, .slice (some q) 1 c, .slice on lm cn, .slice ov lv cv] I (H3 b n false :: L) (Rn b ⟨none, n, true⟩ L) := by
 obtain ⟨oa, cc, oaf, cf, rfl, hf⟩ := h.at'
 have hlen : (Ex.ite a d e).tree.parts.length = 4 := rfl
 obtain ⟨xa, rfl⟩ : ∃ xa, oa = some xa := ⟨_, D5 hf.nil (show 0 < 4 by decide)⟩
 have hle : HLe I I := .refl _
 have q0 : Still I (q.add (0 * 7)) gu := Still.left (cv := []) Jf
 obtain ⟨_, _, _, _, _, _, _, _, _, _, _, _, rfl⟩ := hu.openK
 unfold H3
 refine Ao Ad ?_; refine Se rfl ?_; refine Cg rfl rfl .free rfl ?_; intro b6; refine A5 .free rfl ?_; intro b10; refine Oa rfl (Ab (Se rfl (Oh rfl ?_))); refine A9 rfl .free rfl ?_
 first | refine Bh rfl rfl 0 rfl .free rfl ?_ | refine Bi rfl rfl 0 rfl .free rfl ?_
 refine Be rfl .free rfl ?_; refine Gf rfl .free rfl ?_; refine C5 (t := 20) (v' := .string (str [105, 102])) rfl rfl ?_; refine Oa rfl (Ab (Se rfl (Om rfl ?_)))
 first | refine Bh rfl rfl 0 rfl .free rfl ?_ | refine Bi rfl rfl 0 rfl .free rfl ?_
 refine Bs rfl (Bc q0 Ae) .free rfl ?_; refine A5 .free rfl ?_; intro b13; refine By rfl rfl rfl rfl .free ?_; refine Ab (Se rfl (Om rfl (Om rfl (On rfl ?_)))); refine Or rfl rfl rfl ?_; refine C5 (t := 27) (v' := .int .i64 ((0 : Nat))) rfl Ae ?_
 first | refine Bh rfl rfl _ rfl .free rfl ?_ | refine Bi rfl rfl _ rfl .free rfl ?_
 refine Bs rfl (Bc q0 Ae) .free rfl ?_; refine A5 .free rfl ?_; intro b14; refine By rfl rfl rfl rfl .free ?_; refine Ab (Ah (Ar (Se rfl (Om rfl (Od rfl rfl rfl (Oa rfl (Ab ?_)))))))
 first | refine Sf rfl Ac ?_ | refine At Ak ?_
 refine Se rfl (Om rfl (Od rfl rfl rfl (Oa rfl (Ab ?_))))
 first | refine Sf rfl Ac ?_ | refine At Ak ?_
 refine Se rfl (Om rfl (Od rfl rfl rfl (Om rfl ?_)))
 apply C0 62 66 rfl
 ·intro g8_3 hk
  try simp only [nb] at g8_3
  refine Ay rfl (.met rfl rfl) rfl ?_; refine A9 rfl (.met rfl rfl) rfl ?_; refine Ci rfl rfl rfl (.met rfl rfl) rfl ?_; refine Ot rfl rfl ?_
  exact Aw 3 rfl rfl hk
 ·intro _ hk; refine A0 3 rfl ?_; refine Of rfl rfl ?_
  exact Aw 3 rfl rfl hk
 refine Oa rfl (Ab ?_)
 first | refine Ej rfl (fun h => hno h.2) ?_ | refine Ei rfl (fun h => hno h.2) ?_ | refine At Ak ?_
 refine Se rfl (Om rfl (Od rfl rfl rfl (Om rfl ?_)))
 apply C0 87 91 rfl
 ·intro g10_3 hk
  try simp only [nb] at g10_3
  refine Ay rfl (.met rfl rfl) rfl ?_; refine A9 rfl (.met rfl rfl) rfl ?_; refine Ci rfl rfl rfl (.met rfl rfl) rfl ?_; refine Ot rfl rfl ?_
  exact Aw 3 rfl rfl hk
 ·intro _ hk; refine A0 3 rfl ?_; refine Of rfl rfl ?_
  exact Aw 3 rfl rfl hk
 refine Oa rfl (Ab ?_)
 first | refine Ej rfl (fun h => absurd h.1 Ac) ?_ | refine Ei rfl (fun h => absurd h.1 Ac) ?_ | refine At Ak ?_
 refine Se rfl (Om rfl (Od rfl rfl rfl (Om rfl ?_)))
 apply C0 123 127 rfl
 ·intro g13_3 hk
  try simp only [nb] at g13_3
  refine Ay rfl (.met rfl rfl) rfl ?_; refine A9 rfl (.met rfl rfl) rfl ?_; refine Ci rfl rfl rfl (.met rfl rfl) rfl ?_; refine Ot rfl rfl ?_
  exact Aw 3 rfl rfl hk
 ·intro _ hk; refine A0 3 rfl ?_; refine Of rfl rfl ?_
  exact Aw 3 rfl rfl hk
 refine Oa rfl (Ab ?_)
 first | refine Ej rfl (fun h => absurd h.1 Ac) ?_ | refine Ei rfl (fun h => absurd h.1 Ac) ?_ | refine At Ak ?_
 refine Se rfl (Om rfl (Od rfl rfl rfl (Om rfl ?_)))
 apply C0 135 139 rfl
 ·intro g15_3 hk
  try simp only [nb] at g15_3
  refine Ay rfl (.met rfl rfl) rfl ?_; refine A9 rfl (.met rfl rfl) rfl ?_; refine Ci rfl rfl rfl (.met rfl rfl) rfl ?_; refine Ot rfl rfl ?_
  exact Aw 3 rfl rfl hk
 ·intro _ hk; refine A0 3 rfl ?_; refine Of rfl rfl ?_
  exact Aw 3 rfl rfl hk
 refine Oa rfl (Ab ?_)
 first | refine Ej rfl (fun h => absurd h.1 Ac) ?_ | refine Ei rfl (fun h => absurd h.1 Ac) ?_ | refine At Ak ?_
 refine Se rfl (Om rfl (Od rfl rfl rfl (Om rfl ?_)))
 apply Gk 147 150 rfl
 ·intro g17_3 hk
  try simp only [nb] at g17_3
  refine Ow rfl ?_; refine Ci rfl rfl rfl (.met rfl rfl) rfl ?_; refine Of rfl rfl ?_
  exact Aw 2 rfl rfl hk
 ·intro _ hk; refine A0 2 rfl ?_; refine Ot rfl rfl ?_
  exact Aw 2 rfl rfl hk
 refine Om rfl ?_
 apply Gk 151 154 rfl
 ·intro g17_7 hk
  try simp only [nb] at g17_7
  refine Ow rfl ?_; refine Ci rfl rfl rfl (.met rfl rfl) rfl ?_; refine Of rfl rfl ?_
  exact Aw 2 rfl rfl hk
 ·intro _ hk; refine A0 2 rfl ?_; refine Ot rfl rfl ?_
  exact Aw 2 rfl rfl hk
 refine Om rfl ?_
 apply C0 155 159 rfl
 ·intro g17_11 hk
  try simp only [nb] at g17_11
  refine Ay rfl (.met rfl rfl) rfl ?_; refine A9 rfl (.met rfl rfl) rfl ?_; refine Ci rfl rfl rfl (.met rfl rfl) rfl ?_; refine Ot rfl rfl ?_
  exact Aw 3 rfl rfl hk
 ·intro _ hk; refine A0 3 rfl ?_; refine Of rfl rfl ?_
  exact Aw 3 rfl rfl hk
 refine Om rfl ?_
 apply C0 160 164 rfl
 ·intro g17_16 hk
  try simp only [nb] at g17_16
  refine Ay rfl (.met rfl rfl) rfl ?_; refine A9 rfl (.met rfl rfl) rfl ?_; refine Ci rfl rfl rfl (.met rfl rfl) rfl ?_; refine Ot rfl rfl ?_
  exact Aw 3 rfl rfl hk
 ·intro _ hk; refine A0 3 rfl ?_; refine Of rfl rfl ?_
  exact Aw 3 rfl rfl hk
 refine Oa rfl (Ab ?_)
 first | refine Ej rfl (fun h => absurd h.1.1 Ac) ?_ | refine Ei rfl (fun h => absurd h.1.1 Ac) ?_ | refine At Ak ?_
 refine Aj (Aq (Se rfl (Om rfl ?_))); refine Au rfl .free rfl ?_
 first | refine Oh rfl ?_ | refine Oj rfl ?_
 refine By rfl rfl rfl rfl .free ?_; refine Ab (Se rfl ?_); refine Cp rfl rfl rfl .free rfl ?_; refine By rfl rfl rfl rfl .free ?_; refine Oa rfl (Ab ?_); refine Al (.c rfl (.tmp rfl .nil)) ?_
 exact ⟨I, _, .refl _, Ms (L' := (b, _) :: L), S6, rfl, rfl, rfl⟩
theorem Zh {o : U2} {a : Ex} {u : KV} (hno : ¬ u.kd = [112, 97, 105, 114]) {I : Heap} {cs : List Value} (h : Rep I (Ex.un o a).tree cs) {gu : List Value} (hu : GVat I u gu) {q : Addr} {c : Nat} (hq : Still I q (gu))  {on ov : Option Addr} {lm cn lv cv : Nat} (b n : Nat) (hn : n ≤ 1000000) (L : Bl) :
  Fun Tryz.prog 100 [.pointer (some ⟨b, 0, none⟩), .agg cs.toArray, .slice (some q) 1 c, .slice on lm cn, .slice ov lv cv] I (H3 b n false :: L) (Rn b ⟨none, n, true⟩ L) := by
 obtain ⟨oa, cc, oaf, cf, rfl, hf⟩ := h.at'
 have hlen : (Ex.un o a).tree.parts.length = 2 := rfl
 obtain ⟨xa, rfl⟩ : ∃ xa, oa = some xa := ⟨_, D5 hf.nil (show 0 < 2 by decide)⟩
 have hle : HLe I I := .refl _
 have q0 : Still I (q.add (0 * 7)) gu := Still.left (cv := []) Jf
 obtain ⟨_, _, _, _, _, _, _, _, _, _, _, _, rfl⟩ := hu.openK
 have h1 : ¬ o.txt = [112, 97, 105, 114] := fun h => Nc .pair o h.symm
 have h2 : ¬ o.txt = [108, 101, 116] := o.txt_ne.2.1
 have h3 : ¬ o.txt = [105, 102] := o.txt_ne.1
 have h4 : ¬ o.txt = [99, 97, 108, 108] := fun h => Nc .call o h.symm
 have hor : ¬ ((o.txt = [43] ∨ o.txt = [45]) ∨ o.txt = [42]) := by cases o <;> decide
 unfold H3
 refine Ao Ad ?_; refine Se rfl ?_; refine Cg rfl rfl .free rfl ?_; intro b6; refine A5 .free rfl ?_; intro b10; refine Oa rfl (Ab (Se rfl (Oh rfl ?_))); refine A9 rfl .free rfl ?_
 first | refine Bh rfl rfl 0 rfl .free rfl ?_ | refine Bi rfl rfl 0 rfl .free rfl ?_
 refine Be rfl .free rfl ?_; refine Gf rfl .free rfl ?_; refine C5 (t := 20) (v' := .string (str o.txt)) rfl rfl ?_; refine Oa rfl (Ab (Se rfl (Om rfl ?_)))
 first | refine Bh rfl rfl 0 rfl .free rfl ?_ | refine Bi rfl rfl 0 rfl .free rfl ?_
 refine Bs rfl (Bc q0 Ae) .free rfl ?_; refine A5 .free rfl ?_; intro b13; refine By rfl rfl rfl rfl .free ?_; refine Ab (Se rfl (Om rfl (Om rfl (On rfl ?_)))); refine Or rfl rfl rfl ?_; refine C5 (t := 27) (v' := .int .i64 ((0 : Nat))) rfl Ae ?_
 first | refine Bh rfl rfl _ rfl .free rfl ?_ | refine Bi rfl rfl _ rfl .free rfl ?_
 refine Bs rfl (Bc q0 Ae) .free rfl ?_; refine A5 .free rfl ?_; intro b14; refine By rfl rfl rfl rfl .free ?_; refine Ab (Ah (Ar (Se rfl (Om rfl (Od rfl rfl rfl (Oa rfl (Ab ?_)))))))
 first | refine Ej rfl (h1) ?_ | refine Ei rfl (h1) ?_ | refine At Ak ?_
 refine Se rfl (Om rfl (Od rfl rfl rfl (Oa rfl (Ab ?_))))
 first | refine Ej rfl (h2) ?_ | refine Ei rfl (h2) ?_ | refine At Ak ?_
 refine Se rfl (Om rfl (Od rfl rfl rfl (Om rfl ?_)))
 apply C0 62 66 rfl
 ·intro g8_3 hk
  try simp only [nb] at g8_3
  refine Ay rfl (.met rfl rfl) rfl ?_; refine A9 rfl (.met rfl rfl) rfl ?_; refine Ci rfl rfl rfl (.met rfl rfl) rfl ?_; refine Ot rfl rfl ?_
  exact Aw 3 rfl rfl hk
 ·intro _ hk; refine A0 3 rfl ?_; refine Of rfl rfl ?_
  exact Aw 3 rfl rfl hk
 refine Oa rfl (Ab ?_)
 first | refine Ej rfl (fun h => h3 h.1) ?_ | refine Ei rfl (fun h => h3 h.1) ?_ | refine At Ak ?_
 refine Se rfl (Om rfl (Od rfl rfl rfl (Om rfl ?_)))
 apply C0 87 91 rfl
 ·intro g10_3 hk
  try simp only [nb] at g10_3
  refine Ay rfl (.met rfl rfl) rfl ?_; refine A9 rfl (.met rfl rfl) rfl ?_; refine Ci rfl rfl rfl (.met rfl rfl) rfl ?_; refine Ot rfl rfl ?_
  exact Aw 3 rfl rfl hk
 ·intro _ hk; refine A0 3 rfl ?_; refine Of rfl rfl ?_
  exact Aw 3 rfl rfl hk
 refine Oa rfl (Ab ?_)
 first | refine Ej rfl (fun h => h4 h.1) ?_ | refine Ei rfl (fun h => h4 h.1) ?_ | refine At Ak ?_
 refine Se rfl (Om rfl (Od rfl rfl rfl (Om rfl ?_)))
 apply C0 123 127 rfl
 ·intro g13_3 hk
  try simp only [nb] at g13_3
  refine Ay rfl (.met rfl rfl) rfl ?_; refine A9 rfl (.met rfl rfl) rfl ?_; refine Ci rfl rfl rfl (.met rfl rfl) rfl ?_; refine Ot rfl rfl ?_
  exact Aw 3 rfl rfl hk
 ·intro _ hk; refine A0 3 rfl ?_; refine Of rfl rfl ?_
  exact Aw 3 rfl rfl hk
 refine Oa rfl (Ab ?_)
 first | refine Ej rfl (fun h => hno h.2) ?_ | refine Ei rfl (fun h => hno h.2) ?_ | refine At Ak ?_
 refine Se rfl (Om rfl (Od rfl rfl rfl (Om rfl ?_)))
 apply C0 135 139 rfl
 ·intro g15_3 hk
  try simp only [nb] at g15_3
  refine Ay rfl (.met rfl rfl) rfl ?_; refine A9 rfl (.met rfl rfl) rfl ?_; refine Ci rfl rfl rfl (.met rfl rfl) rfl ?_; refine Ot rfl rfl ?_
  exact Aw 3 rfl rfl hk
 ·intro _ hk; refine A0 3 rfl ?_; refine Of rfl rfl ?_
  exact Aw 3 rfl rfl hk
 refine Oa rfl (Ab ?_)
 first | refine Ej rfl (fun h => hno h.2) ?_ | refine Ei rfl (fun h => hno h.2) ?_ | refine At Ak ?_
 refine Se rfl (Om rfl (Od rfl rfl rfl (Om rfl ?_)))
 apply Gk 147 150 rfl
 ·intro g17_3 hk
  try simp only [nb] at g17_3
  refine Ow rfl ?_; refine Ci rfl rfl rfl (.met rfl rfl) rfl ?_; refine Of rfl rfl ?_
  exact Aw 2 rfl rfl hk
 ·intro _ hk; refine A0 2 rfl ?_; refine Ot rfl rfl ?_
  exact Aw 2 rfl rfl hk
 refine Om rfl ?_
 apply Gk 151 154 rfl
 ·intro g17_7 hk
  try simp only [nb] at g17_7
  refine Ow rfl ?_; refine Ci rfl rfl rfl (.met rfl rfl) rfl ?_; refine Of rfl rfl ?_
  exact Aw 2 rfl rfl hk
 ·intro _ hk; refine A0 2 rfl ?_; refine Ot rfl rfl ?_
  exact Aw 2 rfl rfl hk
 refine Om rfl ?_
 apply C0 155 159 rfl
 ·intro g17_11 hk
  try simp only [nb] at g17_11
  refine Ay rfl (.met rfl rfl) rfl ?_; refine A9 rfl (.met rfl rfl) rfl ?_; refine Ci rfl rfl rfl (.met rfl rfl) rfl ?_; refine Ot rfl rfl ?_
  exact Aw 3 rfl rfl hk
 ·intro _ hk; refine A0 3 rfl ?_; refine Of rfl rfl ?_
  exact Aw 3 rfl rfl hk
 refine Om rfl ?_
 apply C0 160 164 rfl
 ·intro g17_16 hk
  try simp only [nb] at g17_16
  refine Ay rfl (.met rfl rfl) rfl ?_; refine A9 rfl (.met rfl rfl) rfl ?_; refine Ci rfl rfl rfl (.met rfl rfl) rfl ?_; refine Ot rfl rfl ?_
  exact Aw 3 rfl rfl hk
 ·intro _ hk; refine A0 3 rfl ?_; refine Of rfl rfl ?_
  exact Aw 3 rfl rfl hk
 refine Oa rfl (Ab ?_)
 first | refine Ej rfl (fun h => hor h.1.1) ?_ | refine Ei rfl (fun h => hor h.1.1) ?_ | refine At Ak ?_
 refine Aj (Aq (Se rfl (Om rfl ?_))); refine Au rfl .free rfl ?_
 first | refine Oh rfl ?_ | refine Oj rfl ?_
 refine By rfl rfl rfl rfl .free ?_; refine Ab (Se rfl ?_); refine Cp rfl rfl rfl .free rfl ?_; refine By rfl rfl rfl rfl .free ?_; refine Oa rfl (Ab ?_); refine Al (.c rfl (.tmp rfl .nil)) ?_
 exact ⟨I, _, .refl _, Ms (L' := (b, _) :: L), S6, rfl, rfl, rfl⟩
theorem Acp {a : Ex} {k1 k2 : KV} {I : Heap} {cs : List Value} (h : Rep I (Ex.un .fst a).tree cs) {gu : List Value} (hu : GVat I (KV.pair k1 k2) gu) {q : Addr} {c : Nat} (hq : Still I q (gu))  {on ov : Option Addr} {lm cn lv cv : Nat} (b n : Nat) (hn : n ≤ 1000000) (L : Bl) :
  Fun Tryz.prog 100 [.pointer (some ⟨b, 0, none⟩), .agg cs.toArray, .slice (some q) 1 c, .slice on lm cn, .slice ov lv cv] I (H3 b n false :: L) (Rn b ⟨some k1, n, false⟩ L) := by
 obtain ⟨oa, cc, oaf, cf, rfl, hf⟩ := h.at'
 have hlen : (Ex.un .fst a).tree.parts.length = 2 := rfl
 obtain ⟨xa, rfl⟩ : ∃ xa, oa = some xa := ⟨_, D5 hf.nil (show 0 < 2 by decide)⟩
 have hle : HLe I I := .refl _
 have q0 : Still I (q.add (0 * 7)) gu := Still.left (cv := []) Jf
 rcases hu with _ | @⟨_, _, q2, c2, cx, cy, hq2, hc2, hx, hy⟩ | _
 have p0 := hq2.left
 have p1 := hq2.right 1 hx.len
 obtain ⟨_, _, _, _, _, _, _, _, _, _, _, _, _, _, rfl⟩ := hx.open; obtain ⟨_, _, _, _, _, _, _, _, _, _, _, _, _, _, rfl⟩ := hy.open
 unfold H3
 refine Ao Ad ?_; refine Se rfl ?_; refine Cg rfl rfl .free rfl ?_; intro b6; refine A5 .free rfl ?_; intro b10; refine Oa rfl (Ab (Se rfl (Oh rfl ?_))); refine A9 rfl .free rfl ?_
 first | refine Bh rfl rfl 0 rfl .free rfl ?_ | refine Bi rfl rfl 0 rfl .free rfl ?_
 refine Be rfl .free rfl ?_; refine Gf rfl .free rfl ?_; refine C5 (t := 20) (v' := .string (str [102, 115, 116])) rfl rfl ?_; refine Oa rfl (Ab (Se rfl (Om rfl ?_)))
 first | refine Bh rfl rfl 0 rfl .free rfl ?_ | refine Bi rfl rfl 0 rfl .free rfl ?_
 refine Bs rfl (Bc q0 Ae) .free rfl ?_; refine A5 .free rfl ?_; intro b13; refine By rfl rfl rfl rfl .free ?_; refine Ab (Se rfl (Om rfl (Om rfl (On rfl ?_)))); refine Or rfl rfl rfl ?_; refine C5 (t := 27) (v' := .int .i64 ((0 : Nat))) rfl Ae ?_
 first | refine Bh rfl rfl _ rfl .free rfl ?_ | refine Bi rfl rfl _ rfl .free rfl ?_
 refine Bs rfl (Bc q0 Ae) .free rfl ?_; refine A5 .free rfl ?_; intro b14; refine By rfl rfl rfl rfl .free ?_; refine Ab (Ah (Ar (Se rfl (Om rfl (Od rfl rfl rfl (Oa rfl (Ab ?_)))))))
 first | refine Sf rfl Ac ?_ | refine At Ak ?_
 refine Se rfl (Om rfl (Od rfl rfl rfl (Oa rfl (Ab ?_))))
 first | refine Sf rfl Ac ?_ | refine At Ak ?_
 refine Se rfl (Om rfl (Od rfl rfl rfl (Om rfl ?_)))
 apply C0 62 66 rfl
 ·intro g8_3 hk
  try simp only [nb] at g8_3
  refine Ay rfl (.met rfl rfl) rfl ?_; refine A9 rfl (.met rfl rfl) rfl ?_; refine Ci rfl rfl rfl (.met rfl rfl) rfl ?_; refine Ot rfl rfl ?_
  exact Aw 3 rfl rfl hk
 ·intro _ hk; refine A0 3 rfl ?_; refine Of rfl rfl ?_
  exact Aw 3 rfl rfl hk
 refine Oa rfl (Ab ?_)
 first | refine Ej rfl (fun h => absurd h.1 Ac) ?_ | refine Ei rfl (fun h => absurd h.1 Ac) ?_ | refine At Ak ?_
 refine Se rfl (Om rfl (Od rfl rfl rfl (Om rfl ?_)))
 apply C0 87 91 rfl
 ·intro g10_3 hk
  try simp only [nb] at g10_3
  refine Ay rfl (.met rfl rfl) rfl ?_; refine A9 rfl (.met rfl rfl) rfl ?_; refine Ci rfl rfl rfl (.met rfl rfl) rfl ?_; refine Ot rfl rfl ?_
  exact Aw 3 rfl rfl hk
 ·intro _ hk; refine A0 3 rfl ?_; refine Of rfl rfl ?_
  exact Aw 3 rfl rfl hk
 refine Oa rfl (Ab ?_)
 first | refine Ej rfl (fun h => absurd h.1 Ac) ?_ | refine Ei rfl (fun h => absurd h.1 Ac) ?_ | refine At Ak ?_
 refine Se rfl (Om rfl (Od rfl rfl rfl (Om rfl ?_)))
 apply C0 123 127 rfl
 ·intro g13_3 hk
  try simp only [nb] at g13_3
  refine Ay rfl (.met rfl rfl) rfl ?_; refine A9 rfl (.met rfl rfl) rfl ?_; refine Ci rfl rfl rfl (.met rfl rfl) rfl ?_; refine Ot rfl rfl ?_
  exact Aw 3 rfl rfl hk
 ·intro _ hk; refine A0 3 rfl ?_; refine Of rfl rfl ?_
  exact Aw 3 rfl rfl hk
 refine Oa rfl (Ab ?_)
 first | refine L4 rfl (⟨rfl, rfl⟩) ?_ | refine L3 rfl (⟨rfl, rfl⟩) ?_ | refine Br Ak ?_
 refine Se rfl (Oh rfl ?_); refine A9 rfl .free rfl ?_
 first | refine Bh rfl rfl 0 rfl .free rfl ?_ | refine Bi rfl rfl 0 rfl .free rfl ?_
 refine Bs rfl (Bc p0 Ae) .free rfl ?_; refine By rfl rfl rfl rfl .free ?_; refine Oa rfl (Ab ?_); refine Al (.c rfl (.tmp rfl .nil)) ?_
 exact ⟨I, _, .refl _, Ms (L' := (b, _) :: L), _, rfl, hx, rfl⟩
theorem Acs {a : Ex} {k1 k2 : KV} {I : Heap} {cs : List Value} (h : Rep I (Ex.un .snd a).tree cs) {gu : List Value} (hu : GVat I (KV.pair k1 k2) gu) {q : Addr} {c : Nat} (hq : Still I q (gu))  {on ov : Option Addr} {lm cn lv cv : Nat} (b n : Nat) (hn : n ≤ 1000000) (L : Bl) :
  Fun Tryz.prog 100 [.pointer (some ⟨b, 0, none⟩), .agg cs.toArray, .slice (some q) 1 c, .slice on lm cn, .slice ov lv cv] I (H3 b n false :: L) (Rn b ⟨some k2, n, false⟩ L) := by
 obtain ⟨oa, cc, oaf, cf, rfl, hf⟩ := h.at'
 have hlen : (Ex.un .snd a).tree.parts.length = 2 := rfl
 obtain ⟨xa, rfl⟩ : ∃ xa, oa = some xa := ⟨_, D5 hf.nil (show 0 < 2 by decide)⟩
 have hle : HLe I I := .refl _
 have q0 : Still I (q.add (0 * 7)) gu := Still.left (cv := []) Jf
 rcases hu with _ | @⟨_, _, q2, c2, cx, cy, hq2, hc2, hx, hy⟩ | _
 have p0 := hq2.left
 have p1 := hq2.right 1 hx.len
 obtain ⟨_, _, _, _, _, _, _, _, _, _, _, _, _, _, rfl⟩ := hx.open; obtain ⟨_, _, _, _, _, _, _, _, _, _, _, _, _, _, rfl⟩ := hy.open
 unfold H3
 refine Ao Ad ?_; refine Se rfl ?_; refine Cg rfl rfl .free rfl ?_; intro b6; refine A5 .free rfl ?_; intro b10; refine Oa rfl (Ab (Se rfl (Oh rfl ?_))); refine A9 rfl .free rfl ?_
 first | refine Bh rfl rfl 0 rfl .free rfl ?_ | refine Bi rfl rfl 0 rfl .free rfl ?_
 refine Be rfl .free rfl ?_; refine Gf rfl .free rfl ?_; refine C5 (t := 20) (v' := .string (str [115, 110, 100])) rfl rfl ?_; refine Oa rfl (Ab (Se rfl (Om rfl ?_)))
 first | refine Bh rfl rfl 0 rfl .free rfl ?_ | refine Bi rfl rfl 0 rfl .free rfl ?_
 refine Bs rfl (Bc q0 Ae) .free rfl ?_; refine A5 .free rfl ?_; intro b13; refine By rfl rfl rfl rfl .free ?_; refine Ab (Se rfl (Om rfl (Om rfl (On rfl ?_)))); refine Or rfl rfl rfl ?_; refine C5 (t := 27) (v' := .int .i64 ((0 : Nat))) rfl Ae ?_
 first | refine Bh rfl rfl _ rfl .free rfl ?_ | refine Bi rfl rfl _ rfl .free rfl ?_
 refine Bs rfl (Bc q0 Ae) .free rfl ?_; refine A5 .free rfl ?_; intro b14; refine By rfl rfl rfl rfl .free ?_; refine Ab (Ah (Ar (Se rfl (Om rfl (Od rfl rfl rfl (Oa rfl (Ab ?_)))))))
 first | refine Sf rfl Ac ?_ | refine At Ak ?_
 refine Se rfl (Om rfl (Od rfl rfl rfl (Oa rfl (Ab ?_))))
 first | refine Sf rfl Ac ?_ | refine At Ak ?_
 refine Se rfl (Om rfl (Od rfl rfl rfl (Om rfl ?_)))
 apply C0 62 66 rfl
 ·intro g8_3 hk
  try simp only [nb] at g8_3
  refine Ay rfl (.met rfl rfl) rfl ?_; refine A9 rfl (.met rfl rfl) rfl ?_; refine Ci rfl rfl rfl (.met rfl rfl) rfl ?_; refine Ot rfl rfl ?_
  exact Aw 3 rfl rfl hk
 ·intro _ hk; refine A0 3 rfl ?_; refine Of rfl rfl ?_
  exact Aw 3 rfl rfl hk
 refine Oa rfl (Ab ?_)
 first | refine Ej rfl (fun h => absurd h.1 Ac) ?_ | refine Ei rfl (fun h => absurd h.1 Ac) ?_ | refine At Ak ?_
 refine Se rfl (Om rfl (Od rfl rfl rfl (Om rfl ?_)))
 apply C0 87 91 rfl
 ·intro g10_3 hk
  try simp only [nb] at g10_3
  refine Ay rfl (.met rfl rfl) rfl ?_; refine A9 rfl (.met rfl rfl) rfl ?_; refine Ci rfl rfl rfl (.met rfl rfl) rfl ?_; refine Ot rfl rfl ?_
  exact Aw 3 rfl rfl hk
 ·intro _ hk; refine A0 3 rfl ?_; refine Of rfl rfl ?_
  exact Aw 3 rfl rfl hk
 refine Oa rfl (Ab ?_)
 first | refine Ej rfl (fun h => absurd h.1 Ac) ?_ | refine Ei rfl (fun h => absurd h.1 Ac) ?_ | refine At Ak ?_
 refine Se rfl (Om rfl (Od rfl rfl rfl (Om rfl ?_)))
 apply C0 123 127 rfl
 ·intro g13_3 hk
  try simp only [nb] at g13_3
  refine Ay rfl (.met rfl rfl) rfl ?_; refine A9 rfl (.met rfl rfl) rfl ?_; refine Ci rfl rfl rfl (.met rfl rfl) rfl ?_; refine Ot rfl rfl ?_
  exact Aw 3 rfl rfl hk
 ·intro _ hk; refine A0 3 rfl ?_; refine Of rfl rfl ?_
  exact Aw 3 rfl rfl hk
 refine Oa rfl (Ab ?_)
 first | refine Ej rfl (fun h => absurd h.1 Ac) ?_ | refine Ei rfl (fun h => absurd h.1 Ac) ?_ | refine At Ak ?_
 refine Se rfl (Om rfl (Od rfl rfl rfl (Om rfl ?_)))
 apply C0 135 139 rfl
 ·intro g15_3 hk
  try simp only [nb] at g15_3
  refine Ay rfl (.met rfl rfl) rfl ?_; refine A9 rfl (.met rfl rfl) rfl ?_; refine Ci rfl rfl rfl (.met rfl rfl) rfl ?_; refine Ot rfl rfl ?_
  exact Aw 3 rfl rfl hk
 ·intro _ hk; refine A0 3 rfl ?_; refine Of rfl rfl ?_
  exact Aw 3 rfl rfl hk
 refine Oa rfl (Ab ?_)
 first | refine L4 rfl (⟨rfl, rfl⟩) ?_ | refine L3 rfl (⟨rfl, rfl⟩) ?_ | refine Br Ak ?_
 refine Se rfl (Oh rfl ?_); refine A9 rfl .free rfl ?_
 first | refine Bh rfl rfl 1 rfl .free rfl ?_ | refine Bi rfl rfl 1 rfl .free rfl ?_
 refine Bs rfl (Bc p1 Ae) .free rfl ?_; refine By rfl rfl rfl rfl .free ?_; refine Oa rfl (Ab ?_); refine Al (.c rfl (.tmp rfl .nil)) ?_
 exact ⟨I, _, .refl _, Ms (L' := (b, _) :: L), _, rfl, hy, rfl⟩
theorem Acq {a d e : Ex} {s : As} (hs : Bz s = true) (hok : (Ex.ite a d e).ok = true) {I : Heap} {cs : List Value} (h : Rep I (Ex.ite a d e).tree cs) {gu : List Value} (hu : GVat I (KV.num s) gu) {q : Addr} {c : Nat} (hq : Still I q (gu))  {N : Nat} (ihn : EvG N) {k : KE} {on ov : Option Addr} {cn cv : Nat} (hk : GEat I k on cn ov cv) (hkw : k.wf) (b n : Nat) (hn : n ≤ 1000000) (hN : n < N) (htl : k.tall + 2 * n ≤ 100000) (hdm : ∀ y ∈ (if s = [48] then d else e).occ [], y ∈ k.dom) (L : Bl) :
  Fun Tryz.prog 100 [.pointer (some ⟨b, 0, none⟩), .agg cs.toArray, .slice (some q) 1 c, .slice on k.names.length cn, .slice ov k.names.length cv] I (H3 b n false :: L) (Rn b (eval n (if s = [48] then d else e) k) L) := by
 obtain ⟨oa, cc, oaf, cf, rfl, hf⟩ := h.at'
 have hlen : (Ex.ite a d e).tree.parts.length = 4 := rfl
 obtain ⟨xa, rfl⟩ : ∃ xa, oa = some xa := ⟨_, D5 hf.nil (show 0 < 4 by decide)⟩
 have hle : HLe I I := .refl _
 have q0 : Still I (q.add (0 * 7)) gu := Still.left (cv := []) Jf
 cases hu
 simp only [Ex.ok, Bool.and_eq_true] at hok
 have hoE : (if s = [48] then d else e).ok = true := by split; exact hok.1.2; exact hok.2
 have hE : (if Do s = 0 then d.tree else e.tree) = (if s = [48] then d else e).tree := by
  by_cases h0 : s = [48]
  ·rw [if_pos ((Kd hs).2 h0), if_pos h0]
  ·rw [if_neg (fun h => h0 ((Kd hs).1 h)), if_neg h0]
 unfold H3
 refine Ao Ad ?_; refine Se rfl ?_; refine Cg rfl rfl .free rfl ?_; intro b6; refine A5 .free rfl ?_; intro b10; refine Oa rfl (Ab (Se rfl (Oh rfl ?_))); refine A9 rfl .free rfl ?_
 first | refine Bh rfl rfl 0 rfl .free rfl ?_ | refine Bi rfl rfl 0 rfl .free rfl ?_
 refine Be rfl .free rfl ?_; refine Gf rfl .free rfl ?_; refine C5 (t := 20) (v' := .string (str [105, 102])) rfl rfl ?_; refine Oa rfl (Ab (Se rfl (Om rfl ?_)))
 first | refine Bh rfl rfl 0 rfl .free rfl ?_ | refine Bi rfl rfl 0 rfl .free rfl ?_
 refine Bs rfl (Bc q0 Ae) .free rfl ?_; refine A5 .free rfl ?_; intro b13; refine By rfl rfl rfl rfl .free ?_; refine Ab (Se rfl (Om rfl (Om rfl (On rfl ?_)))); refine Or rfl rfl rfl ?_; refine C5 (t := 27) (v' := .int .i64 ((0 : Nat))) rfl Ae ?_
 first | refine Bh rfl rfl _ rfl .free rfl ?_ | refine Bi rfl rfl _ rfl .free rfl ?_
 refine Bs rfl (Bc q0 Ae) .free rfl ?_; refine A5 .free rfl ?_; intro b14; refine By rfl rfl rfl rfl .free ?_; refine Ab (Ah (Ar (Se rfl (Om rfl (Od rfl rfl rfl (Oa rfl (Ab ?_)))))))
 first | refine Sf rfl Ac ?_ | refine At Ak ?_
 refine Se rfl (Om rfl (Od rfl rfl rfl (Oa rfl (Ab ?_))))
 first | refine Sf rfl Ac ?_ | refine At Ak ?_
 refine Se rfl (Om rfl (Od rfl rfl rfl (Om rfl ?_)))
 apply C0 62 66 rfl
 ·intro g8_3 hk
  try simp only [nb] at g8_3
  refine Ay rfl (.met rfl rfl) rfl ?_; refine A9 rfl (.met rfl rfl) rfl ?_; refine Ci rfl rfl rfl (.met rfl rfl) rfl ?_; refine Ot rfl rfl ?_
  exact Aw 3 rfl rfl hk
 ·intro _ hk; refine A0 3 rfl ?_; refine Of rfl rfl ?_
  exact Aw 3 rfl rfl hk
 refine Oa rfl (Ab ?_)
 first | refine L4 rfl (⟨rfl, rfl⟩) ?_ | refine L3 rfl (⟨rfl, rfl⟩) ?_ | refine Br Ak ?_
 refine Ah ?_; refine Cq (fun w h => h.f4) ?_; refine H5 19 rfl rfl ?_; refine Da 0 rfl (Ai rfl) ?_; refine Da 1 rfl (Ap rfl) ?_; refine Dt 2 [17] rfl (Bx rfl) ?_; refine Da 3 rfl (Ap rfl) ?_; refine Dt 4 [17] rfl (Bx rfl) ?_
 first | refine Da 5 rfl (Bp rfl rfl 2 rfl) ?_ | refine Da 5 rfl (Bq rfl rfl 2 rfl) ?_
 refine Dt 6 [17] rfl (Dz rfl) ?_; refine Da 7 rfl (Ap rfl) ?_; refine Dt 8 [17] rfl (Bx rfl) ?_
 first | refine Da 9 rfl (Bp rfl rfl 3 rfl) ?_ | refine Da 9 rfl (Bq rfl rfl 3 rfl) ?_
 refine Dt 10 [17] rfl (Dz rfl) ?_; refine Da 12 rfl (Ai rfl) ?_; refine Da 13 rfl (Ai rfl) ?_; refine Dc 11 rfl rfl (Aa5 (Do s) (hf.as 2 d.tree Aa rfl) (hf.as 3 e.tree Aa rfl) _) ?_; rintro _ J2 _ e2 ⟨cs2, rfl, hr2, rfl⟩; rw [hE] at hr2; obtain ⟨_, _, _, rfl, -⟩ := hr2.open
 have hk := hk.mono e2
 refine Hx ?_; refine Dc 14 rfl rfl (ihn n hN hr2 hoE hk hkw hdm htl b _) ?_; rintro _ J4 _ e4 ⟨cs5, rfl, hg5, rfl⟩
 have hle := e2.trans e4
 obtain ⟨_, _, _, _, _, _, _, _, _, _, _, _, _, _, rfl⟩ := hg5.open
 unfold H3
 refine Hx ?_; refine Da 15 rfl (Cj rfl rfl) ?_; refine Da 16 rfl (Cj rfl rfl) ?_; refine Dx 17 rfl rfl rfl rfl ?_; refine Db 18 rfl (A2 rfl) ?_; refine Bg Af ?_; refine Al (.c rfl (.tmp rfl .nil)) ?_
 exact ⟨J4, _, hle, Ms (L' := (b, _) :: L), _, rfl, hg5, rfl⟩
theorem Aa9 {a d : Ex} {fn x : As} {s t : Ty} {bd : Ex} {r : KE} {v : KV} (wu : (KV.clo fn x s t bd r).wf) (wv : v.wf) {I : Heap} {cs : List Value} (h : Rep I (Ex.bin .call a d).tree cs) {gu : List Value} (hu : GVat I (KV.clo fn x s t bd r) gu) {gv : List Value} (hv : GVat I v gv) {q : Addr} {c : Nat} (hq : Still I q (gu ++ gv)) (hc : 2 ≤ c)  {N : Nat} (ihn : EvG N) {k : KE} {on ov : Option Addr} {cn cv : Nat} (b n : Nat) (hn : n ≤ 1000000) (hN : n < N) (htl : k.tall + 2 * n ≤ 100000) (htr : r.tall ≤ 100000) (hdm : ∀ y ∈ bd.occ [], y ∈ (KE.cons x v (.cons fn (.clo fn x s t bd r) r)).dom) (htl2 : (KE.cons x v (.cons fn (.clo fn x s t bd r) r)).tall + 2 * n ≤ 100000) (L : Bl) :
  Fun Tryz.prog 100 [.pointer (some ⟨b, 0, none⟩), .agg cs.toArray, .slice (some q) 2 c, .slice on k.names.length cn, .slice ov k.names.length cv] I (H3 b n false :: L) (Rn b (eval n bd (.cons x v (.cons fn (.clo fn x s t bd r) r))) L) := by
 obtain ⟨oa, cc, oaf, cf, rfl, hf⟩ := h.at'
 have hlen : (Ex.bin .call a d).tree.parts.length = 3 := rfl
 obtain ⟨xa, rfl⟩ : ∃ xa, oa = some xa := ⟨_, D5 hf.nil (show 0 < 3 by decide)⟩
 have hle : HLe I I := .refl _
 have q0 : Still I (q.add (0 * 7)) gu := hq.left
 have q1 : Still I (q.add (1 * 7)) gv := hq.right 1 hu.len
 have hu2 := hu
 have hv2 := hv
 obtain ⟨_, _, _, _, _, _, _, _, _, _, _, _, rfl⟩ := hv.openK
 rcases hu with _ | _ | @⟨_, _, _, _, _, _, o6, c6, on6, ov6, cn6, cv6, hr, he⟩
 have hnt := Lf r
 obtain ⟨hnm, hvs, hst, h0, hcv⟩ := he; obtain ⟨oa3, c3', oaf3, cf3, he3, hf3⟩ := hr.at'
 simp only [List.cons.injEq, Value.slice.injEq, and_true, true_and] at he3
 obtain ⟨-, rfl, -, rfl⟩ := he3
 have hlen3 : (Ex.fn fn x s t bd).tree.parts.length = 6 := rfl
 obtain ⟨hrw, hfok, hfd⟩ := id wu
 simp only [Ex.ok, Bool.and_eq_true, decide_eq_true_eq] at hfok
 obtain ⟨⟨⟨⟨⟨nf, nx⟩, hfx⟩, _⟩, _⟩, hcok⟩ := hfok
 have hfl : fn.length ≤ Bd := by have := Fs nf; unfold Bd; omega
 have hxl : x.length ≤ Bd := by have := Fs nx; unfold Bd; omega
 have hnn : r.names ++ [fn, x] = (KE.cons x v (.cons fn (.clo fn x s t bd r) r)).names := by simp [KE.names]
 unfold H3
 refine Ao Ad ?_; refine Se rfl ?_; refine Cg rfl rfl .free rfl ?_; intro b6; refine A5 .free rfl ?_; intro b10; refine Oa rfl (Ab (Se rfl (Oh rfl ?_))); refine A9 rfl .free rfl ?_
 first | refine Bh rfl rfl 0 rfl .free rfl ?_ | refine Bi rfl rfl 0 rfl .free rfl ?_
 refine Be rfl .free rfl ?_; refine Gf rfl .free rfl ?_; refine C5 (t := 20) (v' := .string (str [99, 97, 108, 108])) rfl rfl ?_; refine Oa rfl (Ab (Se rfl (Om rfl ?_)))
 first | refine Bh rfl rfl 0 rfl .free rfl ?_ | refine Bi rfl rfl 0 rfl .free rfl ?_
 refine Bs rfl (Bc q0 Ae) .free rfl ?_; refine A5 .free rfl ?_; intro b13; refine By rfl rfl rfl rfl .free ?_; refine Ab (Se rfl (Om rfl (Om rfl (On rfl ?_)))); refine Or rfl rfl rfl ?_; refine C5 (t := 27) (v' := .int .i64 ((1 : Nat))) rfl Ae ?_
 first | refine Bh rfl rfl _ rfl .free rfl ?_ | refine Bi rfl rfl _ rfl .free rfl ?_
 refine Bs rfl (Bc q1 Ae) .free rfl ?_; refine A5 .free rfl ?_; intro b14; refine By rfl rfl rfl rfl .free ?_; refine Ab (Ah (Ar (Se rfl (Om rfl (Od rfl rfl rfl (Oa rfl (Ab ?_)))))))
 first | refine Sf rfl Ac ?_ | refine At Ak ?_
 refine Se rfl (Om rfl (Od rfl rfl rfl (Oa rfl (Ab ?_))))
 first | refine Sf rfl Ac ?_ | refine At Ak ?_
 refine Se rfl (Om rfl (Od rfl rfl rfl (Om rfl ?_)))
 apply C0 62 66 rfl
 ·intro g8_3 hk
  try simp only [nb] at g8_3
  refine Ay rfl (.met rfl rfl) rfl ?_; refine A9 rfl (.met rfl rfl) rfl ?_; refine Ci rfl rfl rfl (.met rfl rfl) rfl ?_; refine Ot rfl rfl ?_
  exact Aw 3 rfl rfl hk
 ·intro _ hk; refine A0 3 rfl ?_; refine Of rfl rfl ?_
  exact Aw 3 rfl rfl hk
 refine Oa rfl (Ab ?_)
 first | refine Ej rfl (fun h => absurd h.1 Ac) ?_ | refine Ei rfl (fun h => absurd h.1 Ac) ?_ | refine At Ak ?_
 refine Se rfl (Om rfl (Od rfl rfl rfl (Om rfl ?_)))
 apply C0 87 91 rfl
 ·intro g10_3 hk
  try simp only [nb] at g10_3
  refine Ay rfl (.met rfl rfl) rfl ?_; refine A9 rfl (.met rfl rfl) rfl ?_; refine Ci rfl rfl rfl (.met rfl rfl) rfl ?_; refine Ot rfl rfl ?_
  exact Aw 3 rfl rfl hk
 ·intro _ hk; refine A0 3 rfl ?_; refine Of rfl rfl ?_
  exact Aw 3 rfl rfl hk
 refine Oa rfl (Ab ?_)
 first | refine L4 rfl (⟨rfl, rfl⟩) ?_ | refine L3 rfl (⟨rfl, rfl⟩) ?_ | refine Br Ak ?_
 refine Se rfl (Oh rfl (Oh rfl ?_)); refine A9 rfl .free rfl ?_; refine Oa rfl (Ab (Ah ?_)); refine Cq (fun w h => h.f4) ?_; refine H5 27 rfl rfl ?_; refine Da 0 rfl (Ai rfl) ?_; refine Da 1 rfl (Ai rfl) ?_
 first | refine Da 2 rfl (Bp rfl rfl 5 rfl) ?_ | refine Da 2 rfl (Bq rfl rfl 5 rfl) ?_
 refine Dt 3 [25] rfl (Er rfl (Bc (hf3.st _ Aa) Ae)) ?_; refine Da 4 rfl (Ap rfl) ?_; refine Dt 5 [25] rfl (Bx rfl) ?_; refine Da 6 rfl (Ai rfl) ?_
 first | refine Da 7 rfl (Bp rfl rfl 1 rfl) ?_ | refine Da 7 rfl (Bq rfl rfl 1 rfl) ?_
 refine Da 8 rfl (Bn rfl) ?_; refine Dt 9 [25] rfl (Er rfl (A7 (hf3.st _ Aa) Ae rfl)) ?_; refine Da 10 rfl (Ai rfl) ?_
 first | refine Da 11 rfl (Bp rfl rfl 2 rfl) ?_ | refine Da 11 rfl (Bq rfl rfl 2 rfl) ?_
 refine Da 12 rfl (Bn rfl) ?_; refine Dt 13 [25] rfl (Er rfl (A7 (hf3.st _ Aa) Ae rfl)) ?_; refine Da 16 rfl (Ap rfl) ?_; refine Dt 17 [25] rfl (Bx rfl) ?_; refine Dt 18 [25] rfl (D2 rfl) ?_; refine Dt 20 [25] rfl (D2 rfl) ?_; refine Fz 14 rfl Af rfl rfl rfl Ae Ae Ae Ac Ac Ae .free rfl (.inr Bb) ?_; intro b109; refine Ee ?_; intro hz
 have hle := hz
 have hf3 := hf3.mono hz
 have hnm := hnm.mono hz
 have hvs := hvs.mono hz
 have hst := fun x hx => (hst x hx).mono hz
 have hu2 := hu2.mono hz
 have hv2 := hv2.mono hz
 have hk1 := Pf (x := fn) (y := x) hz hfl hxl
 refine Dc 15 rfl rfl (It hnm hk1 Gy _) ?_; rintro _ J2 _ e2 ⟨o3, c3, rfl, hn3, rfl⟩; rw [hnn] at hn3 ⊢
 have hle := hle.trans e2
 have hf3 := hf3.mono e2
 have hvs := hvs.mono e2
 have hst := fun x hx => (hst x hx).mono e2
 have hu2 := hu2.mono e2
 have hv2 := hv2.mono e2
 refine Hx ?_; refine Dc 19 rfl rfl (Qy hvs hst h0 Aa hu2 fn _) ?_; rintro _ J3 _ e3 ⟨x4, c4, rfl, hs4, hc4, rfl⟩
 have hle := hle.trans e3
 have hf3 := hf3.mono e3
 have hvs := hvs.mono e3
 have hu2 := hu2.mono e3
 have hv2 := hv2.mono e3
 have hn3 := hn3.mono e3
 refine Hx ?_; refine Dc 21 rfl rfl (Qy (.cons (n := fn) hvs hu2) (fun x hx => by cases hx; exact hs4) (fun h => by cases h) (by simp only [KE.names, List.length_append, List.length_cons, List.length_nil]; omega) hv2 x _) ?_; rintro _ J4 _ e4 ⟨x5, c5, rfl, hs5, hc5, rfl⟩
 have hle := hle.trans e4
 have hf3 := hf3.mono e4
 have hvs := hvs.mono e4
 have hu2 := hu2.mono e4
 have hv2 := hv2.mono e4
 have hn3 := hn3.mono e4
 have hgk : GEat J4 (.cons x v (.cons fn (.clo fn x s t bd r) r)) o3 c3 (some x5) c5 := .mk hn3 (.cons (.cons hvs hu2) hv2) (fun x hx => by cases hx; exact hs5) (fun h => by cases h) hc5
 refine Hx ?_; refine Dc 22 rfl rfl (ihn n hN (hf3.as 5 bd.tree Aa rfl) hcok hgk ⟨nx, wv, nf, wu, hrw⟩ hdm htl2 b _) ?_; rintro _ J5 _ e5 ⟨cs5, rfl, hg5, rfl⟩
 have hle := hle.trans e5
 obtain ⟨_, _, _, _, _, _, _, _, _, _, _, _, _, _, rfl⟩ := hg5.open
 unfold H3
 refine Hx ?_; refine Da 23 rfl (Cj rfl rfl) ?_; refine Da 24 rfl (Cj rfl rfl) ?_; refine Dx 25 rfl rfl rfl rfl ?_; refine Db 26 rfl (A2 rfl) ?_; refine Bg Af ?_; refine Al (.c rfl (.tmp rfl .nil)) ?_
 exact ⟨J5, _, hle, Ms (L' := (b, _) :: L), _, rfl, hg5, rfl⟩
theorem Qf {P : Program} {f : FuncId} {n : Nat} {I₀ : Heap} {Q : Cx} {k : List Item} {E : Hi} {I : Heap} {L : Bl} {ops : Array Oper} {S : World → Prop} {fuel : Nat} {listed : Array Bool} {X : Type} (E' : X → Hi) (I' : X → Heap) (L' : X → Bl) (R : X → Prop)
  (hk : ∀ x, R x → RunS P f n I₀ Q k (E' x) (I' x) (L' x)) (h : (∀ x, R x → RunS P f n I₀ Q k (E' x) (I' x) (L' x)) → Cz P f n I₀ Q ops S fuel listed k E I L) : Cz P f n I₀ Q ops S fuel listed k E I L := h hk
theorem Va {n : Nat} {e : Ex} {k : KE} {u : KV} (hk : k.wf) (hok : e.ok = true) (hd : ∀ y ∈ e.occ [], y ∈ k.dom) (h : (eval n e k).v = some u) : u.wf ∧ (eval n e k).stuck = false := by
 have := G1 n e k hk hok hd
 unfold Res.says at this
 rw [h] at this
 exact ⟨this.1, this.2.2⟩
theorem Ad7 {s : As} (h : Bz s = true) : ¬ s = [] := fun e => by subst e; cases h
theorem U8 : ∀ {k : KE} {s : As}, s ∈ k.dom → ∃ v, k.look s = some v
 | .nil, s, h => by simp [KE.dom] at h
 | .cons n v up, s, h => by
  simp only [KE.dom, List.mem_cons] at h
  simp only [KE.look]
  by_cases hn : n = s
  ·exact ⟨v, by rw [if_pos hn]⟩
  ·rw [if_neg hn]
   exact U8 (h.resolve_left (fun e => hn e.symm))
theorem Still.mid {I : Heap} {q : Addr} {us ds ys : List Value} (h : Still I q (us ++ ds ++ ys)) (k : Nat) (hk : us.length = k * 7) : Still I (q.add (k * 7)) ds := h.part _ fun i hi => by
 rw [List.append_assoc, List.getElem?_append_right (by omega), show k * 7 + i - us.length = i by omega, List.getElem?_append_left hi, List.getElem?_eq_getElem hi]
theorem Aco {N : Nat} (ihn : EvG N) {o : B5} {a d : Ex} {u v : KV} (wu : u.wf) (wv : v.wf) {I : Heap} {cs : List Value} (h : Rep I (Ex.bin o a d).tree cs) {gu gv : List Value} (hu : GVat I u gu) (hv : GVat I v gv) {q : Addr} {c : Nat} (hq : Still I q (gu ++ gv)) (hc : 2 ≤ c) {k : KE} {on ov : Option Addr} {cn cv : Nat}
  (b n : Nat) (hn : n ≤ 1000000) (hN : n < N) (htk : k.tall + 2 * n ≤ 100000) (htu : u.tall + 2 + 2 * n ≤ 100000) (htv : v.tall + 2 + 2 * n ≤ 100000) (L : Bl) :
  Fun Tryz.prog 100 [.pointer (some ⟨b, 0, none⟩), .agg cs.toArray, .slice (some q) 2 c, .slice on k.names.length cn, .slice ov k.names.length cv] I (H3 b n false :: L) (Rn b (Lp o u v n) L) := by
 by_cases hca : o = .call
 ·subst hca
  by_cases hk : u.kd = [102, 117, 110]
  ·obtain ⟨fn, x, s, t, bd, r, rfl⟩ := Ad5 hk
   simp only [KV.tall] at htu
   refine Aa9 wu wv h hu hv hq hc ihn (k := k) b n hn hN htk Aa (fun y hy => ?_) (by simp only [KE.tall, KV.tall]; omega) L
   simp only [KE.dom, List.mem_cons]
   rcases wu.2.2 y hy with h | h
   ·simp only [List.mem_cons, List.not_mem_nil, or_false] at h
    rcases h with h | h
    ·exact .inr (.inl h)
    ·exact .inl h
   ·exact .inr (.inr h)
  ·have e : Lp .call u v n = ⟨none, n, true⟩ := by
    cases u with
    | clo f x s t b r => exact absurd rfl hk
    | _ => rfl
   rw [e]
   exact Vv hk h hu hv hq hc b n hn L
 ·by_cases hp : o = .pair
  ·subst hp
   exact Aba h hu hv hq hc b n hn L
  ·have e : Lp o u v n = Res.of (o.act u v) n := Fq (by rintro ⟨_, _, _, _, _, _, h, _⟩; exact hca h)
   rw [e]
   exact Acr (by cases o <;> first | rfl | exact absurd rfl hca | exact absurd rfl hp) wu wv h hu hv hq hc b n hn L
theorem Ad1 {o : U2} {a : Ex} {u : KV} {I : Heap} {cs : List Value} (h : Rep I (Ex.un o a).tree cs) {gu : List Value} (hu : GVat I u gu) {q : Addr} {c : Nat} (hq : Still I q gu) {on ov : Option Addr} {lm cn lv cv : Nat} (b n : Nat) (hn : n ≤ 1000000) (L : Bl) :
  Fun Tryz.prog 100 [.pointer (some ⟨b, 0, none⟩), .agg cs.toArray, .slice (some q) 1 c, .slice on lm cn, .slice ov lv cv] I (H3 b n false :: L) (Rn b (Res.of (o.act u) n) L) := by
 by_cases hk : u.kd = [112, 97, 105, 114]
 ·obtain ⟨x, y, rfl⟩ := Acx hk
  cases o with
  | fst => exact Acp h hu hq b n hn L
  | snd => exact Acs h hu hq b n hn L
 ·have e : Res.of (o.act u) n = ⟨none, n, true⟩ := by
   cases u with
   | pair x y => exact absurd rfl hk
   | _ => cases o <;> rfl
  rw [e]
  exact Zh hk h hu hq b n hn L
def Ad2 (u : KV) (n : Nat) (d g : Ex) (k : KE) : Res := match u with
 | .num s => eval n (if s = [48] then d else g) k
 | _ => ⟨none, n, true⟩
theorem Adz {N : Nat} (ihn : EvG N) {a d g : Ex} {u : KV} (wu : u.wf) {I : Heap} {cs : List Value} (h : Rep I (Ex.ite a d g).tree cs) (hok : (Ex.ite a d g).ok = true) {gu : List Value} (hu : GVat I u gu) {q : Addr} {c : Nat} (hq : Still I q gu) {k : KE} {on ov : Option Addr} {cn cv : Nat} (hk : GEat I k on cn ov cv) (hkw : k.wf)
  (b n : Nat) (hn : n ≤ 1000000) (hN : n < N) (htl : k.tall + 2 * n ≤ 100000) (hd1 : ∀ y ∈ d.occ [], y ∈ k.dom) (hd2 : ∀ y ∈ g.occ [], y ∈ k.dom) (L : Bl) :
  Fun Tryz.prog 100 [.pointer (some ⟨b, 0, none⟩), .agg cs.toArray, .slice (some q) 1 c, .slice on k.names.length cn, .slice ov k.names.length cv] I (H3 b n false :: L) (Rn b (Ad2 u n d g k) L) := by
 by_cases hkd : u.kd = [110, 117, 109, 98, 101, 114]
 ·obtain ⟨s, rfl⟩ := Xi hkd
  exact Acq wu hok h hu hq ihn hk hkw b n hn hN htl (by split; exact hd1; exact hd2) L
 ·have e : Ad2 u n d g k = ⟨none, n, true⟩ := by
   cases u with
   | num s => exact absurd rfl hkd
   | _ => rfl
  rw [e]
  exact Xe hkd h hu hq b n hn L

theorem Xg {I : Heap} {e : Ex} {cs : List Value} {k : KE} {on ov : Option Addr} {lm cn lv cv : Nat} (h : Rep I e.tree cs) (b : Nat) (L : Bl) :
  Fun Tryz.prog 54 [.pointer (some ⟨b, 0, none⟩), .agg cs.toArray, .slice on lm cn, .slice ov lv cv] I (H3 b 0 false :: L) (Rn b (eval 0 e k) L) := by
 obtain ⟨oa, cc, _, rfl, -⟩ := h.open
 unfold H3
 refine Ao Ad ?_; refine Se rfl ?_; refine Cg rfl rfl .free rfl ?_; intro b5; refine A5 .free rfl ?_; intro b8; refine Oa rfl (Ab (Ah (Se rfl (Om rfl ?_)))); refine Au rfl .free rfl ?_
 first | refine Oh rfl ?_ | refine Oj rfl ?_
 refine G5 rfl .free rfl ?_; refine Oc rfl rfl rfl (Ab ?_)
 first | refine St rfl (rfl) ?_ | refine Br Ak ?_
 refine Se rfl ?_; refine Cp rfl rfl rfl .free rfl ?_; refine By rfl rfl rfl rfl .free ?_; refine Oa rfl (Ab ?_); refine Al (.c rfl (.tmp rfl .nil)) ?_; rw [Ie]
 exact ⟨I, _, .refl _, Ms (L' := (b, _) :: L), S6, rfl, rfl, rfl⟩
theorem Zl {N : Nat} {s : As} {I : Heap} {cs : List Value} {k : KE} {on ov : Option Addr} {cn cv : Nat} (m : Nat) (hn : m < N) (h : Rep I (Ex.num s).tree cs) (hok : (Ex.num s).ok = true) (hk : GEat I k on cn ov cv) (hkw : k.wf) (hd : ∀ y ∈ (Ex.num s).occ [], y ∈ k.dom) (htl : k.tall + 2 * (m + 1) ≤ 100000) (b : Nat) (L : Bl) :
  Fun Tryz.prog 54 [.pointer (some ⟨b, 0, none⟩), .agg cs.toArray, .slice on k.names.length cn, .slice ov k.names.length cv] I (H3 b (m + 1) false :: L) (Rn b (eval (m + 1) (Ex.num s) k) L) := by
 obtain ⟨oa, cc, _, rfl, -⟩ := h.open
 have hnt : ¬ s = [] := Ad7 hok
 have hsl : s.length ≤ Bd := by have := Jh (show Bz s = true from hok); unfold Bd; omega
 unfold H3
 refine Ao Ad ?_; refine Se rfl ?_; refine Cg rfl rfl .free rfl ?_; intro b5; refine A5 .free rfl ?_; intro b8; refine Oa rfl (Ab (Ah (Se rfl (Om rfl ?_)))); refine Au rfl .free rfl ?_
 first | refine Oh rfl ?_ | refine Oj rfl ?_
 refine G5 rfl .free rfl ?_; refine Oc rfl rfl rfl (Ab ?_)
 first | refine Sf rfl Aa ?_ | refine At Ak ?_
 refine Aj (Se rfl (Om rfl (Om rfl ?_))); refine Au rfl .free rfl ?_
 first | refine Oh rfl ?_ | refine Oj rfl ?_
 refine G5 rfl .free rfl ?_; refine Or rfl rfl rfl ?_; refine C5 (t := 30) (v' := .int .i64 (m : Nat)) rfl Eb ?_; refine Au rfl .free rfl ?_
 first | refine Oh rfl ?_ | refine Oj rfl ?_
 refine By rfl rfl rfl rfl .free ?_; refine Ab (Ah (Se rfl (Oh rfl ?_))); refine A9 rfl .free rfl ?_; refine Od rfl rfl rfl (Ab ?_)
 first | refine L4 rfl (hnt) ?_ | refine L3 rfl (hnt) ?_ | refine Br Ak ?_
 refine Se rfl (Oh rfl ?_); refine A9 rfl .free rfl ?_; refine Ca rfl (M2 s hsl _ _) ?_; rintro _ _ _ _ ⟨rfl, rfl, rfl⟩; rw [show Bz s = true from hok]; refine Om rfl (Oe rfl rfl (Oe rfl rfl (Oa rfl (Oa rfl (Ab (Ah (Se rfl (Om rfl (Ab ?_)))))))))
 first | refine St rfl (rfl) ?_ | refine Br Ak ?_
 refine Se rfl (Om rfl ?_); refine Cp rfl rfl rfl .free rfl ?_; refine By rfl rfl rfl rfl .free ?_; refine Oa rfl (Ab ?_); refine Al (.c rfl (.tmp rfl .nil)) ?_; rw [Js]
 exact ⟨I, _, .refl _, Ms (L' := (b, _) :: L), _, rfl, .num, rfl⟩
theorem Xf {N : Nat} {s : As} {I : Heap} {cs : List Value} {k : KE} {on ov : Option Addr} {cn cv : Nat} (m : Nat) (hn : m < N) (h : Rep I (Ex.name s).tree cs) (hok : (Ex.name s).ok = true) (hk : GEat I k on cn ov cv) (hkw : k.wf) (hd : ∀ y ∈ (Ex.name s).occ [], y ∈ k.dom) (htl : k.tall + 2 * (m + 1) ≤ 100000) (b : Nat) (L : Bl) :
  Fun Tryz.prog 54 [.pointer (some ⟨b, 0, none⟩), .agg cs.toArray, .slice on k.names.length cn, .slice ov k.names.length cv] I (H3 b (m + 1) false :: L) (Rn b (eval (m + 1) (Ex.name s) k) L) := by
 obtain ⟨oa, cc, _, rfl, -⟩ := h.open
 have hnt : ¬ s = [] := fun e => by subst e; cases hok
 have hsl : s.length ≤ Bd := by have := Fs (show Bu s = true from hok); unfold Bd; omega
 obtain ⟨v0, hv0⟩ := U8 (hd s (by simp [Ex.occ]))
 have hktl := Lf k
 obtain @⟨_, _, _, _, _, gs, hnm, hvs, hst, h0, hcv⟩ := hk
 unfold H3
 refine Ao Ad ?_; refine Se rfl ?_; refine Cg rfl rfl .free rfl ?_; intro b5; refine A5 .free rfl ?_; intro b8; refine Oa rfl (Ab (Ah (Se rfl (Om rfl ?_)))); refine Au rfl .free rfl ?_
 first | refine Oh rfl ?_ | refine Oj rfl ?_
 refine G5 rfl .free rfl ?_; refine Oc rfl rfl rfl (Ab ?_)
 first | refine Sf rfl Aa ?_ | refine At Ak ?_
 refine Aj (Se rfl (Om rfl (Om rfl ?_))); refine Au rfl .free rfl ?_
 first | refine Oh rfl ?_ | refine Oj rfl ?_
 refine G5 rfl .free rfl ?_; refine Or rfl rfl rfl ?_; refine C5 (t := 30) (v' := .int .i64 (m : Nat)) rfl Eb ?_; refine Au rfl .free rfl ?_
 first | refine Oh rfl ?_ | refine Oj rfl ?_
 refine By rfl rfl rfl rfl .free ?_; refine Ab (Ah (Se rfl (Oh rfl ?_))); refine A9 rfl .free rfl ?_; refine Od rfl rfl rfl (Ab ?_)
 first | refine L4 rfl (hnt) ?_ | refine L3 rfl (hnt) ?_ | refine Br Ak ?_
 refine Se rfl (Oh rfl ?_); refine A9 rfl .free rfl ?_; refine Ca rfl (M2 s hsl _ _) ?_; rintro _ _ _ _ ⟨rfl, rfl, rfl⟩; rw [G3 (show Bu s = true from hok)]; refine Om rfl (Oe rfl rfl (Oe rfl rfl (Oa rfl (Oa rfl (Ab (Ah (Se rfl (Om rfl (Ab ?_)))))))))
 first | refine Sf rfl Ad ?_ | refine At Ak ?_
 refine Aj (Ah (Se rfl (Om rfl (On rfl ?_)))); refine Or rfl rfl rfl ?_; refine Oa rfl (Ab (Ar ?_)); refine Dy (X := KE) (fun x => SizeOf.sizeOf x) (fun x => [(0, .pointer (some ⟨b, 0, none⟩)), (2, .slice on k.names.length cn), (3, .slice ov k.names.length cv), (5, .pointer (some ⟨b5, 0, none⟩)), (8, .pointer (some ⟨b8, 0, none⟩)), (12, .int .i64 ((x.names.length : Nat) - 1))]) (fun _ => I)
  (fun _ => (b8, .cells [.string (str []), .int .i64 0, .slice none 0 0, .string (str []), .slice none 0 0, .slice none 0 0, .slice none 0 0].toArray 76 (0, 0)) :: (b5, .cells [.string (str (Ex.name s).tree.atom), .slice oa (Ex.name s).tree.parts.length cc].toArray 68 (0, 0)) :: (b, .cells [.int .i64 (m : Nat), .bool false].toArray 73 (0, 0)) :: L)
  (fun x => (∃ rest, k.names = x.names ++ rest) ∧ (∃ xs ys, GVs I x xs ∧ gs = xs ++ ys) ∧ x.look s = k.look s) k ⟨⟨[], by simp⟩, ⟨gs, [], hvs, by simp⟩, rfl⟩ ⟨rfl, rfl, rfl, rfl, rfl, rfl, trivial⟩ (fun _ h => h) ?_
 rintro x ⟨⟨rest, hrest⟩, ⟨xs, ys, hgx, hgs⟩, hlk⟩ ih; refine Ah (Se rfl (Om rfl (Oc rfl rfl rfl (Ab ?_)))); refine Az rfl ?_ ?_
 ·intro c3
  try simp only [nb] at c3
  obtain ⟨mm, vv, up, rfl⟩ : ∃ mm vv up, x = .cons mm vv up := by
   cases x with
   | nil => simp [KE.names] at c3
   | cons mm vv up => exact ⟨_, _, _, rfl⟩
  obtain ⟨us, ds, hus, hds, rfl⟩ : ∃ us ds, GVs I up us ∧ GVat I vv ds ∧ xs = us ++ ds := by
   cases hgx with
   | cons hu hv => exact ⟨_, _, hu, hv, rfl⟩
  have hxl : (KE.cons mm vv up).names.length = up.names.length + 1 := by simp [KE.names]
  refine K6 (t := 12) (v' := .int .i64 (up.names.length : Nat)) rfl (by rw [hxl]; congr 1; omega) ?_
  have hi : up.names.length < k.names.length := by rw [hrest, List.length_append, hxl]; omega
  have hgi : k.names[up.names.length] = mm := by simp [hrest, KE.names]
  obtain ⟨xn, hxn, hstn⟩ := hnm.at up.names.length hi; rw [hgi] at hstn; obtain ⟨xv, hxv⟩ : ∃ xv, ov = some xv := by
   cases ov with
   | none => have := h0 rfl; rw [this] at hi; exact absurd hi (Nat.not_lt_zero _)
   | some xv => exact ⟨xv, rfl⟩
  subst hxn hxv hgs
  have hstv := (hst xv rfl).mid up.names.length hus.len
  obtain ⟨_, _, _, _, _, _, _, _, _, _, _, _, _, _, rfl⟩ := hds.open; refine Aj (Ah (Ar (Ah ?_))); refine Fj 7 rfl rfl ?_; refine Da 0 rfl (Ai rfl) ?_; refine Da 1 rfl (Ai rfl) ?_
  first | refine Da 2 rfl (Bp rfl rfl _ rfl) ?_ | refine Da 2 rfl (Bq rfl rfl _ rfl) ?_
  refine Dt 3 [7] rfl (Er rfl (A4 hstn rfl)) ?_; refine Da 4 rfl (Ap rfl) ?_; refine Dt 5 [7] rfl (Bx rfl) ?_; refine Da 6 rfl (Uq rfl rfl rfl) ?_; refine Bg Af ?_; refine Az rfl ?_ ?_
  ·intro c4
   try simp only [nb] at c4
   refine Se rfl (Om rfl (Om rfl ?_))
   first | refine Bh rfl rfl _ rfl .free rfl ?_ | refine Bi rfl rfl _ rfl .free rfl ?_
   refine Bs rfl (Bc hstv Ae) .free rfl ?_; refine By rfl rfl rfl rfl .free ?_; refine Oa rfl (Ab ?_); refine Al (.c rfl (.tmp rfl .nil)) ?_
   have hks : k.look s = some vv := by rw [← hlk, KE.look, if_pos (show mm = s from c4)]
   rw [G0]
   exact ⟨I, _, .refl _, Ms (L' := (b, _) :: L), _, by rw [hks]; rfl, by rw [hks]; exact hds, rfl⟩
  intro c4
  try simp only [nb] at c4
  refine Aj (Aq (Am rfl (Om rfl ?_))); refine Or rfl rfl rfl ?_; refine Oa rfl (Ab ?_)
  exact Dl (E' := [(0, .pointer (some ⟨b, 0, none⟩)), (2, .slice (some xn) k.names.length cn), (3, .slice (some xv) k.names.length cv), (5, .pointer (some ⟨b5, 0, none⟩)), (8, .pointer (some ⟨b8, 0, none⟩)), (12, .int .i64 ((up.names.length : Nat) - 1))]) ⟨rfl, rfl, rfl, rfl, rfl, rfl, trivial⟩ (ih up ⟨⟨mm :: rest, by rw [hrest]; simp [KE.names]⟩, ⟨us, _, hus, List.append_assoc _ _ _⟩, by rw [← hlk, KE.look, if_neg (show ¬ mm = s from c4)]⟩ (by simp only [KE.cons.sizeOf_spec]; omega))
 intro c3
 try simp only [nb] at c3
 have hF : False := by
  cases x with
  | nil => rw [hv0] at hlk; cases hlk
  | cons mm vv up => simp only [KE.names, List.length_append, List.length_cons, List.length_nil] at c3; omega
 refine Cd rfl ?_; refine Se rfl (Om rfl ?_); refine Au rfl .free rfl ?_
 first | refine Oh rfl ?_ | refine Oj rfl ?_
 refine By rfl rfl rfl rfl .free ?_; refine Ab (Se rfl ?_); refine Cp rfl rfl rfl .free rfl ?_; refine By rfl rfl rfl rfl .free ?_; refine Oa rfl (Ab ?_); refine Al (.c rfl (.tmp rfl .nil)) ?_
 exact hF.elim
theorem Abb {N : Nat} {f x : As} {s t : Ty} {bd : Ex} {I : Heap} {cs : List Value} {k : KE} {on ov : Option Addr} {cn cv : Nat} (m : Nat) (hn : m < N) (h : Rep I (Ex.fn f x s t bd).tree cs) (hok : (Ex.fn f x s t bd).ok = true) (hk : GEat I k on cn ov cv) (hkw : k.wf) (hd : ∀ y ∈ (Ex.fn f x s t bd).occ [], y ∈ k.dom) (htl : k.tall + 2 * (m + 1) ≤ 100000) (b : Nat) (L : Bl) :
  Fun Tryz.prog 54 [.pointer (some ⟨b, 0, none⟩), .agg cs.toArray, .slice on k.names.length cn, .slice ov k.names.length cv] I (H3 b (m + 1) false :: L) (Rn b (eval (m + 1) (Ex.fn f x s t bd) k) L) := by
 obtain ⟨oa, cc, oaf, cf, rfl, hf⟩ := h.at'
 have hlen : (Ex.fn f x s t bd).tree.parts.length = 6 := rfl
 obtain ⟨xa, rfl⟩ : ∃ xa, oa = some xa := ⟨_, D5 hf.nil (show 0 < 6 by decide)⟩
 have hat : (Ex.fn f x s t bd).tree.atom = [] := rfl
 unfold H3
 refine Ao Ad ?_; refine Se rfl ?_; refine Cg rfl rfl .free rfl ?_; intro b5; refine A5 .free rfl ?_; intro b8; refine Oa rfl (Ab (Ah (Se rfl (Om rfl ?_)))); refine Au rfl .free rfl ?_
 first | refine Oh rfl ?_ | refine Oj rfl ?_
 refine G5 rfl .free rfl ?_; refine Oc rfl rfl rfl (Ab ?_)
 first | refine Sf rfl Aa ?_ | refine At Ak ?_
 refine Aj (Se rfl (Om rfl (Om rfl ?_))); refine Au rfl .free rfl ?_
 first | refine Oh rfl ?_ | refine Oj rfl ?_
 refine G5 rfl .free rfl ?_; refine Or rfl rfl rfl ?_; refine C5 (t := 30) (v' := .int .i64 (m : Nat)) rfl Eb ?_; refine Au rfl .free rfl ?_
 first | refine Oh rfl ?_ | refine Oj rfl ?_
 refine By rfl rfl rfl rfl .free ?_; refine Ab (Ah (Se rfl (Oh rfl ?_))); refine A9 rfl .free rfl ?_; refine Od rfl rfl rfl (Ab ?_)
 first | refine Ej rfl (by simp [hat]) ?_ | refine Ei rfl (by simp [hat]) ?_ | refine At Ak ?_
 refine Aj (Se rfl (Oh rfl ?_)); refine A9 rfl .free rfl ?_
 first | refine Bh rfl rfl 0 rfl .free rfl ?_ | refine Bi rfl rfl 0 rfl .free rfl ?_
 refine Be rfl .free rfl ?_; refine Gf rfl .free rfl ?_; refine C5 (t := 71) (v' := .string (str [102, 117, 110])) rfl rfl ?_; refine Oa rfl (Ab (Ah (Se rfl (Om rfl (Od rfl rfl rfl (Ab ?_))))))
 first | refine St rfl (rfl) ?_ | refine Br Ak ?_
 refine Se rfl ?_; refine Bj rfl .free rfl ?_; refine Om rfl (Om rfl ?_); refine Cp rfl rfl rfl .free rfl ?_; refine By rfl rfl rfl rfl .free ?_; refine Oa rfl (Ab ?_); refine Al (.c rfl (.tmp rfl .nil)) ?_; rw [Ja]
 exact ⟨I, _, .refl _, Ms (L' := (b, _) :: L), _, rfl, .clo h hk, rfl⟩
set_option maxHeartbeats 2000000 in
theorem Zj {N : Nat} (ihn : EvG N) {o : B5} {a d : Ex} {I : Heap} {cs : List Value} {k : KE} {on ov : Option Addr} {cn cv : Nat} (m : Nat) (hn : m < N) (h : Rep I (Ex.bin o a d).tree cs) (hok : (Ex.bin o a d).ok = true) (hk : GEat I k on cn ov cv) (hkw : k.wf) (hd : ∀ y ∈ (Ex.bin o a d).occ [], y ∈ k.dom) (htl : k.tall + 2 * (m + 1) ≤ 100000) (b : Nat) (L : Bl) :
  Fun Tryz.prog 54 [.pointer (some ⟨b, 0, none⟩), .agg cs.toArray, .slice on k.names.length cn, .slice ov k.names.length cv] I (H3 b (m + 1) false :: L) (Rn b (eval (m + 1) (Ex.bin o a d) k) L) := by
 obtain ⟨oa, cc, oaf, cf, rfl, hf⟩ := h.at'
 have hlen : (Ex.bin o a d).tree.parts.length = 3 := rfl
 obtain ⟨xa, rfl⟩ : ∃ xa, oa = some xa := ⟨_, D5 hf.nil (show 0 < 3 by decide)⟩
 have hat : (Ex.bin o a d).tree.atom = [] := rfl
 have hev : eag o.txt = [1, 2] := by cases o <;> rfl
 have hok0 := hok
 simp only [Ex.ok, Bool.and_eq_true] at hok
 unfold H3
 refine Ao Ad ?_; refine Se rfl ?_; refine Cg rfl rfl .free rfl ?_; intro b5; refine A5 .free rfl ?_; intro b8; refine Oa rfl (Ab (Ah (Se rfl (Om rfl ?_)))); refine Au rfl .free rfl ?_
 first | refine Oh rfl ?_ | refine Oj rfl ?_
 refine G5 rfl .free rfl ?_; refine Oc rfl rfl rfl (Ab ?_)
 first | refine Sf rfl Aa ?_ | refine At Ak ?_
 refine Aj (Se rfl (Om rfl (Om rfl ?_))); refine Au rfl .free rfl ?_
 first | refine Oh rfl ?_ | refine Oj rfl ?_
 refine G5 rfl .free rfl ?_; refine Or rfl rfl rfl ?_; refine C5 (t := 30) (v' := .int .i64 (m : Nat)) rfl Eb ?_; refine Au rfl .free rfl ?_
 first | refine Oh rfl ?_ | refine Oj rfl ?_
 refine By rfl rfl rfl rfl .free ?_; refine Ab (Ah (Se rfl (Oh rfl ?_))); refine A9 rfl .free rfl ?_; refine Od rfl rfl rfl (Ab ?_)
 first | refine Ej rfl (by simp [hat]) ?_ | refine Ei rfl (by simp [hat]) ?_ | refine At Ak ?_
 refine Aj (Se rfl (Oh rfl ?_)); refine A9 rfl .free rfl ?_
 first | refine Bh rfl rfl 0 rfl .free rfl ?_ | refine Bi rfl rfl 0 rfl .free rfl ?_
 refine Be rfl .free rfl ?_; refine Gf rfl .free rfl ?_; refine C5 (t := 71) (v' := .string (str o.txt)) rfl rfl ?_; refine Oa rfl (Ab (Ah (Se rfl (Om rfl (Od rfl rfl rfl (Ab ?_))))))
 first | refine Ej rfl (o.txt_ne.2.2.1) ?_ | refine Ei rfl (o.txt_ne.2.2.1) ?_ | refine At Ak ?_
 refine Aj (Se rfl (Om rfl ?_)); refine Ca rfl (Mf o.txt _ _) ?_; rintro _ J0 _ e0 ⟨oq, ck, rfl, hn0, rfl⟩
 have hle := e0
 have hf := hf.mono e0
 have hk := hk.mono e0
 rw [hev] at hn0; rw [hev]; refine Oa rfl (Ab (Se rfl ?_)); refine Eh .free rfl ?_; intro b80; refine Oa rfl (Ab (Ah (Ah ?_))); refine Cq (fun w h => h.f3) ?_; refine Am rfl (Oa rfl (Ab (Ar ?_))); refine Ek ?_; refine Ah (Se rfl (Om rfl (Om rfl (On rfl (Oc rfl rfl rfl (Ab ?_)))))); refine B9 rfl A8 ?_; refine Aj (Ah (Ar (Ah ?_))); refine H5 18 rfl rfl ?_
 refine Qf (X := Nat × Heap × List Value) (fun x => [(0, .pointer (some ⟨b, 0, none⟩)), (2, .slice on k.names.length cn), (3, .slice ov k.names.length cv), (5, .pointer (some ⟨b5, 0, none⟩)), (8, .pointer (some ⟨b8, 0, none⟩)), (14, .slice oq [1, 2].length ck), (15, .slice (some ⟨b80, 0, none⟩) 0 0), (16, .int .i64 0), (17, .pointer (some ⟨x.1, 0, none⟩)), (18, .bool (eval m a k).v.isSome)]) (fun x => x.2.1) (fun x => (x.1, .cells x.2.2.toArray 76 (0, 0)) :: (b, .cells [.int .i64 ((eval m a k).left : Nat), .bool (eval m a k).stuck].toArray 73 (0, 0)) :: (b80, .cells [].toArray 76 (0, 0)) :: (b8, .cells [.string (str []), .int .i64 0, .slice none 0 0, .string (str []), .slice none 0 0, .slice none 0 0, .slice none 0 0].toArray 76 (0, 0)) :: (b5, .cells [.string (str (Ex.bin o a d).tree.atom), .slice (some xa) (Ex.bin o a d).tree.parts.length cc].toArray 68 (0, 0)) :: L) (fun x => HLe J0 x.2.1 ∧ GO x.2.1 (eval m a k).v x.2.2) ?_ ?_
 ·rintro ⟨b17, J1, gs⟩ ⟨e1, hg1⟩
  simp only at e1 hg1 ⊢
  obtain ⟨x1, x2, x3, x4, x5, x6, x7, x8, x9, x10, x11, x12, x13, x14, rfl⟩ := hg1.open
  have hle := hle.trans e1
  have hf := hf.mono e1
  have hk := hk.mono e1
  have hn0 := hn0.mono e1
  refine Ah (Se rfl (Om rfl ?_)); refine Dv rfl .free rfl ?_; refine Ab ?_; refine Az rfl ?_ ?_
  ·intro c7
   try simp only [nb] at c7
   have hv0 : (eval m a k).v = none := by
    cases h : (eval m a k).v with
    | none => rfl
    | some w => rw [h] at c7; cases c7
   refine Se rfl ?_; refine G5 rfl .free rfl ?_; refine By rfl rfl rfl rfl .free ?_; refine Oa rfl (Ab ?_); refine Al (.c rfl (.tmp rfl .nil)) ?_
   have hR : eval (m + 1) (Ex.bin o a d) k = (eval m a k) := by rw [Gq]; simp only [hv0]
   rw [hR]
   exact ⟨J1, _, hle, Ms (L' := (b, _) :: L), _, by rw [hv0]; rfl, hg1, rfl⟩
  intro c7
  try simp only [nb] at c7
  obtain ⟨u, hv0⟩ : ∃ w, (eval m a k).v = some w := Option.isSome_iff_exists.1 (by simpa using c7); rw [hv0] at hg1
  have hau : GVat J1 u [.string (str x1), .int .i64 x2, .slice x3 x4 x5, .string (str []), .slice x6 x7 x8, .slice x9 x10 x11, .slice x12 x13 x14] := hg1
  obtain ⟨wu, hst0⟩ := Va hkw hok.1 (fun y hy => hd y (List.mem_append_left _ hy)) hv0
  have hl1 := Bv m a k
  have htu := Ky m a k hv0
  rw [hst0]; refine Aj (Am rfl (Om rfl ?_)); refine G5 rfl .free rfl ?_; refine Ol rfl rfl ?_; intro b107; refine D7 (B := some (b80, [])) (xs := []) (ys := [.string (str x1), .int .i64 x2, .slice x3 x4 x5, .string (str []), .slice x6 x7 x8, .slice x9 x10 x11, .slice x12 x13 x14]) (m := 0) (c := 0) Bk Ae rfl rfl ⟨rfl, Nat.le_refl _, rfl⟩ (fun _ h => h.f3) Ae (fun a ha => by cases ha; exact Cc (.head _) Ae) Ad Ae Ac Ac Aa Ac .free rfl ?_; intro bb sp c2 hB
  simp only [List.nil_append]
  refine Oa rfl (Ab (Aq ?_)); refine Cq (fun w h => (Mem.sub (L' := (bb, _) :: (b, _) :: (b8, _) :: (b5, _) :: L) Bf h).f1) ?_; refine Am rfl (Om rfl ?_); refine Or rfl rfl rfl ?_; refine C5 (t := 86) (v' := .int .i64 ((1 : Nat))) rfl Ae ?_; refine Oa rfl (Ab ?_); refine B7 ?_; refine Ah (Se rfl (Om rfl (Om rfl (On rfl (Oc rfl rfl rfl (Ab ?_)))))); refine B9 rfl A8 ?_; refine Aj (Ah (Ar (Ah ?_))); refine H5 18 rfl rfl ?_
  refine Qf (X := Nat × Heap × List Value) (fun x => [(0, .pointer (some ⟨b, 0, none⟩)), (2, .slice on k.names.length cn), (3, .slice ov k.names.length cv), (5, .pointer (some ⟨b5, 0, none⟩)), (8, .pointer (some ⟨b8, 0, none⟩)), (14, .slice oq [1, 2].length ck), (15, .slice (some ⟨bb, 0, none⟩) (0 + 1) c2), (16, .int .i64 ((1 : Nat))), (17, .pointer (some ⟨x.1, 0, none⟩)), (18, .bool (eval (eval m a k).left d k).v.isSome)]) (fun x => x.2.1) (fun x => (x.1, .cells x.2.2.toArray 76 (0, 0)) :: (b, .cells [.int .i64 ((eval (eval m a k).left d k).left : Nat), .bool (eval (eval m a k).left d k).stuck].toArray 73 (0, 0)) :: (bb, .cells (([.string (str x1), .int .i64 x2, .slice x3 x4 x5, .string (str []), .slice x6 x7 x8, .slice x9 x10 x11, .slice x12 x13 x14] : List Value) ++ sp).toArray 76 (0, 0)) :: (b8, .cells [.string (str []), .int .i64 0, .slice none 0 0, .string (str []), .slice none 0 0, .slice none 0 0, .slice none 0 0].toArray 76 (0, 0)) :: (b5, .cells [.string (str (Ex.bin o a d).tree.atom), .slice (some xa) (Ex.bin o a d).tree.parts.length cc].toArray 68 (0, 0)) :: L) (fun x => HLe J1 x.2.1 ∧ GO x.2.1 (eval (eval m a k).left d k).v x.2.2) ?_ ?_
  ·rintro ⟨b17, J2, gs⟩ ⟨e2, hg2⟩
   simp only at e2 hg2 ⊢
   obtain ⟨y1, y2, y3, y4, y5, y6, y7, y8, y9, y10, y11, y12, y13, y14, rfl⟩ := hg2.open
   have hle := hle.trans e2
   have hf := hf.mono e2
   have hk := hk.mono e2
   have hn0 := hn0.mono e2
   refine Ah (Se rfl (Om rfl ?_)); refine Dv rfl .free rfl ?_; refine Ab ?_; refine Az rfl ?_ ?_
   ·intro c7
    try simp only [nb] at c7
    have hv1 : (eval (eval m a k).left d k).v = none := by
     cases h : (eval (eval m a k).left d k).v with
     | none => rfl
     | some w => rw [h] at c7; cases c7
    refine Se rfl ?_; refine G5 rfl .free rfl ?_; refine By rfl rfl rfl rfl .free ?_; refine Oa rfl (Ab ?_); refine Al (.c rfl (.tmp rfl .nil)) ?_
    have hR : eval (m + 1) (Ex.bin o a d) k = (eval (eval m a k).left d k) := by rw [Gq]; simp only [hv0, hv1]
    rw [hR]
    exact ⟨J2, _, hle, Ms (L' := (b, _) :: L), _, by rw [hv1]; rfl, hg2, rfl⟩
   intro c7
   try simp only [nb] at c7
   obtain ⟨v, hv1⟩ : ∃ w, (eval (eval m a k).left d k).v = some w := Option.isSome_iff_exists.1 (by simpa using c7); rw [hv1] at hg2
   have hav : GVat J2 v [.string (str y1), .int .i64 y2, .slice y3 y4 y5, .string (str []), .slice y6 y7 y8, .slice y9 y10 y11, .slice y12 y13 y14] := hg2
   obtain ⟨wv, hst1⟩ := Va hkw hok.2 (fun y hy => hd y (List.mem_append_right _ hy)) hv1
   have hl2 := Bv (eval m a k).left d k
   have htv := Ky (eval m a k).left d k hv1
   rw [hst1]; refine Aj (Am rfl (Om rfl ?_)); refine G5 rfl .free rfl ?_; refine Ol rfl rfl ?_; intro b107; refine D7 (B := some (bb, sp)) (xs := [.string (str x1), .int .i64 x2, .slice x3 x4 x5, .string (str []), .slice x6 x7 x8, .slice x9 x10 x11, .slice x12 x13 x14]) (ys := [.string (str y1), .int .i64 y2, .slice y3 y4 y5, .string (str []), .slice y6 y7 y8, .slice y9 y10 y11, .slice y12 y13 y14]) (m := 1) (c := c2) Bk Ae rfl rfl hB (fun _ h => h.f3) Ae (fun a ha => by cases ha; exact Cc (.head _) Ae) Ad Ae Ac Ac Aa Ac .free rfl ?_; intro bb2 sp2 c3 hB2; refine Oa rfl (Ab (Aq ?_))
   refine Cq (fun w h => (Mem.sub (L' := (bb2, _) :: (b, _) :: (b8, _) :: (b5, _) :: L) Bf h).f1) ?_; refine Am rfl (Om rfl ?_); refine Or rfl rfl rfl ?_; refine Oa rfl (Ab ?_); refine B7 ?_; refine Ah (Se rfl (Om rfl (Om rfl (On rfl (Oc rfl rfl rfl (Ab ?_)))))); refine Dw rfl A8 ?_; refine Cd rfl ?_; refine Ah ?_; refine Cq (fun w h => h.f1) (Bo ?_); intro hz
   have hq := Ba (I := J2) (b := bb2) (xs := [.string (str x1), .int .i64 x2, .slice x3 x4 x5, .string (str []), .slice x6 x7 x8, .slice x9 x10 x11, .slice x12 x13 x14] ++ [.string (str y1), .int .i64 y2, .slice y3 y4 y5, .string (str []), .slice y6 y7 y8, .slice y9 y10 y11, .slice y12 y13 y14]) (ys := sp2) (T := 76) (fr := (0, 0))
   have hle := hle.trans hz
   have hf := hf.mono hz
   have hk := hk.mono hz
   have hau := hau.mono (e2.trans hz)
   have hav := hav.mono hz
   refine Am rfl (Om rfl ?_); refine Bj rfl .free rfl ?_
   iterate 3 refine Om rfl ?_
   refine Ca rfl (Aco ihn wu wv hf.rep hau hav hq hB2.2.1 (k := k) b (eval (eval m a k).left d k).left Aa Aa Aa Aa Aa _) ?_; rintro _ J3 _ e3 ⟨gs5, rfl, hg5, rfl⟩
   have hle := hle.trans e3
   obtain ⟨_, _, _, _, _, _, _, _, _, _, _, _, _, _, rfl⟩ := hg5.open
   unfold H3
   refine Oe rfl rfl (Oe rfl rfl ?_); refine By rfl rfl rfl rfl .free ?_; refine Oa rfl (Ab ?_); refine Al (.c rfl (.tmp rfl .nil)) ?_
   have hR : eval (m + 1) (Ex.bin o a d) k = Lp o u v (eval (eval m a k).left d k).left := by rw [Id]; simp only [hv0, hv1]
   rw [hR]
   exact ⟨J3, _, hle, Ms (L' := (b, _) :: L), _, rfl, hg5, rfl⟩
  ·intro hkk
   skip
   refine Da 0 rfl (Ai rfl) ?_; refine Da 1 rfl (Ap rfl) ?_; refine Dt 2 [16] rfl (Bx rfl) ?_; refine Da 3 rfl (Ai rfl) ?_; refine Da 4 rfl (Ai rfl) ?_
   first | refine Da 5 rfl (Bp rfl rfl _ rfl) ?_ | refine Da 5 rfl (Bq rfl rfl _ rfl) ?_
   refine Dt 6 [16] rfl (L5 rfl) ?_
   first | refine Da 7 rfl (Bp rfl rfl _ rfl) ?_ | refine Da 7 rfl (Bq rfl rfl _ rfl) ?_
   refine Dt 8 [16] rfl (Dz rfl) ?_; refine Da 9 rfl (Ai rfl) ?_; refine Da 10 rfl (Ai rfl) ?_; refine Jo 11 15 Af ?_ ?_
   ·skip
    first
     | (refine C4 (L' := (b, _) :: _) (fun w h => h) ?_)
     | (refine C4 (fun w h => h.f1) ?_)
     | skip
    refine Jv 11 rfl rfl rfl .free rfl (ihn (eval m a k).left Aa (hf.as 2 d.tree Aa rfl) hok.2 hk hkw (fun y hy => hd y (List.mem_append_right _ hy)) Aa b _) ?_; rintro _ J2 _ e2 ⟨gs, rfl, hg2, rfl⟩; obtain ⟨y1, y2, y3, y4, y5, y6, y7, y8, y9, y10, y11, y12, y13, y14, rfl⟩ := hg2.open
    unfold H3
    refine Hx ?_; refine Da 12 rfl (Ai rfl) ?_; refine Da 13 rfl (Cj rfl rfl) ?_; refine Da 14 rfl (Cj rfl rfl) ?_; refine Nm 15 rfl Af rfl .free rfl (.inr Bb) ?_; intro b17; refine Dx 16 rfl rfl rfl rfl ?_; refine Db 17 rfl (A2 rfl) ?_; refine Bg Af ?_
    exact Dl (E' := [(0, _), (2, _), (3, _), (5, _), (8, _), (14, _), (15, _), (16, _), (17, _), (18, _)]) ⟨rfl, rfl, rfl, rfl, rfl, rfl, rfl, rfl, rfl, rfl, trivial⟩ (Cq Gh (hkk ⟨b17, J2, [.string (str y1), .int .i64 y2, .slice y3 y4 y5, .string (str []), .slice y6 y7 y8, .slice y9 y10 y11, .slice y12 y13 y14]⟩ ⟨e2, hg2⟩))
   ·skip
    refine Mi 15 rfl rfl .free rfl (.inr Bb) ?_; intro b17
    first
     | (refine C4 (L' := (b, _) :: _) (fun w h => h) ?_)
     | (refine C4 (fun w h => h.f1) ?_)
     | skip
    refine Dc 11 rfl rfl (ihn (eval m a k).left Aa (hf.as 2 d.tree Aa rfl) hok.2 hk hkw (fun y hy => hd y (List.mem_append_right _ hy)) Aa b _) ?_; rintro _ J2 _ e2 ⟨gs, rfl, hg2, rfl⟩; obtain ⟨y1, y2, y3, y4, y5, y6, y7, y8, y9, y10, y11, y12, y13, y14, rfl⟩ := hg2.open
    unfold H3
    refine Hx ?_; refine Da 12 rfl (Ai rfl) ?_; refine Da 13 rfl (Cj rfl rfl) ?_; refine Da 14 rfl (Cj rfl rfl) ?_; refine Dx 16 rfl rfl rfl rfl ?_; refine Db 17 rfl (A2 rfl) ?_; refine Bg Af ?_
    exact Dl (E' := [(0, _), (2, _), (3, _), (5, _), (8, _), (14, _), (15, _), (16, _), (17, _), (18, _)]) ⟨rfl, rfl, rfl, rfl, rfl, rfl, rfl, rfl, rfl, rfl, trivial⟩ (Cq Gh (hkk ⟨b17, J2, [.string (str y1), .int .i64 y2, .slice y3 y4 y5, .string (str []), .slice y6 y7 y8, .slice y9 y10 y11, .slice y12 y13 y14]⟩ ⟨e2, hg2⟩))
 ·intro hkk
  skip
  refine Da 0 rfl (Ai rfl) ?_; refine Da 1 rfl (Ap rfl) ?_; refine Dt 2 [16] rfl (Bx rfl) ?_; refine Da 3 rfl (Ai rfl) ?_; refine Da 4 rfl (Ai rfl) ?_
  first | refine Da 5 rfl (Bp rfl rfl _ rfl) ?_ | refine Da 5 rfl (Bq rfl rfl _ rfl) ?_
  refine Dt 6 [16] rfl (L5 rfl) ?_
  first | refine Da 7 rfl (Bp rfl rfl _ rfl) ?_ | refine Da 7 rfl (Bq rfl rfl _ rfl) ?_
  refine Dt 8 [16] rfl (Dz rfl) ?_; refine Da 9 rfl (Ai rfl) ?_; refine Da 10 rfl (Ai rfl) ?_; refine Jo 11 15 Af ?_ ?_
  ·skip
   first
    | (refine C4 (L' := (b, _) :: _) (fun w h => h) ?_)
    | (refine C4 (fun w h => h.f1) ?_)
    | skip
   refine Jv 11 rfl rfl rfl .free rfl (ihn m Aa (hf.as 1 a.tree Aa rfl) hok.1 hk hkw (fun y hy => hd y (List.mem_append_left _ hy)) Aa b _) ?_; rintro _ J1 _ e1 ⟨gs, rfl, hg1, rfl⟩; obtain ⟨x1, x2, x3, x4, x5, x6, x7, x8, x9, x10, x11, x12, x13, x14, rfl⟩ := hg1.open
   unfold H3
   refine Hx ?_; refine Da 12 rfl (Ai rfl) ?_; refine Da 13 rfl (Cj rfl rfl) ?_; refine Da 14 rfl (Cj rfl rfl) ?_; refine Nm 15 rfl Af rfl .free rfl (.inr Bb) ?_; intro b17; refine Dx 16 rfl rfl rfl rfl ?_; refine Db 17 rfl (A2 rfl) ?_; refine Bg Af ?_
   exact Dl (E' := [(0, _), (2, _), (3, _), (5, _), (8, _), (14, _), (15, _), (16, _), (17, _), (18, _)]) ⟨rfl, rfl, rfl, rfl, rfl, rfl, rfl, rfl, rfl, rfl, trivial⟩ (Cq Gh (hkk ⟨b17, J1, [.string (str x1), .int .i64 x2, .slice x3 x4 x5, .string (str []), .slice x6 x7 x8, .slice x9 x10 x11, .slice x12 x13 x14]⟩ ⟨e1, hg1⟩))
  ·skip
   refine Mi 15 rfl rfl .free rfl (.inr Bb) ?_; intro b17
   first
    | (refine C4 (L' := (b, _) :: _) (fun w h => h) ?_)
    | (refine C4 (fun w h => h.f1) ?_)
    | skip
   refine Dc 11 rfl rfl (ihn m Aa (hf.as 1 a.tree Aa rfl) hok.1 hk hkw (fun y hy => hd y (List.mem_append_left _ hy)) Aa b _) ?_; rintro _ J1 _ e1 ⟨gs, rfl, hg1, rfl⟩; obtain ⟨x1, x2, x3, x4, x5, x6, x7, x8, x9, x10, x11, x12, x13, x14, rfl⟩ := hg1.open
   unfold H3
   refine Hx ?_; refine Da 12 rfl (Ai rfl) ?_; refine Da 13 rfl (Cj rfl rfl) ?_; refine Da 14 rfl (Cj rfl rfl) ?_; refine Dx 16 rfl rfl rfl rfl ?_; refine Db 17 rfl (A2 rfl) ?_; refine Bg Af ?_
   exact Dl (E' := [(0, _), (2, _), (3, _), (5, _), (8, _), (14, _), (15, _), (16, _), (17, _), (18, _)]) ⟨rfl, rfl, rfl, rfl, rfl, rfl, rfl, rfl, rfl, rfl, trivial⟩ (Cq Gh (hkk ⟨b17, J1, [.string (str x1), .int .i64 x2, .slice x3 x4 x5, .string (str []), .slice x6 x7 x8, .slice x9 x10 x11, .slice x12 x13 x14]⟩ ⟨e1, hg1⟩))
set_option maxHeartbeats 2000000 in
theorem Zk {N : Nat} (ihn : EvG N) {a d g : Ex} {I : Heap} {cs : List Value} {k : KE} {on ov : Option Addr} {cn cv : Nat} (m : Nat) (hn : m < N) (h : Rep I (Ex.ite a d g).tree cs) (hok : (Ex.ite a d g).ok = true) (hk : GEat I k on cn ov cv) (hkw : k.wf) (hd : ∀ y ∈ (Ex.ite a d g).occ [], y ∈ k.dom) (htl : k.tall + 2 * (m + 1) ≤ 100000) (b : Nat) (L : Bl) :
  Fun Tryz.prog 54 [.pointer (some ⟨b, 0, none⟩), .agg cs.toArray, .slice on k.names.length cn, .slice ov k.names.length cv] I (H3 b (m + 1) false :: L) (Rn b (eval (m + 1) (Ex.ite a d g) k) L) := by
 obtain ⟨oa, cc, oaf, cf, rfl, hf⟩ := h.at'
 have hlen : (Ex.ite a d g).tree.parts.length = 4 := rfl
 obtain ⟨xa, rfl⟩ : ∃ xa, oa = some xa := ⟨_, D5 hf.nil (show 0 < 4 by decide)⟩
 have hat : (Ex.ite a d g).tree.atom = [] := rfl
 have hev : eag [105, 102] = [1] := rfl
 have hok0 := hok
 simp only [Ex.ok, Bool.and_eq_true] at hok
 unfold H3
 refine Ao Ad ?_; refine Se rfl ?_; refine Cg rfl rfl .free rfl ?_; intro b5; refine A5 .free rfl ?_; intro b8; refine Oa rfl (Ab (Ah (Se rfl (Om rfl ?_)))); refine Au rfl .free rfl ?_
 first | refine Oh rfl ?_ | refine Oj rfl ?_
 refine G5 rfl .free rfl ?_; refine Oc rfl rfl rfl (Ab ?_)
 first | refine Sf rfl Aa ?_ | refine At Ak ?_
 refine Aj (Se rfl (Om rfl (Om rfl ?_))); refine Au rfl .free rfl ?_
 first | refine Oh rfl ?_ | refine Oj rfl ?_
 refine G5 rfl .free rfl ?_; refine Or rfl rfl rfl ?_; refine C5 (t := 30) (v' := .int .i64 (m : Nat)) rfl Eb ?_; refine Au rfl .free rfl ?_
 first | refine Oh rfl ?_ | refine Oj rfl ?_
 refine By rfl rfl rfl rfl .free ?_; refine Ab (Ah (Se rfl (Oh rfl ?_))); refine A9 rfl .free rfl ?_; refine Od rfl rfl rfl (Ab ?_)
 first | refine Ej rfl (by simp [hat]) ?_ | refine Ei rfl (by simp [hat]) ?_ | refine At Ak ?_
 refine Aj (Se rfl (Oh rfl ?_)); refine A9 rfl .free rfl ?_
 first | refine Bh rfl rfl 0 rfl .free rfl ?_ | refine Bi rfl rfl 0 rfl .free rfl ?_
 refine Be rfl .free rfl ?_; refine Gf rfl .free rfl ?_; refine C5 (t := 71) (v' := .string (str [105, 102])) rfl rfl ?_; refine Oa rfl (Ab (Ah (Se rfl (Om rfl (Od rfl rfl rfl (Ab ?_))))))
 first | refine Sf rfl Ac ?_ | refine At Ak ?_
 refine Aj (Se rfl (Om rfl ?_)); refine Ca rfl (Mf [105, 102] _ _) ?_; rintro _ J0 _ e0 ⟨oq, ck, rfl, hn0, rfl⟩
 have hle := e0
 have hf := hf.mono e0
 have hk := hk.mono e0
 rw [hev] at hn0; rw [hev]; refine Oa rfl (Ab (Se rfl ?_)); refine Eh .free rfl ?_; intro b80; refine Oa rfl (Ab (Ah (Ah ?_))); refine Cq (fun w h => h.f3) ?_; refine Am rfl (Oa rfl (Ab (Ar ?_))); refine Ek ?_; refine Ah (Se rfl (Om rfl (Om rfl (On rfl (Oc rfl rfl rfl (Ab ?_)))))); refine B9 rfl A8 ?_; refine Aj (Ah (Ar (Ah ?_))); refine H5 18 rfl rfl ?_
 refine Qf (X := Nat × Heap × List Value) (fun x => [(0, .pointer (some ⟨b, 0, none⟩)), (2, .slice on k.names.length cn), (3, .slice ov k.names.length cv), (5, .pointer (some ⟨b5, 0, none⟩)), (8, .pointer (some ⟨b8, 0, none⟩)), (14, .slice oq [1].length ck), (15, .slice (some ⟨b80, 0, none⟩) 0 0), (16, .int .i64 0), (17, .pointer (some ⟨x.1, 0, none⟩)), (18, .bool (eval m a k).v.isSome)]) (fun x => x.2.1) (fun x => (x.1, .cells x.2.2.toArray 76 (0, 0)) :: (b, .cells [.int .i64 ((eval m a k).left : Nat), .bool (eval m a k).stuck].toArray 73 (0, 0)) :: (b80, .cells [].toArray 76 (0, 0)) :: (b8, .cells [.string (str []), .int .i64 0, .slice none 0 0, .string (str []), .slice none 0 0, .slice none 0 0, .slice none 0 0].toArray 76 (0, 0)) :: (b5, .cells [.string (str (Ex.ite a d g).tree.atom), .slice (some xa) (Ex.ite a d g).tree.parts.length cc].toArray 68 (0, 0)) :: L) (fun x => HLe J0 x.2.1 ∧ GO x.2.1 (eval m a k).v x.2.2) ?_ ?_
 ·rintro ⟨b17, J1, gs⟩ ⟨e1, hg1⟩
  simp only at e1 hg1 ⊢
  obtain ⟨x1, x2, x3, x4, x5, x6, x7, x8, x9, x10, x11, x12, x13, x14, rfl⟩ := hg1.open
  have hle := hle.trans e1
  have hf := hf.mono e1
  have hk := hk.mono e1
  have hn0 := hn0.mono e1
  refine Ah (Se rfl (Om rfl ?_)); refine Dv rfl .free rfl ?_; refine Ab ?_; refine Az rfl ?_ ?_
  ·intro c7
   try simp only [nb] at c7
   have hv0 : (eval m a k).v = none := by
    cases h : (eval m a k).v with
    | none => rfl
    | some w => rw [h] at c7; cases c7
   refine Se rfl ?_; refine G5 rfl .free rfl ?_; refine By rfl rfl rfl rfl .free ?_; refine Oa rfl (Ab ?_); refine Al (.c rfl (.tmp rfl .nil)) ?_
   have hR : eval (m + 1) (Ex.ite a d g) k = (eval m a k) := by rw [Gd]; simp only [hv0]
   rw [hR]
   exact ⟨J1, _, hle, Ms (L' := (b, _) :: L), _, by rw [hv0]; rfl, hg1, rfl⟩
  intro c7
  try simp only [nb] at c7
  obtain ⟨u, hv0⟩ : ∃ w, (eval m a k).v = some w := Option.isSome_iff_exists.1 (by simpa using c7); rw [hv0] at hg1
  have hau : GVat J1 u [.string (str x1), .int .i64 x2, .slice x3 x4 x5, .string (str []), .slice x6 x7 x8, .slice x9 x10 x11, .slice x12 x13 x14] := hg1
  obtain ⟨wu, hst0⟩ := Va hkw hok.1.1 (fun y hy => hd y (List.mem_append_left _ (List.mem_append_left _ hy))) hv0
  have hl1 := Bv m a k
  have htu := Ky m a k hv0
  rw [hst0]; refine Aj (Am rfl (Om rfl ?_)); refine G5 rfl .free rfl ?_; refine Ol rfl rfl ?_; intro b107; refine D7 (B := some (b80, [])) (xs := []) (ys := [.string (str x1), .int .i64 x2, .slice x3 x4 x5, .string (str []), .slice x6 x7 x8, .slice x9 x10 x11, .slice x12 x13 x14]) (m := 0) (c := 0) Bk Ae rfl rfl ⟨rfl, Nat.le_refl _, rfl⟩ (fun _ h => h.f3) Ae (fun a ha => by cases ha; exact Cc (.head _) Ae) Ad Ae Ac Ac Aa Ac .free rfl ?_; intro bb sp c2 hB
  simp only [List.nil_append]
  refine Oa rfl (Ab (Aq ?_)); refine Cq (fun w h => (Mem.sub (L' := (bb, _) :: (b, _) :: (b8, _) :: (b5, _) :: L) Bf h).f1) ?_; refine Am rfl (Om rfl ?_); refine Or rfl rfl rfl ?_; refine C5 (t := 86) (v' := .int .i64 ((1 : Nat))) rfl Ae ?_; refine Oa rfl (Ab ?_); refine B7 ?_; refine Ah (Se rfl (Om rfl (Om rfl (On rfl (Oc rfl rfl rfl (Ab ?_)))))); refine Dw rfl A8 ?_; refine Cd rfl ?_; refine Ah ?_; refine Cq (fun w h => h.f1) (Bo ?_); intro hz
  have hq := Ba (I := J1) (b := bb) (xs := [.string (str x1), .int .i64 x2, .slice x3 x4 x5, .string (str []), .slice x6 x7 x8, .slice x9 x10 x11, .slice x12 x13 x14]) (ys := sp) (T := 76) (fr := (0, 0))
  have hle := hle.trans hz
  have hf := hf.mono hz
  have hk := hk.mono hz
  have hau := hau.mono hz
  refine Am rfl (Om rfl ?_); refine Bj rfl .free rfl ?_
  iterate 3 refine Om rfl ?_
  refine Ca rfl (Adz ihn wu hf.rep hok0 hau hq hk hkw b (eval m a k).left Aa Aa Aa (fun y hy => hd y (List.mem_append_left _ (List.mem_append_right _ hy))) (fun y hy => hd y (List.mem_append_right _ hy)) _) ?_; rintro _ J3 _ e3 ⟨gs5, rfl, hg5, rfl⟩
  have hle := hle.trans e3
  obtain ⟨_, _, _, _, _, _, _, _, _, _, _, _, _, _, rfl⟩ := hg5.open
  unfold H3
  refine Oe rfl rfl (Oe rfl rfl ?_); refine By rfl rfl rfl rfl .free ?_; refine Oa rfl (Ab ?_); refine Al (.c rfl (.tmp rfl .nil)) ?_
  have hR : eval (m + 1) (Ex.ite a d g) k = Ad2 u (eval m a k).left d g k := by rw [Gd]; simp only [hv0]; cases u <;> rfl
  rw [hR]
  exact ⟨J3, _, hle, Ms (L' := (b, _) :: L), _, rfl, hg5, rfl⟩
 ·intro hkk
  skip
  refine Da 0 rfl (Ai rfl) ?_; refine Da 1 rfl (Ap rfl) ?_; refine Dt 2 [16] rfl (Bx rfl) ?_; refine Da 3 rfl (Ai rfl) ?_; refine Da 4 rfl (Ai rfl) ?_
  first | refine Da 5 rfl (Bp rfl rfl _ rfl) ?_ | refine Da 5 rfl (Bq rfl rfl _ rfl) ?_
  refine Dt 6 [16] rfl (L5 rfl) ?_
  first | refine Da 7 rfl (Bp rfl rfl _ rfl) ?_ | refine Da 7 rfl (Bq rfl rfl _ rfl) ?_
  refine Dt 8 [16] rfl (Dz rfl) ?_; refine Da 9 rfl (Ai rfl) ?_; refine Da 10 rfl (Ai rfl) ?_; refine Jo 11 15 Af ?_ ?_
  ·skip
   first
    | (refine C4 (L' := (b, _) :: _) (fun w h => h) ?_)
    | (refine C4 (fun w h => h.f1) ?_)
    | skip
   refine Jv 11 rfl rfl rfl .free rfl (ihn m Aa (hf.as 1 a.tree Aa rfl) hok.1.1 hk hkw (fun y hy => hd y (List.mem_append_left _ (List.mem_append_left _ hy))) Aa b _) ?_; rintro _ J1 _ e1 ⟨gs, rfl, hg1, rfl⟩; obtain ⟨x1, x2, x3, x4, x5, x6, x7, x8, x9, x10, x11, x12, x13, x14, rfl⟩ := hg1.open
   unfold H3
   refine Hx ?_; refine Da 12 rfl (Ai rfl) ?_; refine Da 13 rfl (Cj rfl rfl) ?_; refine Da 14 rfl (Cj rfl rfl) ?_; refine Nm 15 rfl Af rfl .free rfl (.inr Bb) ?_; intro b17; refine Dx 16 rfl rfl rfl rfl ?_; refine Db 17 rfl (A2 rfl) ?_; refine Bg Af ?_
   exact Dl (E' := [(0, _), (2, _), (3, _), (5, _), (8, _), (14, _), (15, _), (16, _), (17, _), (18, _)]) ⟨rfl, rfl, rfl, rfl, rfl, rfl, rfl, rfl, rfl, rfl, trivial⟩ (Cq Gh (hkk ⟨b17, J1, [.string (str x1), .int .i64 x2, .slice x3 x4 x5, .string (str []), .slice x6 x7 x8, .slice x9 x10 x11, .slice x12 x13 x14]⟩ ⟨e1, hg1⟩))
  ·skip
   refine Mi 15 rfl rfl .free rfl (.inr Bb) ?_; intro b17
   first
    | (refine C4 (L' := (b, _) :: _) (fun w h => h) ?_)
    | (refine C4 (fun w h => h.f1) ?_)
    | skip
   refine Dc 11 rfl rfl (ihn m Aa (hf.as 1 a.tree Aa rfl) hok.1.1 hk hkw (fun y hy => hd y (List.mem_append_left _ (List.mem_append_left _ hy))) Aa b _) ?_; rintro _ J1 _ e1 ⟨gs, rfl, hg1, rfl⟩; obtain ⟨x1, x2, x3, x4, x5, x6, x7, x8, x9, x10, x11, x12, x13, x14, rfl⟩ := hg1.open
   unfold H3
   refine Hx ?_; refine Da 12 rfl (Ai rfl) ?_; refine Da 13 rfl (Cj rfl rfl) ?_; refine Da 14 rfl (Cj rfl rfl) ?_; refine Dx 16 rfl rfl rfl rfl ?_; refine Db 17 rfl (A2 rfl) ?_; refine Bg Af ?_
   exact Dl (E' := [(0, _), (2, _), (3, _), (5, _), (8, _), (14, _), (15, _), (16, _), (17, _), (18, _)]) ⟨rfl, rfl, rfl, rfl, rfl, rfl, rfl, rfl, rfl, rfl, trivial⟩ (Cq Gh (hkk ⟨b17, J1, [.string (str x1), .int .i64 x2, .slice x3 x4 x5, .string (str []), .slice x6 x7 x8, .slice x9 x10 x11, .slice x12 x13 x14]⟩ ⟨e1, hg1⟩))
set_option maxHeartbeats 2000000 in
theorem Abc {N : Nat} (ihn : EvG N) {z : As} {a d : Ex} {I : Heap} {cs : List Value} {k : KE} {on ov : Option Addr} {cn cv : Nat} (m : Nat) (hn : m < N) (h : Rep I (Ex.lt z a d).tree cs) (hok : (Ex.lt z a d).ok = true) (hk : GEat I k on cn ov cv) (hkw : k.wf) (hd : ∀ y ∈ (Ex.lt z a d).occ [], y ∈ k.dom) (htl : k.tall + 2 * (m + 1) ≤ 100000) (b : Nat) (L : Bl) :
  Fun Tryz.prog 54 [.pointer (some ⟨b, 0, none⟩), .agg cs.toArray, .slice on k.names.length cn, .slice ov k.names.length cv] I (H3 b (m + 1) false :: L) (Rn b (eval (m + 1) (Ex.lt z a d) k) L) := by
 obtain ⟨oa, cc, oaf, cf, rfl, hf⟩ := h.at'
 have hlen : (Ex.lt z a d).tree.parts.length = 4 := rfl
 obtain ⟨xa, rfl⟩ : ∃ xa, oa = some xa := ⟨_, D5 hf.nil (show 0 < 4 by decide)⟩
 have hat : (Ex.lt z a d).tree.atom = [] := rfl
 have hev : eag [108, 101, 116] = [2] := rfl
 have hok0 := hok
 simp only [Ex.ok, Bool.and_eq_true] at hok
 unfold H3
 refine Ao Ad ?_; refine Se rfl ?_; refine Cg rfl rfl .free rfl ?_; intro b5; refine A5 .free rfl ?_; intro b8; refine Oa rfl (Ab (Ah (Se rfl (Om rfl ?_)))); refine Au rfl .free rfl ?_
 first | refine Oh rfl ?_ | refine Oj rfl ?_
 refine G5 rfl .free rfl ?_; refine Oc rfl rfl rfl (Ab ?_)
 first | refine Sf rfl Aa ?_ | refine At Ak ?_
 refine Aj (Se rfl (Om rfl (Om rfl ?_))); refine Au rfl .free rfl ?_
 first | refine Oh rfl ?_ | refine Oj rfl ?_
 refine G5 rfl .free rfl ?_; refine Or rfl rfl rfl ?_; refine C5 (t := 30) (v' := .int .i64 (m : Nat)) rfl Eb ?_; refine Au rfl .free rfl ?_
 first | refine Oh rfl ?_ | refine Oj rfl ?_
 refine By rfl rfl rfl rfl .free ?_; refine Ab (Ah (Se rfl (Oh rfl ?_))); refine A9 rfl .free rfl ?_; refine Od rfl rfl rfl (Ab ?_)
 first | refine Ej rfl (by simp [hat]) ?_ | refine Ei rfl (by simp [hat]) ?_ | refine At Ak ?_
 refine Aj (Se rfl (Oh rfl ?_)); refine A9 rfl .free rfl ?_
 first | refine Bh rfl rfl 0 rfl .free rfl ?_ | refine Bi rfl rfl 0 rfl .free rfl ?_
 refine Be rfl .free rfl ?_; refine Gf rfl .free rfl ?_; refine C5 (t := 71) (v' := .string (str [108, 101, 116])) rfl rfl ?_; refine Oa rfl (Ab (Ah (Se rfl (Om rfl (Od rfl rfl rfl (Ab ?_))))))
 first | refine Sf rfl Ac ?_ | refine At Ak ?_
 refine Aj (Se rfl (Om rfl ?_)); refine Ca rfl (Mf [108, 101, 116] _ _) ?_; rintro _ J0 _ e0 ⟨oq, ck, rfl, hn0, rfl⟩
 have hle := e0
 have hf := hf.mono e0
 have hk := hk.mono e0
 rw [hev] at hn0; rw [hev]; refine Oa rfl (Ab (Se rfl ?_)); refine Eh .free rfl ?_; intro b80; refine Oa rfl (Ab (Ah (Ah ?_))); refine Cq (fun w h => h.f3) ?_; refine Am rfl (Oa rfl (Ab (Ar ?_))); refine Ek ?_; refine Ah (Se rfl (Om rfl (Om rfl (On rfl (Oc rfl rfl rfl (Ab ?_)))))); refine B9 rfl A8 ?_; refine Aj (Ah (Ar (Ah ?_))); refine H5 18 rfl rfl ?_
 refine Qf (X := Nat × Heap × List Value) (fun x => [(0, .pointer (some ⟨b, 0, none⟩)), (2, .slice on k.names.length cn), (3, .slice ov k.names.length cv), (5, .pointer (some ⟨b5, 0, none⟩)), (8, .pointer (some ⟨b8, 0, none⟩)), (14, .slice oq [2].length ck), (15, .slice (some ⟨b80, 0, none⟩) 0 0), (16, .int .i64 0), (17, .pointer (some ⟨x.1, 0, none⟩)), (18, .bool (eval m a k).v.isSome)]) (fun x => x.2.1) (fun x => (x.1, .cells x.2.2.toArray 76 (0, 0)) :: (b, .cells [.int .i64 ((eval m a k).left : Nat), .bool (eval m a k).stuck].toArray 73 (0, 0)) :: (b80, .cells [].toArray 76 (0, 0)) :: (b8, .cells [.string (str []), .int .i64 0, .slice none 0 0, .string (str []), .slice none 0 0, .slice none 0 0, .slice none 0 0].toArray 76 (0, 0)) :: (b5, .cells [.string (str (Ex.lt z a d).tree.atom), .slice (some xa) (Ex.lt z a d).tree.parts.length cc].toArray 68 (0, 0)) :: L) (fun x => HLe J0 x.2.1 ∧ GO x.2.1 (eval m a k).v x.2.2) ?_ ?_
 ·rintro ⟨b17, J1, gs⟩ ⟨e1, hg1⟩
  simp only at e1 hg1 ⊢
  obtain ⟨x1, x2, x3, x4, x5, x6, x7, x8, x9, x10, x11, x12, x13, x14, rfl⟩ := hg1.open
  have hle := hle.trans e1
  have hf := hf.mono e1
  have hk := hk.mono e1
  have hn0 := hn0.mono e1
  refine Ah (Se rfl (Om rfl ?_)); refine Dv rfl .free rfl ?_; refine Ab ?_; refine Az rfl ?_ ?_
  ·intro c7
   try simp only [nb] at c7
   have hv0 : (eval m a k).v = none := by
    cases h : (eval m a k).v with
    | none => rfl
    | some w => rw [h] at c7; cases c7
   refine Se rfl ?_; refine G5 rfl .free rfl ?_; refine By rfl rfl rfl rfl .free ?_; refine Oa rfl (Ab ?_); refine Al (.c rfl (.tmp rfl .nil)) ?_
   have hR : eval (m + 1) (Ex.lt z a d) k = (eval m a k) := by rw [Hf]; simp only [hv0]
   rw [hR]
   exact ⟨J1, _, hle, Ms (L' := (b, _) :: L), _, by rw [hv0]; rfl, hg1, rfl⟩
  intro c7
  try simp only [nb] at c7
  obtain ⟨u, hv0⟩ : ∃ w, (eval m a k).v = some w := Option.isSome_iff_exists.1 (by simpa using c7); rw [hv0] at hg1
  have hau : GVat J1 u [.string (str x1), .int .i64 x2, .slice x3 x4 x5, .string (str []), .slice x6 x7 x8, .slice x9 x10 x11, .slice x12 x13 x14] := hg1
  obtain ⟨wu, hst0⟩ := Va hkw hok.1.2 (fun y hy => hd y (List.mem_append_left _ hy)) hv0
  have hl1 := Bv m a k
  have htu := Ky m a k hv0
  rw [hst0]; refine Aj (Am rfl (Om rfl ?_)); refine G5 rfl .free rfl ?_; refine Ol rfl rfl ?_; intro b107; refine D7 (B := some (b80, [])) (xs := []) (ys := [.string (str x1), .int .i64 x2, .slice x3 x4 x5, .string (str []), .slice x6 x7 x8, .slice x9 x10 x11, .slice x12 x13 x14]) (m := 0) (c := 0) Bk Ae rfl rfl ⟨rfl, Nat.le_refl _, rfl⟩ (fun _ h => h.f3) Ae (fun a ha => by cases ha; exact Cc (.head _) Ae) Ad Ae Ac Ac Aa Ac .free rfl ?_; intro bb sp c2 hB
  simp only [List.nil_append]
  refine Oa rfl (Ab (Aq ?_)); refine Cq (fun w h => (Mem.sub (L' := (bb, _) :: (b, _) :: (b8, _) :: (b5, _) :: L) Bf h).f1) ?_; refine Am rfl (Om rfl ?_); refine Or rfl rfl rfl ?_; refine C5 (t := 86) (v' := .int .i64 ((1 : Nat))) rfl Ae ?_; refine Oa rfl (Ab ?_); refine B7 ?_; refine Ah (Se rfl (Om rfl (Om rfl (On rfl (Oc rfl rfl rfl (Ab ?_)))))); refine Dw rfl A8 ?_; refine Cd rfl ?_; refine Ah ?_; refine Cq (fun w h => h.f1) (Bo ?_); intro hz
  have hq := Ba (I := J1) (b := bb) (xs := [.string (str x1), .int .i64 x2, .slice x3 x4 x5, .string (str []), .slice x6 x7 x8, .slice x9 x10 x11, .slice x12 x13 x14]) (ys := sp) (T := 76) (fr := (0, 0))
  have hle := hle.trans hz
  have hf := hf.mono hz
  have hk := hk.mono hz
  have hau := hau.mono hz
  have hdm : ∀ y ∈ d.occ [], y ∈ (KE.cons z u k).dom := fun y hy => by
   simp only [KE.dom, List.mem_cons]
   by_cases hyx : y = z
   ·exact .inl hyx
   ·exact .inr (hd y (List.mem_append_right _ (show y ∈ d.occ ([] ++ [z]) from Ex.occ_mem.2 ⟨hy, by simpa using hyx⟩)))
  refine Am rfl (Om rfl ?_); refine Bj rfl .free rfl ?_
  iterate 3 refine Om rfl ?_
  refine Ca rfl (Ad0 hok0 wu hf.rep hau hq ihn hk hkw b (eval m a k).left Aa Aa Aa hdm (by simp only [KE.tall]; omega) _) ?_; rintro _ J3 _ e3 ⟨gs5, rfl, hg5, rfl⟩
  have hle := hle.trans e3
  obtain ⟨_, _, _, _, _, _, _, _, _, _, _, _, _, _, rfl⟩ := hg5.open
  unfold H3
  refine Oe rfl rfl (Oe rfl rfl ?_); refine By rfl rfl rfl rfl .free ?_; refine Oa rfl (Ab ?_); refine Al (.c rfl (.tmp rfl .nil)) ?_
  have hR : eval (m + 1) (Ex.lt z a d) k = eval (eval m a k).left d (.cons z u k) := by rw [Hf]; simp only [hv0]
  rw [hR]
  exact ⟨J3, _, hle, Ms (L' := (b, _) :: L), _, rfl, hg5, rfl⟩
 ·intro hkk
  skip
  refine Da 0 rfl (Ai rfl) ?_; refine Da 1 rfl (Ap rfl) ?_; refine Dt 2 [16] rfl (Bx rfl) ?_; refine Da 3 rfl (Ai rfl) ?_; refine Da 4 rfl (Ai rfl) ?_
  first | refine Da 5 rfl (Bp rfl rfl _ rfl) ?_ | refine Da 5 rfl (Bq rfl rfl _ rfl) ?_
  refine Dt 6 [16] rfl (L5 rfl) ?_
  first | refine Da 7 rfl (Bp rfl rfl _ rfl) ?_ | refine Da 7 rfl (Bq rfl rfl _ rfl) ?_
  refine Dt 8 [16] rfl (Dz rfl) ?_; refine Da 9 rfl (Ai rfl) ?_; refine Da 10 rfl (Ai rfl) ?_; refine Jo 11 15 Af ?_ ?_
  ·skip
   first
    | (refine C4 (L' := (b, _) :: _) (fun w h => h) ?_)
    | (refine C4 (fun w h => h.f1) ?_)
    | skip
   refine Jv 11 rfl rfl rfl .free rfl (ihn m Aa (hf.as 2 a.tree Aa rfl) hok.1.2 hk hkw (fun y hy => hd y (List.mem_append_left _ hy)) Aa b _) ?_; rintro _ J1 _ e1 ⟨gs, rfl, hg1, rfl⟩; obtain ⟨x1, x2, x3, x4, x5, x6, x7, x8, x9, x10, x11, x12, x13, x14, rfl⟩ := hg1.open
   unfold H3
   refine Hx ?_; refine Da 12 rfl (Ai rfl) ?_; refine Da 13 rfl (Cj rfl rfl) ?_; refine Da 14 rfl (Cj rfl rfl) ?_; refine Nm 15 rfl Af rfl .free rfl (.inr Bb) ?_; intro b17; refine Dx 16 rfl rfl rfl rfl ?_; refine Db 17 rfl (A2 rfl) ?_; refine Bg Af ?_
   exact Dl (E' := [(0, _), (2, _), (3, _), (5, _), (8, _), (14, _), (15, _), (16, _), (17, _), (18, _)]) ⟨rfl, rfl, rfl, rfl, rfl, rfl, rfl, rfl, rfl, rfl, trivial⟩ (Cq Gh (hkk ⟨b17, J1, [.string (str x1), .int .i64 x2, .slice x3 x4 x5, .string (str []), .slice x6 x7 x8, .slice x9 x10 x11, .slice x12 x13 x14]⟩ ⟨e1, hg1⟩))
  ·skip
   refine Mi 15 rfl rfl .free rfl (.inr Bb) ?_; intro b17
   first
    | (refine C4 (L' := (b, _) :: _) (fun w h => h) ?_)
    | (refine C4 (fun w h => h.f1) ?_)
    | skip
   refine Dc 11 rfl rfl (ihn m Aa (hf.as 2 a.tree Aa rfl) hok.1.2 hk hkw (fun y hy => hd y (List.mem_append_left _ hy)) Aa b _) ?_; rintro _ J1 _ e1 ⟨gs, rfl, hg1, rfl⟩; obtain ⟨x1, x2, x3, x4, x5, x6, x7, x8, x9, x10, x11, x12, x13, x14, rfl⟩ := hg1.open
   unfold H3
   refine Hx ?_; refine Da 12 rfl (Ai rfl) ?_; refine Da 13 rfl (Cj rfl rfl) ?_; refine Da 14 rfl (Cj rfl rfl) ?_; refine Dx 16 rfl rfl rfl rfl ?_; refine Db 17 rfl (A2 rfl) ?_; refine Bg Af ?_
   exact Dl (E' := [(0, _), (2, _), (3, _), (5, _), (8, _), (14, _), (15, _), (16, _), (17, _), (18, _)]) ⟨rfl, rfl, rfl, rfl, rfl, rfl, rfl, rfl, rfl, rfl, trivial⟩ (Cq Gh (hkk ⟨b17, J1, [.string (str x1), .int .i64 x2, .slice x3 x4 x5, .string (str []), .slice x6 x7 x8, .slice x9 x10 x11, .slice x12 x13 x14]⟩ ⟨e1, hg1⟩))
set_option maxHeartbeats 2000000 in
theorem Abd {N : Nat} (ihn : EvG N) {o : U2} {a : Ex} {I : Heap} {cs : List Value} {k : KE} {on ov : Option Addr} {cn cv : Nat} (m : Nat) (hn : m < N) (h : Rep I (Ex.un o a).tree cs) (hok : (Ex.un o a).ok = true) (hk : GEat I k on cn ov cv) (hkw : k.wf) (hd : ∀ y ∈ (Ex.un o a).occ [], y ∈ k.dom) (htl : k.tall + 2 * (m + 1) ≤ 100000) (b : Nat) (L : Bl) :
  Fun Tryz.prog 54 [.pointer (some ⟨b, 0, none⟩), .agg cs.toArray, .slice on k.names.length cn, .slice ov k.names.length cv] I (H3 b (m + 1) false :: L) (Rn b (eval (m + 1) (Ex.un o a) k) L) := by
 obtain ⟨oa, cc, oaf, cf, rfl, hf⟩ := h.at'
 have hlen : (Ex.un o a).tree.parts.length = 2 := rfl
 obtain ⟨xa, rfl⟩ : ∃ xa, oa = some xa := ⟨_, D5 hf.nil (show 0 < 2 by decide)⟩
 have hat : (Ex.un o a).tree.atom = [] := rfl
 have hev : eag o.txt = [1] := by cases o <;> rfl
 have hok0 := hok
 simp only [Ex.ok, Bool.and_eq_true] at hok
 unfold H3
 refine Ao Ad ?_; refine Se rfl ?_; refine Cg rfl rfl .free rfl ?_; intro b5; refine A5 .free rfl ?_; intro b8; refine Oa rfl (Ab (Ah (Se rfl (Om rfl ?_)))); refine Au rfl .free rfl ?_
 first | refine Oh rfl ?_ | refine Oj rfl ?_
 refine G5 rfl .free rfl ?_; refine Oc rfl rfl rfl (Ab ?_)
 first | refine Sf rfl Aa ?_ | refine At Ak ?_
 refine Aj (Se rfl (Om rfl (Om rfl ?_))); refine Au rfl .free rfl ?_
 first | refine Oh rfl ?_ | refine Oj rfl ?_
 refine G5 rfl .free rfl ?_; refine Or rfl rfl rfl ?_; refine C5 (t := 30) (v' := .int .i64 (m : Nat)) rfl Eb ?_; refine Au rfl .free rfl ?_
 first | refine Oh rfl ?_ | refine Oj rfl ?_
 refine By rfl rfl rfl rfl .free ?_; refine Ab (Ah (Se rfl (Oh rfl ?_))); refine A9 rfl .free rfl ?_; refine Od rfl rfl rfl (Ab ?_)
 first | refine Ej rfl (by simp [hat]) ?_ | refine Ei rfl (by simp [hat]) ?_ | refine At Ak ?_
 refine Aj (Se rfl (Oh rfl ?_)); refine A9 rfl .free rfl ?_
 first | refine Bh rfl rfl 0 rfl .free rfl ?_ | refine Bi rfl rfl 0 rfl .free rfl ?_
 refine Be rfl .free rfl ?_; refine Gf rfl .free rfl ?_; refine C5 (t := 71) (v' := .string (str o.txt)) rfl rfl ?_; refine Oa rfl (Ab (Ah (Se rfl (Om rfl (Od rfl rfl rfl (Ab ?_))))))
 first | refine Ej rfl (o.txt_ne.2.2.1) ?_ | refine Ei rfl (o.txt_ne.2.2.1) ?_ | refine At Ak ?_
 refine Aj (Se rfl (Om rfl ?_)); refine Ca rfl (Mf o.txt _ _) ?_; rintro _ J0 _ e0 ⟨oq, ck, rfl, hn0, rfl⟩
 have hle := e0
 have hf := hf.mono e0
 have hk := hk.mono e0
 rw [hev] at hn0; rw [hev]; refine Oa rfl (Ab (Se rfl ?_)); refine Eh .free rfl ?_; intro b80; refine Oa rfl (Ab (Ah (Ah ?_))); refine Cq (fun w h => h.f3) ?_; refine Am rfl (Oa rfl (Ab (Ar ?_))); refine Ek ?_; refine Ah (Se rfl (Om rfl (Om rfl (On rfl (Oc rfl rfl rfl (Ab ?_)))))); refine B9 rfl A8 ?_; refine Aj (Ah (Ar (Ah ?_))); refine H5 18 rfl rfl ?_
 refine Qf (X := Nat × Heap × List Value) (fun x => [(0, .pointer (some ⟨b, 0, none⟩)), (2, .slice on k.names.length cn), (3, .slice ov k.names.length cv), (5, .pointer (some ⟨b5, 0, none⟩)), (8, .pointer (some ⟨b8, 0, none⟩)), (14, .slice oq [1].length ck), (15, .slice (some ⟨b80, 0, none⟩) 0 0), (16, .int .i64 0), (17, .pointer (some ⟨x.1, 0, none⟩)), (18, .bool (eval m a k).v.isSome)]) (fun x => x.2.1) (fun x => (x.1, .cells x.2.2.toArray 76 (0, 0)) :: (b, .cells [.int .i64 ((eval m a k).left : Nat), .bool (eval m a k).stuck].toArray 73 (0, 0)) :: (b80, .cells [].toArray 76 (0, 0)) :: (b8, .cells [.string (str []), .int .i64 0, .slice none 0 0, .string (str []), .slice none 0 0, .slice none 0 0, .slice none 0 0].toArray 76 (0, 0)) :: (b5, .cells [.string (str (Ex.un o a).tree.atom), .slice (some xa) (Ex.un o a).tree.parts.length cc].toArray 68 (0, 0)) :: L) (fun x => HLe J0 x.2.1 ∧ GO x.2.1 (eval m a k).v x.2.2) ?_ ?_
 ·rintro ⟨b17, J1, gs⟩ ⟨e1, hg1⟩
  simp only at e1 hg1 ⊢
  obtain ⟨x1, x2, x3, x4, x5, x6, x7, x8, x9, x10, x11, x12, x13, x14, rfl⟩ := hg1.open
  have hle := hle.trans e1
  have hf := hf.mono e1
  have hk := hk.mono e1
  have hn0 := hn0.mono e1
  refine Ah (Se rfl (Om rfl ?_)); refine Dv rfl .free rfl ?_; refine Ab ?_; refine Az rfl ?_ ?_
  ·intro c7
   try simp only [nb] at c7
   have hv0 : (eval m a k).v = none := by
    cases h : (eval m a k).v with
    | none => rfl
    | some w => rw [h] at c7; cases c7
   refine Se rfl ?_; refine G5 rfl .free rfl ?_; refine By rfl rfl rfl rfl .free ?_; refine Oa rfl (Ab ?_); refine Al (.c rfl (.tmp rfl .nil)) ?_
   have hR : eval (m + 1) (Ex.un o a) k = (eval m a k) := by rw [Hg]; simp only [hv0]
   rw [hR]
   exact ⟨J1, _, hle, Ms (L' := (b, _) :: L), _, by rw [hv0]; rfl, hg1, rfl⟩
  intro c7
  try simp only [nb] at c7
  obtain ⟨u, hv0⟩ : ∃ w, (eval m a k).v = some w := Option.isSome_iff_exists.1 (by simpa using c7); rw [hv0] at hg1
  have hau : GVat J1 u [.string (str x1), .int .i64 x2, .slice x3 x4 x5, .string (str []), .slice x6 x7 x8, .slice x9 x10 x11, .slice x12 x13 x14] := hg1
  obtain ⟨wu, hst0⟩ := Va hkw hok (fun y hy => hd y hy) hv0
  have hl1 := Bv m a k
  have htu := Ky m a k hv0
  rw [hst0]; refine Aj (Am rfl (Om rfl ?_)); refine G5 rfl .free rfl ?_; refine Ol rfl rfl ?_; intro b107; refine D7 (B := some (b80, [])) (xs := []) (ys := [.string (str x1), .int .i64 x2, .slice x3 x4 x5, .string (str []), .slice x6 x7 x8, .slice x9 x10 x11, .slice x12 x13 x14]) (m := 0) (c := 0) Bk Ae rfl rfl ⟨rfl, Nat.le_refl _, rfl⟩ (fun _ h => h.f3) Ae (fun a ha => by cases ha; exact Cc (.head _) Ae) Ad Ae Ac Ac Aa Ac .free rfl ?_; intro bb sp c2 hB
  simp only [List.nil_append]
  refine Oa rfl (Ab (Aq ?_)); refine Cq (fun w h => (Mem.sub (L' := (bb, _) :: (b, _) :: (b8, _) :: (b5, _) :: L) Bf h).f1) ?_; refine Am rfl (Om rfl ?_); refine Or rfl rfl rfl ?_; refine C5 (t := 86) (v' := .int .i64 ((1 : Nat))) rfl Ae ?_; refine Oa rfl (Ab ?_); refine B7 ?_; refine Ah (Se rfl (Om rfl (Om rfl (On rfl (Oc rfl rfl rfl (Ab ?_)))))); refine Dw rfl A8 ?_; refine Cd rfl ?_; refine Ah ?_; refine Cq (fun w h => h.f1) (Bo ?_); intro hz
  have hq := Ba (I := J1) (b := bb) (xs := [.string (str x1), .int .i64 x2, .slice x3 x4 x5, .string (str []), .slice x6 x7 x8, .slice x9 x10 x11, .slice x12 x13 x14]) (ys := sp) (T := 76) (fr := (0, 0))
  have hle := hle.trans hz
  have hf := hf.mono hz
  have hk := hk.mono hz
  have hau := hau.mono hz
  refine Am rfl (Om rfl ?_); refine Bj rfl .free rfl ?_
  iterate 3 refine Om rfl ?_
  refine Ca rfl (Ad1 hf.rep hau hq b (eval m a k).left Aa _) ?_; rintro _ J3 _ e3 ⟨gs5, rfl, hg5, rfl⟩
  have hle := hle.trans e3
  obtain ⟨_, _, _, _, _, _, _, _, _, _, _, _, _, _, rfl⟩ := hg5.open
  unfold H3
  refine Oe rfl rfl (Oe rfl rfl ?_); refine By rfl rfl rfl rfl .free ?_; refine Oa rfl (Ab ?_); refine Al (.c rfl (.tmp rfl .nil)) ?_
  have hR : eval (m + 1) (Ex.un o a) k = Res.of (o.act u) (eval m a k).left := by rw [Hg]; simp only [hv0]
  rw [hR]
  exact ⟨J3, _, hle, Ms (L' := (b, _) :: L), _, rfl, hg5, rfl⟩
 ·intro hkk
  skip
  refine Da 0 rfl (Ai rfl) ?_; refine Da 1 rfl (Ap rfl) ?_; refine Dt 2 [16] rfl (Bx rfl) ?_; refine Da 3 rfl (Ai rfl) ?_; refine Da 4 rfl (Ai rfl) ?_
  first | refine Da 5 rfl (Bp rfl rfl _ rfl) ?_ | refine Da 5 rfl (Bq rfl rfl _ rfl) ?_
  refine Dt 6 [16] rfl (L5 rfl) ?_
  first | refine Da 7 rfl (Bp rfl rfl _ rfl) ?_ | refine Da 7 rfl (Bq rfl rfl _ rfl) ?_
  refine Dt 8 [16] rfl (Dz rfl) ?_; refine Da 9 rfl (Ai rfl) ?_; refine Da 10 rfl (Ai rfl) ?_; refine Jo 11 15 Af ?_ ?_
  ·skip
   first
    | (refine C4 (L' := (b, _) :: _) (fun w h => h) ?_)
    | (refine C4 (fun w h => h.f1) ?_)
    | skip
   refine Jv 11 rfl rfl rfl .free rfl (ihn m Aa (hf.as 1 a.tree Aa rfl) hok hk hkw (fun y hy => hd y hy) Aa b _) ?_; rintro _ J1 _ e1 ⟨gs, rfl, hg1, rfl⟩; obtain ⟨x1, x2, x3, x4, x5, x6, x7, x8, x9, x10, x11, x12, x13, x14, rfl⟩ := hg1.open
   unfold H3
   refine Hx ?_; refine Da 12 rfl (Ai rfl) ?_; refine Da 13 rfl (Cj rfl rfl) ?_; refine Da 14 rfl (Cj rfl rfl) ?_; refine Nm 15 rfl Af rfl .free rfl (.inr Bb) ?_; intro b17; refine Dx 16 rfl rfl rfl rfl ?_; refine Db 17 rfl (A2 rfl) ?_; refine Bg Af ?_
   exact Dl (E' := [(0, _), (2, _), (3, _), (5, _), (8, _), (14, _), (15, _), (16, _), (17, _), (18, _)]) ⟨rfl, rfl, rfl, rfl, rfl, rfl, rfl, rfl, rfl, rfl, trivial⟩ (Cq Gh (hkk ⟨b17, J1, [.string (str x1), .int .i64 x2, .slice x3 x4 x5, .string (str []), .slice x6 x7 x8, .slice x9 x10 x11, .slice x12 x13 x14]⟩ ⟨e1, hg1⟩))
  ·skip
   refine Mi 15 rfl rfl .free rfl (.inr Bb) ?_; intro b17
   first
    | (refine C4 (L' := (b, _) :: _) (fun w h => h) ?_)
    | (refine C4 (fun w h => h.f1) ?_)
    | skip
   refine Dc 11 rfl rfl (ihn m Aa (hf.as 1 a.tree Aa rfl) hok hk hkw (fun y hy => hd y hy) Aa b _) ?_; rintro _ J1 _ e1 ⟨gs, rfl, hg1, rfl⟩; obtain ⟨x1, x2, x3, x4, x5, x6, x7, x8, x9, x10, x11, x12, x13, x14, rfl⟩ := hg1.open
   unfold H3
   refine Hx ?_; refine Da 12 rfl (Ai rfl) ?_; refine Da 13 rfl (Cj rfl rfl) ?_; refine Da 14 rfl (Cj rfl rfl) ?_; refine Dx 16 rfl rfl rfl rfl ?_; refine Db 17 rfl (A2 rfl) ?_; refine Bg Af ?_
   exact Dl (E' := [(0, _), (2, _), (3, _), (5, _), (8, _), (14, _), (15, _), (16, _), (17, _), (18, _)]) ⟨rfl, rfl, rfl, rfl, rfl, rfl, rfl, rfl, rfl, rfl, trivial⟩ (Cq Gh (hkk ⟨b17, J1, [.string (str x1), .int .i64 x2, .slice x3 x4 x5, .string (str []), .slice x6 x7 x8, .slice x9 x10 x11, .slice x12 x13 x14]⟩ ⟨e1, hg1⟩))
theorem Zi : ∀ N : Nat, EvG N := by
 intro N
 induction N with
 | zero => intro I e cs k on ov cn cv n hn; omega
 | succ N ihn =>
  intro I e cs k on ov cn cv n hn h hok hk hkw hd htl b L
  cases n with
  | zero => exact Xg h b L
  | succ m =>
   cases e with
   | num s => exact Zl (N := N) m Aa h hok hk hkw hd htl b L
   | name s => exact Xf (N := N) m Aa h hok hk hkw hd htl b L
   | fn f x s t bd => exact Abb (N := N) m Aa h hok hk hkw hd htl b L
   | bin o a d => exact Zj ihn m Aa h hok hk hkw hd htl b L
   | ite a d g => exact Zk ihn m Aa h hok hk hkw hd htl b L
   | lt z a d => exact Abc ihn m Aa h hok hk hkw hd htl b L
   | un o a => exact Abd ihn m Aa h hok hk hkw hd htl b L
theorem tri (s : As) : (E2 s = none ∧ Cu s = none) ∨ (∃ e, E2 s = some e ∧ Cu s = none) ∨ (∃ e, E2 s = some e ∧ Cu s = some e) := by
 cases hx : E2 s with
 | none => exact .inl ⟨rfl, by unfold Cu; rw [hx]⟩
 | some e =>
  cases hc : Cu s with
  | none => exact .inr (.inl ⟨e, rfl, rfl⟩)
  | some e2 =>
   obtain rfl := Option.some.inj ((Kn hc).1.symm.trans hx)
   exact .inr (.inr ⟨e2, rfl, rfl⟩)
theorem Ac2 (I : Heap) (a b : Addr) : GEat I .nil (some a) 0 (some b) 0 := .mk (Hp _ _) .nil (fun x _ => .inl rfl) (fun h => by cases h) (Nat.le_refl 0)
theorem Adu (s : As) (hs : s.length ≤ Kr) (n : Int) (I : Heap) (L : Bl) : Fun Tryz.prog 16 [.string (str s), .int .i64 n] I L (MN (F5 s n) L) := by
 refine Ao Ad ?_; refine Se rfl ?_
 iterate 3 refine Oa rfl ?_
 refine Ab (Se rfl (Om rfl ?_)); refine Ca rfl (M3 s hs _ _) ?_; rintro _ J _ hleJ ⟨t, cs, ok, rfl, hrep, rfl, hpf⟩; obtain ⟨oc, cc, _, rfl, -⟩ := hrep.open; refine Om rfl (Oe rfl rfl (Oe rfl rfl ?_)); refine A5 .free rfl ?_; intro b7; refine By rfl rfl rfl rfl .free ?_; refine Oa rfl (Ab (Ah (Ah ?_)))
 rcases tri s with ⟨hx, hc⟩ | ⟨e, hx, hc⟩ | ⟨e, hx, hc⟩
 ·skip
  rw [hx] at hpf; obtain rfl := hpf; refine Am rfl (Om rfl ?_); refine Dv rfl .free rfl ?_; refine Om rfl ?_; refine C5 (t := 19) rfl (v' := .bool true) Gz ?_
  iterate 3 refine Ce rfl rfl rfl ?_
  refine Ot rfl rfl (Om rfl ?_)
  iterate 3 refine Ce rfl rfl rfl ?_
  refine Ot rfl rfl (Ab ?_); refine Br rfl ?_; refine Se rfl ?_
  iterate 3 refine Oa rfl ?_
  refine Ab ?_; refine Al (.tmp rfl (.tmp rfl (.tmp rfl .nil))) ?_
  exact ⟨J, L, hleJ, Cb, by rw [Jr (.inl hc)]; rfl, rfl⟩
 ·skip
  rw [hx] at hpf; obtain ⟨rfl, rfl⟩ := hpf; refine Am rfl (Om rfl ?_); refine Dv rfl .free rfl ?_; refine Om rfl ?_; refine C5 (t := 19) rfl (v' := .bool false) Gz ?_; refine Ow rfl ?_; refine C1 rfl (.met rfl rfl) rfl (Nt s hs _ _) ?_; rintro _ _ _ _ ⟨rfl, rfl, rfl⟩; rw [hc]; refine Dv rfl (.met rfl rfl) rfl ?_; refine Of rfl rfl (Om rfl ?_); refine C5 (t := 24) rfl (v' := .bool true) Gz ?_
  iterate 3 refine Ce rfl rfl rfl ?_
  refine Ot rfl rfl (Ab ?_); refine Br rfl ?_; refine Se rfl ?_
  iterate 3 refine Oa rfl ?_
  refine Ab ?_; refine Al (.tmp rfl (.tmp rfl (.tmp rfl .nil))) ?_
  exact ⟨J, L, hleJ, Cb, by rw [Jr (.inl hc)]; rfl, rfl⟩
 ·skip
  rw [hx] at hpf; obtain ⟨rfl, rfl⟩ := hpf; obtain ⟨-, hok, hz, hl, hcl⟩ := Gp hc
  have hoe : e.occ [] = [] := by simpa [Ex.closed] using hcl
  refine Am rfl (Om rfl ?_); refine Dv rfl .free rfl ?_; refine Om rfl ?_; refine C5 (t := 19) rfl (v' := .bool false) Gz ?_; refine Ow rfl ?_; refine C1 rfl (.met rfl rfl) rfl (Nt s hs _ _) ?_; rintro _ _ _ _ ⟨rfl, rfl, rfl⟩; rw [hc]; refine Dv rfl (.met rfl rfl) rfl ?_; refine Of rfl rfl (Om rfl ?_); refine C5 (t := 24) rfl (v' := .bool false) Gz ?_; refine Ow rfl ?_; refine C1 rfl (.met rfl rfl) rfl (Qz 0 n 2000 _ _) ?_; rintro _ _ _ _ ⟨rfl, rfl, rfl⟩; refine Dv rfl (.met rfl rfl) rfl ?_; refine Of rfl rfl (Ab ?_); refine Az rfl ?_ ?_
  ·intro c0
   try simp only [nb] at c0
   refine Se rfl ?_
   iterate 3 refine Oa rfl ?_
   refine Ab ?_; refine Al (.tmp rfl (.tmp rfl (.tmp rfl .nil))) ?_
   exact ⟨J, L, hleJ, Cb, by rw [Jr (.inr Ev)]; rfl, rfl⟩
  intro c0
  try simp only [nb] at c0
  obtain ⟨N, rfl⟩ : ∃ N : Nat, n = (N : Nat) := ⟨n.toNat, by omega⟩
  have hN : N ≤ 2000 := by omega
  have hme := Ic hc hN
  have hle := Bv N e .nil
  have hhi := fun w (h : (eval N e .nil).v = some w) => R6 N e .nil h
  refine Aj (Se rfl (Om rfl ?_)); refine Cp rfl rfl rfl .free rfl ?_; refine Cg rfl rfl .free rfl ?_; intro b31; refine Oa rfl (Ab (Se rfl (Om rfl ?_))); refine Bj rfl .free rfl ?_; refine Eh .free rfl ?_; intro b35; refine Eh .free rfl ?_; intro b36; refine Fc (fun w h => h.f2) ?_; refine Ca rfl (Zi (N + 1) N (Nat.lt_succ_self N) hrep hok (Ac2 J ⟨b35, 0, none⟩ ⟨b36, 0, none⟩) trivial (fun y hy => by rw [hoe] at hy; cases hy) (by simp only [KE.tall]; omega) b31 _) ?_; rintro _ J2 _ e2 ⟨gs, rfl, hg, rfl⟩; obtain ⟨x1, x2, x3, x4, x5, x6, x7, x8, x9, x10, x11, x12, x13, x14, rfl⟩ := hg.open
  unfold H3
  have hle2 := hleJ.trans e2
  refine Om rfl (Oe rfl rfl (Oe rfl rfl ?_)); refine A5 .free rfl ?_; intro b10; refine By rfl rfl rfl rfl .free ?_; refine Oa rfl (Ab (Ah (Ah ?_)))
  rcases hv : (eval N e .nil).v with _ | w
  ·skip
   rw [hv] at hg; refine Am rfl (Om rfl ?_); refine Dv rfl .free rfl ?_; refine Om rfl ?_; refine C5 (t := 42) rfl (v' := .bool true) Gz ?_
   iterate 3 refine Ce rfl rfl rfl ?_
   refine Ot rfl rfl (Ab ?_); refine Br rfl ?_; refine Se rfl ?_
   iterate 3 refine Oa rfl ?_
   refine Ab ?_; refine Al (.tmp rfl (.tmp rfl (.tmp rfl .nil))) ?_
   exact ⟨J2, L, hle2, Ms (L' := L), by rw [hme, Tn hv]; rfl, rfl⟩
  ·skip
   rw [hv] at hg
   have hw : GVat J2 w _ := hg
   obtain ⟨hwf, -⟩ := Res.says.some hv (Km hc N)
   have hhi := hhi w hv
   simp only [KE.high] at hhi
   refine Am rfl (Om rfl ?_); refine Dv rfl .free rfl ?_; refine Om rfl ?_; refine C5 (t := 42) rfl (v' := .bool false) Gz ?_; refine Bj rfl (.met rfl rfl) rfl ?_; refine C1 rfl (.met rfl rfl) rfl (Aa4 _ 12000 (Nat.lt_succ_self _) hw hwf Aa Aa Aa _) ?_; rintro _ J3 _ e3 ⟨r, rfl, hr1, hr2, hr3, rfl⟩
   have hle2 := hle2.trans e3
   have hw := hw.mono e3
   refine Dj rfl rfl rfl (.met rfl rfl) rfl ?_; refine Of rfl rfl (Ab ?_); refine Az rfl ?_ ?_
   ·intro c1
    try simp only [nb] at c1
    have hno : ¬ w.show.length ≤ 12000 := fun h => by
     have := hr2 Aa
     omega
    refine Se rfl ?_
    iterate 3 refine Oa rfl ?_
    refine Ab ?_; refine Al (.tmp rfl (.tmp rfl (.tmp rfl .nil))) ?_
    exact ⟨J3, L, hle2, Ms (L' := L), by rw [hme]; unfold Kx; rw [hv]; simp only; rw [if_neg hno]; rfl, rfl⟩
   intro c1
   try simp only [nb] at c1
   have hsl : w.show.length ≤ 12000 := by
    rcases Nat.lt_or_ge 12000 w.show.length with h | h
    ·have := hr1 Aa
     omega
    ·exact h
   refine Aj (Ah ?_); refine Fj 11 rfl rfl ?_; refine Dt 0 [11] rfl (D2 rfl) ?_; refine Da 2 rfl (Ai rfl) ?_; refine Da 3 rfl (Ai rfl) ?_; refine Da 4 rfl (Dp rfl) ?_
   first | refine Da 5 rfl (Ap rfl) ?_ | refine Da 5 rfl (Bn rfl) ?_
   refine Dt 6 [11] rfl (Aed rfl) ?_; refine Da 7 rfl (G7 rfl rfl rfl Aa) ?_; refine Dc 1 rfl rfl (Aa6 _ (Nat.lt_succ_self _) hw hwf Aa _) ?_; rintro _ _ _ _ ⟨rfl, rfl, rfl⟩; refine Hx ?_; refine Da 8 rfl (A2 rfl) ?_; refine Da 9 rfl (A2 rfl) ?_; refine Da 10 rfl (A2 rfl) ?_; refine Bg Af ?_; refine Al (.tmp rfl (.tmp rfl (.tmp rfl .nil))) ?_
   exact ⟨J3, L, hle2, Ms (L' := L), by rw [hme, Qk hv hsl]; simp only [Option.map_some, Option.getD_some, Option.isSome_some]; rw [show ((N - (eval N e .nil).left : Nat) : Int) = (N : Int) - ((eval N e .nil).left : Nat) by omega]; rfl, rfl⟩
theorem Xb (s : As) (hs : s.length ≤ Kr) (I : Heap) (L : Bl) : Fun Tryz.prog 12 [.string (str s)] I L (fun v I' L' => v = .int .i64 (Kc s) ∧ L = L') := by
 refine Ao Ad ?_; refine Se rfl (Oa rfl (Ab (Se rfl (Om rfl ?_)))); refine Ca rfl (Adu s hs 2000 _ _) ?_; rintro _ J _ e1 ⟨rfl, rfl⟩; refine Om rfl ?_
 iterate 3 refine Oe rfl rfl ?_
 iterate 3 refine Oa rfl ?_
 refine Ab (Ah (Se rfl (Om rfl ?_))); refine Dv rfl .free rfl ?_; refine Ab ?_; refine Az rfl ?_ ?_
 ·intro c0
  try simp only [nb] at c0
  have hn : F5 s 2000 = none := by
   cases h : F5 s 2000 with
   | none => rfl
   | some r => rw [h] at c0; cases c0
  refine Se rfl (Oa rfl (Ab (Al (.tmp rfl .nil) ?_)))
  exact ⟨J, L, e1, Cb, by unfold Kc; rw [hn]; rfl, rfl⟩
 intro c0
 try simp only [nb] at c0
 obtain ⟨r, hr⟩ : ∃ r, F5 s 2000 = some r := Option.isSome_iff_exists.1 Ev; refine Aj (Se rfl (Om rfl (Oa rfl (Ab (Al (.tmp rfl .nil) ?_)))))
 exact ⟨J, L, e1, Cb, by rw [Qw hr, hr]; rfl, rfl⟩
def pn (b : Nat) (oa : Option Addr) (av : List As) (c g n : Nat) : Nat × Obj := (b, .cells [.slice oa av.length c, .int .i64 (g : Nat), .int .i64 (n : Nat)].toArray 118 (0, 0))
theorem Ju {I : Heap} {oa : Option Addr} {av : List As} {c : Nat} (hav : Strs I oa av c) (b g n : Nat) (hn : fr 120 av n < 100) (hg : g ≤ 1000000) (L : Bl) :
  Fun Tryz.prog 142 [.pointer (some ⟨b, 0, none⟩)] I (pn b oa av c g n :: L) (fun v I' L' => v = .string (str (nm 120 (fr 120 av n))) ∧ I = I' ∧ L' = pn b oa av c (g + 1) (fr 120 av n + 1) :: L) := by
 obtain ⟨f1, f2, f3⟩ := F2 120 av n; refine Ao Ad ?_; refine Se rfl (Oa rfl (Ab (Ar ?_))); refine Dy (X := Nat) (fun m => fr 120 av n + 1 - m) (fun m => [(0, .pointer (some ⟨b, 0, none⟩))]) (fun _ => I) (fun m => pn b oa av c g m :: L) (fun m => n ≤ m ∧ m ≤ fr 120 av n ∧ ∀ j, n ≤ j → j < m → nm 120 j ∈ av) n ⟨Nat.le_refl _, f2, fun j h1 h2 => absurd h2 Aa⟩ ⟨rfl, trivial⟩ (fun _ h => h) ?_; rintro m ⟨hm1, hm2, hm3⟩ ih
 unfold pn
 have hdl := U5 (n := m) Aa
 refine Ar (Se rfl (Om rfl ?_)); refine Au rfl .free rfl ?_
 first | refine Oh rfl ?_ | refine Oj rfl ?_
 refine G5 rfl .free rfl ?_; refine Ca rfl (Qs m Aa _ _) ?_; rintro _ _ _ _ ⟨rfl, rfl, rfl⟩; refine Ok rfl rfl ?_; refine Oa rfl (Ab (Se rfl (Om rfl ?_))); refine Au rfl .free rfl ?_
 first | refine Oh rfl ?_ | refine Oj rfl ?_
 refine G5 rfl .free rfl ?_; refine Or rfl rfl rfl ?_; refine Au rfl .free rfl ?_
 first | refine Oh rfl ?_ | refine Oj rfl ?_
 refine By rfl rfl rfl rfl .free ?_; refine Ab (Se rfl (Om rfl ?_)); refine Au rfl .free rfl ?_
 first | refine Oh rfl ?_ | refine Oj rfl ?_
 refine G5 rfl .free rfl ?_; refine Om rfl ?_; refine Ca rfl (H1 (hav.rd _) c (nm 120 m)) ?_; rintro _ _ _ _ ⟨rfl, rfl, rfl⟩; refine Dv rfl .free rfl ?_; refine Ab ?_; refine Az rfl ?_ ?_
 ·intro c0
  try simp only [nb] at c0
  refine Se rfl (Om rfl ?_); refine Au rfl .free rfl ?_
  first | refine Oh rfl ?_ | refine Oj rfl ?_
  refine G5 rfl .free rfl ?_; refine Or rfl rfl rfl ?_; refine Au rfl .free rfl ?_
  first | refine Oh rfl ?_ | refine Oj rfl ?_
  refine By rfl rfl rfl rfl .free ?_; refine Ab (Se rfl (Om rfl (Oa rfl (Ab (Al (.tmp rfl .nil) ?_)))))
  have hfm : fr 120 av n = m := Acm hm3 hm1 c0
  exact ⟨I, _, .refl _, fun _ h => h, by rw [hfm]; rfl, rfl, by rw [hfm]; rfl⟩
 intro c0
 try simp only [nb] at c0
 refine Aj (Aq ?_)
 have hne : m ≠ fr 120 av n := fun e => f1 (e ▸ c0)
 refine Dl (E' := [(0, .pointer (some ⟨b, 0, none⟩))]) ⟨rfl, trivial⟩ (ih (m + 1) ⟨by omega, by omega, fun j h1 h2 => ?_⟩ Aa)
 by_cases hj : j = m
 ·subst hj; exact c0
 ·exact hm3 j h1 Aa
end Go.Proofs.YtmfagaajiakgoaaGreatDoor

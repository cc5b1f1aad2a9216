/- Whole expressions made normal, by the reference. No conditions. -/
import Derived.Test.YtbohngcdgmjfaaaGreatDoorG12
import Derived.Shelf.Strconv.Itoa3
import Derived.Test.YtbohngcdgmjfaaaGreatDoorProg

namespace Go.Proofs.YtbohngcdgmjfaaaGreatDoor
set_option maxRecDepth 100000
set_option linter.unusedVariables false
set_option linter.unusedSimpArgs false

theorem Forms.at' {I : Heap} {oa : Option Addr} {ts : List Tree} {c : Nat} (h : Forms I oa ts c) : ∃ oaf cf, FormAt I (.node [] ts) oa c oaf cf := by
 obtain ⟨oa', c', oaf, cf, he, hf⟩ := (h.form [] (by decide)).at'
 simp only [List.cons.injEq, Value.slice.injEq, and_true, true_and] at he
 obtain ⟨_, rfl, _, rfl⟩ := he
 exact ⟨oaf, cf, hf⟩
theorem Qn {P : Program} {f : FuncId} {n : Nat} {I₀ : Heap} {Q : C3} {k : List Item} {E : Gj} {I : Heap} {L : Bc} {ops : Array Oper} {ol : List Oper} {e : TypeId} {ts : List Tree} {vs : List Value} {B : H3} {m c : Nat} (hl : RepL I ts vs) (hB : Cy 2 m c vs B) (hm : m = ts.length) (hn : ts.length ≤ Ap)
  (h : ∀ I' oa c', HLe I I' → Bd m c B = .slice oa ts.length c' → Forms I' oa ts c' → A6 P f n I₀ Q ops ol k E I' L) : A6 P f n I₀ Q ops ol k E I (A2 e vs B ++ L) := by
 rcases Q2 (e := e) hl hB hm hn with ⟨rfl, rfl⟩ | ⟨b, sp, rfl, _, hc⟩
 ·exact h I none 0 (.refl _) rfl (Pm _)
 ·exact Fo fun hle => h _ (some ⟨b, 0, none⟩) c hle (by rw [← hm]; rfl) (Mz hl hle hc hn)
theorem RepL.four {I : Heap} {t u v x : Tree} {cs ds es gs : List Value} (h : Rep I t cs) (h' : Rep I u ds) (h'' : Rep I v es) (h3 : Rep I x gs) : RepL I [t, u, v, x] (cs ++ (ds ++ (es ++ gs))) := (RepL.one h).append ((RepL.one h').append ((RepL.one h'').append (.one h3)))
theorem Ye {I : Heap} {oa : Option Addr} {ts : List Tree} {c : Nat} (h : Forms I oa ts c) (L : Bc) : Fun Tryz.prog 104 [.slice oa ts.length c] I L (RP (.node [] ts) L) := by
 refine Aj (by simp) ?_; refine Se rfl ?_; refine At .free rfl ?_; intro b2; refine Aa (Se rfl (Om rfl ?_)); refine Cf rfl rfl rfl .free rfl ?_; refine Bp rfl rfl rfl rfl .free ?_; refine Aa ?_; refine Ag (.c rfl .nil) ?_
 exact ⟨I, L, .refl _, Bt, _, rfl, h.form [] (by decide), rfl⟩
theorem Z2 {ns : List Am} {es : List Ex} {k : Nat} (h : k < ns.length) (h2 : es.length = ns.length) (f : Ex) : G8 ((ns.zip es).drop k) f = .lt (ns.getD k []) (es.getD k (.num [])) (G8 ((ns.zip es).drop (k + 1)) f) := by
 have h3 : k < (ns.zip es).length := by simp [List.length_zip, h2]; exact h
 rw [Q9 h3]
 simp [List.getElem_zip, h, show k < es.length by omega]
theorem U5 : ∀ (l : S8), (l.map (·.1)).zip (l.map (·.2)) = l
 | [] => rfl
 | p :: l => by simp only [List.map_cons, List.zip_cons_cons, U5 l]
theorem Jn {N : Nat} (ih : Np N) {I : Heap} {e : Ex} {cs : List Value} (hlt : SizeOf.sizeOf e < N) (h : Rep I e.tree cs) (hok : e.ok = true) {ot : Option Addr} {tk : List Am} {ct : Nat} (htk : Strs I ot tk ct) (b n : Nat) (hn : n + e.size + tk.length ≤ 900 + Eb 121 tk n) (hz : e.size ≤ 100000) {a1 a2 : Option Addr} {q1 j1 q2 j2 : Nat} (L : Bc) :
  Fun Tryz.prog 76 [.pointer (some ⟨b, 0, none⟩), .agg cs.toArray] I (Mu b ot tk ct n (.slice a1 q1 j1) (.slice a2 q2 j2) :: L) (fun v I' L' => ∃ cs, v = .agg (List.toArray cs) ∧ Rep I' (e.mk tk n).all.tree cs ∧ L' = Mu b ot tk ct (e.mk tk n).n (.slice a1 q1 j1) (.slice a2 q2 j2) :: L) := by
 obtain ⟨oa, c, oaf, cf, rfl, hf⟩ := h.at'
 have hmo := Ex.mk_ok (tk := tk) (n := n) hok hn
 have hml := e.mk_len tk n
 generalize hp : e.mk tk n = p at *
 unfold Mu
 refine Aj (by simp) ?_; refine Se rfl ?_; refine Cc rfl rfl .free rfl ?_; intro b3; refine At .free rfl ?_; intro b4; refine Aa (Se rfl (Om rfl ?_)); refine Bl rfl .free rfl ?_
 first | refine Oh rfl ?_ | refine Oj rfl ?_
 refine Md rfl .free rfl ?_; refine Oa rfl (Aa (Se rfl (Om rfl ?_))); refine Bl rfl .free rfl ?_
 first | refine Oh rfl ?_ | refine Oj rfl ?_
 refine Md rfl .free rfl ?_; refine Oa rfl (Aa (Se rfl (Om rfl ?_))); refine C5 .free rfl ?_; intro b18; refine Bl rfl .free rfl ?_
 first | refine Oh rfl ?_ | refine Oj rfl ?_
 refine Bp rfl rfl rfl rfl .free ?_; refine Aa (Se rfl (Om rfl ?_)); refine C5 .free rfl ?_; intro b22; refine Bl rfl .free rfl ?_
 first | refine Oh rfl ?_ | refine Oj rfl ?_
 refine Bp rfl rfl rfl rfl .free ?_; refine Aa (Se rfl (Om rfl ?_)); refine Aw rfl .free rfl ?_; refine Cz (L' := MS.own b ot tk ct n ⟨[], [], some (b18, []), 0, [], some (b22, []), 0⟩ (_ :: _ :: L)) (fun w h => h.f4.sw) ?_; refine Ca rfl (ih hlt hf.rep hok htk b n hn ⟨[], [], some (b18, []), 0, [], some (b22, []), 0⟩ ⟨⟨rfl, Nat.le_refl _, rfl⟩, ⟨rfl, Nat.le_refl _, rfl⟩, .nil, by simp⟩ (by simp; omega) rfl _) ?_; rw [hp]; rintro _ J1 _ e1 ⟨cs1, y, rfl, hr, hy, hyn, hye, rfl⟩; obtain ⟨o1, k1, _, rfl, -⟩ := hr.open
 simp only [List.nil_append] at hyn hye
 have hyl : y.ns.length = p.ns.length := by rw [hyn]; simp
 have hyl2 : y.es.length = y.ns.length := by rw [hye, hyn]; simp
 unfold MS.own
 refine Cz (fun w h => Mem.seg2 (A := [_]) h) ?_; refine Jq hy.b1 rfl (by unfold Ap; omega) hy.each ?_; intro J2 oz cz ez hu1 hst; refine Cz (fun w h => Mem.seg2 (A := [_]) (B := A2 _ _ _) h) ?_
 have hy := hy.mono ez
 refine Qn hy.rep hy.b2 (by simp) (by simp; unfold Ap; omega) ?_; intro J3 oy cy ey hu2 hfm; rw [hu1, hu2]; refine Cz (L' := (_ :: _ :: _ :: L)) (fun w h => h) ?_
 have hst := hst.mono ey
 have hr := (hr.mono ez).mono ey
 have hle := (e1.trans ez).trans ey
 obtain ⟨oaf2, cf2, hff⟩ := hfm.at'
 unfold Mu
 refine At .free rfl ?_; intro b7; refine Bp rfl rfl rfl rfl .free ?_; refine Aa (Ab (Se rfl (Om rfl ?_))); refine Bl rfl .free rfl ?_
 first | refine Oh rfl ?_ | refine Oj rfl ?_
 refine Md rfl .free rfl ?_; refine On rfl ?_; refine Or rfl rfl rfl ?_; refine Oa rfl (Aa (Ai ?_))
 refine Ct (X := YS) (fun z => z.k) (fun z => [(0, .pointer (some ⟨b, 0, none⟩)), (4, .pointer (some ⟨b4, 0, none⟩)), (5, .slice a1 q1 j1), (6, .slice a2 q2 j2), (7, .pointer (some ⟨b7, 0, none⟩)), (8, .int .i64 ((z.k : Int) - 1))]) (fun z => z.I) (fun z => (b7, .cells [.string (str (G8 ((y.ns.zip y.es).drop z.k) p.e).tree.atom), .slice z.oa (G8 ((y.ns.zip y.es).drop z.k) p.e).tree.parts.length z.c].toArray 41 (0, 0)) :: (b, .cells [.slice ot tk.length ct, .int .i64 (p.n : Nat), .slice oz y.ns.length cz, .slice oy (y.es.map Ex.tree).length cy].toArray 112 (0, 0)) :: (b4, .cells [.string (str []), .slice none 0 0].toArray 41 (0, 0)) :: (b3, .cells [.string (str e.tree.atom), .slice oa e.tree.parts.length c].toArray 41 (0, 0)) :: L) (fun z => HLe J3 z.I ∧ z.k ≤ y.ns.length ∧ Rep z.I (G8 ((y.ns.zip y.es).drop z.k) p.e).tree [.string (str (G8 ((y.ns.zip y.es).drop z.k) p.e).tree.atom), .slice z.oa (G8 ((y.ns.zip y.es).drop z.k) p.e).tree.parts.length z.c]) ⟨J3, y.ns.length, o1, k1⟩ ⟨.refl _, Nat.le_refl _, by rw [List.drop_of_length_le (by simp [List.length_zip, hyl2])]; exact hr⟩ ⟨rfl, rfl, rfl, rfl, rfl, rfl, trivial⟩ (fun w hw => by rw [List.drop_of_length_le (by simp [List.length_zip, hyl2])]; exact hw) ?_
 rintro ⟨J, k, ob, d⟩ ⟨hlz, hk, hrz⟩ ih2
 simp only at hlz hk hrz ih2
 dsimp only
 refine Ab (Se rfl (Om rfl (Oc rfl rfl rfl (Aa ?_)))); refine Av rfl ?_ ?_
 ·intro c0
  try simp only [nb] at c0
  obtain ⟨k, rfl⟩ : ∃ m, k = m + 1 := ⟨k - 1, by omega⟩; refine Hp (t := 8) (v' := .int .i64 (k : Nat)) rfl (by congr 1; omega) ?_
  have hst := hst.mono hlz
  have hff := hff.mono hlz
  have hkn : k < y.ns.length := by omega
  have hke : k < (Tree.node [] (y.es.map Ex.tree)).parts.length := by show k < (y.es.map Ex.tree).length; rw [List.length_map]; omega
  have hpt : (Tree.node [] (y.es.map Ex.tree)).pt k = (y.es.getD k (.num [])).tree := by
   rw [Tree.pt_at hke]; exact (List.getElem_map ..).trans (by simp [show k < y.es.length by omega])
  have hrk := hff.rp k hke
  have hnk := hst.each _ (List.getElem_mem hkn)
  rw [show y.ns[k] = y.ns.getD k [] by simp [hkn]] at hnk; refine Af (Ab (Ai ?_)); refine Do 20 rfl rfl ?_; refine Da 1 rfl (Ac rfl) ?_; refine Da 2 rfl (Ch rfl) ?_
  first | refine Da 3 rfl (Ae rfl) ?_ | refine Da 3 rfl (Ba rfl) ?_
  refine Dt 4 [19] rfl (Nn rfl) ?_; refine Da 5 rfl (Ac rfl) ?_
  first | refine Da 6 rfl (A4 rfl rfl _ rfl) ?_ | refine Da 6 rfl (A5 rfl rfl _ rfl) ?_
  refine Dt 7 [19] rfl (Qc rfl) ?_; refine Da 9 rfl (Ac rfl) ?_; refine Da 10 rfl (Ch rfl) ?_
  first | refine Da 11 rfl (Ae rfl) ?_ | refine Da 11 rfl (Ba rfl) ?_
  refine Dt 12 [19] rfl (Nn rfl) ?_; refine Da 13 rfl (Ac rfl) ?_
  first | refine Da 14 rfl (A4 rfl rfl _ rfl) ?_ | refine Da 14 rfl (A5 rfl rfl _ rfl) ?_
  refine Dt 15 [19] rfl (Bz rfl) ?_; refine Dt 16 [19] rfl (Cd rfl) ?_; refine Dc 0 rfl rfl (Gl Cw _ _) ?_; rintro _ _ _ _ ⟨rfl, rfl, rfl⟩; refine Hx ?_; refine Dc 8 rfl rfl (Gl (y.ns.getD k []) _ _) ?_; rintro _ _ _ _ ⟨rfl, rfl, rfl⟩; refine Hx ?_; refine C6 17 rfl (by kernel_rfl) rfl rfl rfl (by rfl) (by rfl) (by rfl) (by decide) (by decide) (by rfl) .free rfl (.inr Al) ?_; intro b55; refine Ce ?_; intro hz
  have hfs := Pl (c := 4) (b := b55) (RepL.four (.ofAtom (a := Cw) (by decide)) (.ofAtom hnk) hrk hrz) hz (by simp) (by simp [Ap])
  refine Dc 18 rfl rfl (Ye hfs _) ?_; rintro _ J5 _ e5 ⟨cs5, rfl, hr5, rfl⟩; rw [hpt] at hr5
  have e6 := hz.trans e5
  obtain ⟨oq, cq, _, rfl, -⟩ := hr5.open; refine Hx ?_; refine Dx 19 rfl rfl rfl rfl ?_; refine Au (by kernel_rfl) ?_; refine Ak (Ah rfl (Om rfl ?_)); refine Or rfl rfl rfl ?_; refine Oa rfl (Aa ?_); refine Dr (E' := [(0, .pointer (some ⟨b, 0, none⟩)), (4, .pointer (some ⟨b4, 0, none⟩)), (5, .slice a1 q1 j1), (6, .slice a2 q2 j2), (7, .pointer (some ⟨b7, 0, none⟩)), (8, .int .i64 ((k : Int) - 1))]) ⟨rfl, rfl, rfl, rfl, rfl, rfl, trivial⟩ ?_
  have hd := Z2 hkn hyl2 p.e
  refine C4 (fun w hw => ?_) (ih2 ⟨J5, k, oq, cq⟩ ⟨hlz.trans e6, by simp only; omega, by simp only; rw [hd]; exact hr5⟩ (by simp only; omega))
  simp only; rw [hd]; exact hw
 intro c0
 try simp only [nb] at c0
 obtain rfl : k = 0 := by omega
 rw [List.drop_zero] at hrz
 simp only [List.drop_zero]
 have hzz : y.ns.zip y.es = p.ns := by rw [hyn, hye, U5]
 rw [hzz] at hrz ⊢; refine Bq rfl ?_; refine Se rfl (Om rfl (Om rfl ?_)); refine Bl rfl .free rfl ?_
 first | refine Oh rfl ?_ | refine Oj rfl ?_
 refine Bp rfl rfl rfl rfl .free ?_; refine Aa (Se rfl (Om rfl (Om rfl ?_))); refine Bl rfl .free rfl ?_
 first | refine Oh rfl ?_ | refine Oj rfl ?_
 refine Bp rfl rfl rfl rfl .free ?_; refine Aa (Se rfl ?_); refine Aw rfl .free rfl ?_; refine Bp rfl rfl rfl rfl .free ?_; refine Aa ?_; refine Ag (.c rfl .nil) ?_
 exact ⟨J, _, hle.trans hlz, Ms (L' := (b, _) :: L), _, rfl, hrz, rfl⟩
section
variable {P : Program} {f : FuncId} {n : Nat} {I₀ : Heap} {Q : C3} {k : List Item} {E : Gj} {I : Heap} {id : Nat} {ops : Array Oper} {a b c d e m p q r s t : Nat × Obj} {A B L : Bc} {w : World}
theorem Mem.vm1 (h : Mem I (m :: (A ++ (B ++ (p :: L)))) w) : Mem I (p :: m :: (A ++ (B ++ L))) w := Mem.vm (X := [p]) h
theorem Mem.mv4 (h : Mem I (p :: q :: r :: s :: m :: (A ++ (B ++ L))) w) : Mem I (m :: (A ++ (B ++ (p :: q :: r :: s :: L)))) w := Mem.mv (X := [p, q, r, s]) h
theorem Mem.vm4 (h : Mem I (m :: (A ++ (B ++ (p :: q :: r :: s :: L)))) w) : Mem I (p :: q :: r :: s :: m :: (A ++ (B ++ L))) w := Mem.vm (X := [p, q, r, s]) h
theorem Z7 (N : Nat) (hN : ops.size = N) (hm : P.follows .mixedOrders = true) (h : Cn P f n I₀ Q ops (Mem I (p :: q :: r :: s :: L)) N (Array.replicate N false) k E I (p :: q :: r :: s :: m :: (A ++ (B ++ L)))) :
  RunS P f n I₀ Q (.code (.region id ops true) :: k) E I (p :: q :: r :: s :: m :: (A ++ (B ++ L))) := Iw I (p :: q :: r :: s :: L) N hN hm h
theorem Ab8 (N : Nat) (hN : ops.size = N) (hm : P.follows .mixedOrders = true) (h : Cn P f n I₀ Q ops (Mem I (a :: p :: q :: r :: s :: m :: L)) N (Array.replicate N false) k E I (a :: p :: q :: r :: s :: m :: (A ++ L))) :
  RunS P f n I₀ Q (.code (.region id ops true) :: k) E I (a :: p :: q :: r :: s :: m :: (A ++ L)) := Iw I (a :: p :: q :: r :: s :: m :: L) N hN hm h
theorem Ab7 (N : Nat) (hN : ops.size = N) (hm : P.follows .mixedOrders = true) (h : Cn P f n I₀ Q ops (Mem I (p :: q :: r :: s :: t :: L)) N (Array.replicate N false) k E I (a :: b :: p :: q :: r :: s :: t :: m :: (A ++ L))) :
  RunS P f n I₀ Q (.code (.region id ops true) :: k) E I (a :: b :: p :: q :: r :: s :: t :: m :: (A ++ L)) := Iw I (p :: q :: r :: s :: t :: L) N hN hm h
end
set_option maxHeartbeats 1000000 in
theorem Yx {N : Nat} (ihn : Np N) {o : B5} {a b : Ex} {I : Heap} {cs : List Value} (hlt : SizeOf.sizeOf (Ex.bin o a b) < N + 1) (h : Rep I (Ex.bin o a b).tree cs) (hok : (Ex.bin o a b).ok = true) {ot : Option Addr} {tk : List Am} {ct : Nat} (htk : Strs I ot tk ct) (b0 n : Nat) (hn : n + (Ex.bin o a b).size + tk.length ≤ 900 + Eb 121 tk n) (x : MS) (hx : x.ok I) (hxl : x.ns.length + (Ex.bin o a b).size ≤ 100000) (hxe : x.es.length = x.ns.length) (L : Bc) :
  Fun Tryz.prog 103 [.pointer (some ⟨b0, 0, none⟩), .agg cs.toArray] I (x.own b0 ot tk ct n L) (MP b0 ot tk ct x ((Ex.bin o a b).mk tk n) L) := by
 obtain ⟨oa, c, oaf, cf1, rfl, hf, hcl, hcs⟩ := h.cells
 have hle : HLe I I := .refl _
 have hh0 := Bf 121 tk n
 have hpos : 0 < (Ex.bin o a b).tree.parts.length := by show 0 < 3; decide
 obtain ⟨xa, rfl⟩ : ∃ xa, oa = some xa := ⟨_, Ev hf.nil hpos⟩
 have hlen : (Ex.bin o a b).tree.parts.length = 3 := rfl
 have hp0 : ((Ex.bin o a b).tree.pt 0).atom = o.txt := rfl
 simp only [Ex.bin.sizeOf_spec] at hlt
 simp only [Ex.ok, Bool.and_eq_true, decide_eq_true_eq] at hok
 simp only [Ex.size] at hn hxl
 simp only [Ex.mk]
 unfold MS.own
 refine Aj (by simp) ?_; refine Se rfl ?_; refine Cc rfl rfl .free rfl ?_; intro b3; refine At .free rfl ?_; intro b4; refine Aa (Ab (Se rfl (Oh rfl ?_))); refine Bg rfl .free rfl ?_; refine Od rfl rfl rfl (Aa ?_)
 first | refine Eu rfl (by simp [Ex.tree, Tree.atom]) ?_ | refine Et rfl (by simp [Ex.tree, Tree.atom]) ?_ | refine A8 (by simp [Bu, Bo, *]) ?_
 refine Af (Se rfl (Oh rfl ?_)); refine Bg rfl .free rfl ?_; refine Oa rfl (Aa (Se rfl ?_)); refine C5 .free rfl ?_; intro b15; refine Om rfl ?_; refine D5 (B := some (b15, [])) (xs := []) (ys := Df oaf cf1 0 (Ex.bin o a b).tree.parts) (m := 0) (c := 0) (by intro kk; simp) (by rfl) rfl rfl ⟨rfl, Nat.le_refl _, rfl⟩ (fun _ h => h) (by have := hcl.length; omega) (fun a ha => by cases ha; exact (hcs _ rfl).reads) (by simp) hcl.plain hpos (by decide) (by omega) (by decide) .free rfl ?_; intro bc sp cc hB'
 have hcc : (Ex.bin o a b).tree.parts.length ≤ cc := by have := hB'.2.1; omega
 refine F1 (t := 17) (v' := .slice (some ⟨bc, 0, none⟩) (Ex.bin o a b).tree.parts.length cc) rfl (by rw [Nat.zero_add]) ?_
 simp only [List.nil_append]
 simp only [show (Ex.bin o a b).tree.parts = [.node o.txt [], a.tree, b.tree] from rfl, Df, List.cons_append, List.nil_append]
 refine Cf rfl rfl rfl .free rfl ?_; refine At .free rfl ?_; intro b6; refine Bp rfl rfl rfl rfl .free ?_; refine Aa (Ab (Se rfl (Om rfl ?_)))
 first | refine Bi rfl rfl 0 rfl .free rfl ?_ | refine Bj rfl rfl 0 rfl .free rfl ?_
 refine A3 rfl .free rfl ?_; refine Es rfl .free rfl ?_; refine Aa (Ai (Se rfl (Od rfl rfl rfl (Oa rfl (Aa ?_)))))
 first | refine Eu rfl (by rw [hp0]; cases o <;> decide) ?_ | refine Et rfl (by rw [hp0]; cases o <;> decide) ?_ | refine A8 (by simp [Bu, Bo, *]) ?_
 refine Se rfl (Od rfl rfl rfl (Oa rfl (Aa ?_)))
 first | refine Eu rfl (by rw [hp0]; cases o <;> decide) ?_ | refine Et rfl (by rw [hp0]; cases o <;> decide) ?_ | refine A8 (by simp [Bu, Bo, *]) ?_
 refine Se rfl (Od rfl rfl rfl (Oa rfl (Aa ?_)))
 first | refine Eu rfl (by rw [hp0]; cases o <;> decide) ?_ | refine Et rfl (by rw [hp0]; cases o <;> decide) ?_ | refine A8 (by simp [Bu, Bo, *]) ?_
 refine Af (Ak (Ab (Se rfl (Oa rfl (Aa (Ai ?_)))))); refine Dd ?_; refine Ab (Se rfl (Om rfl (Om rfl (On rfl (Oc rfl rfl rfl (Aa ?_)))))); refine Bn rfl (by first | rfl | decide | (simp; done) | omega) ?_; refine Af (Ab (Ai ?_)); refine C0 fun hlr => ?_
 have g1 := a.mk_g tk n
 have mh1 := a.mk_hits tk n
 have gp1 := MK.pt_g tk _ g1.1 g1.2
 have mp1 := MK.pt_hits tk _ mh1
 have lp1 := MK.pt_len tk _ (a.mk_len tk n)
 have hz1 := Bf 121 tk n
 refine Z7 11 rfl rfl ?_; refine Da 0 rfl (Ae rfl) ?_; refine Dt 1 [10] rfl (A7 rfl) ?_; refine Da 2 rfl (Ac rfl) ?_; refine Da 3 rfl (Ac rfl) ?_; refine Da 4 rfl (Ac rfl) ?_; refine Da 5 rfl (Ac rfl) ?_
 first | refine Da 6 rfl (A4 rfl rfl _ rfl) ?_ | refine Da 6 rfl (A5 rfl rfl _ rfl) ?_
 refine Dt 7 [10] rfl (Bz rfl) ?_; refine Be (fun w h => Mem.mv4 h) ?_; refine Dc 8 rfl rfl (Jm ihn (by omega) (hf.as 1 a.tree (by omega) rfl) hok.1 htk b0 n (by omega) x hx (by omega) hxe _) ?_; rintro _ J1 _ e1 ⟨cs1, y1, rfl, hr_1, hy1, hy1n, hy1s, rfl⟩; obtain ⟨o1, k1, _, rfl, -⟩ := hr_1.open
 have hy1l : y1.ns.length = x.ns.length + ((a.mk tk n).pt tk).ns.length := by rw [hy1n]; simp
 have hy1e : y1.es.length = y1.ns.length := by rw [hy1s, hy1n]; simp [hxe]
 have hlr := hlr.trans e1
 have hf := hf.mono e1
 have htk := htk.mono e1
 have hle := hle.trans e1
 unfold MS.own
 refine Hx ?_; refine Be (fun w h => Mem.vm4 h) ?_
 first | refine Da 9 rfl (A4 rfl rfl _ rfl) ?_ | refine Da 9 rfl (A5 rfl rfl _ rfl) ?_
 refine Dx 10 rfl rfl rfl rfl ?_; refine Au (by kernel_rfl) ?_; refine Ak (Ah rfl (Om rfl ?_)); refine Or rfl rfl rfl ?_; refine Oa rfl (Aa ?_); refine Bm ?_; refine Ab (Se rfl (Om rfl (Om rfl (On rfl (Oc rfl rfl rfl (Aa ?_)))))); refine Bn rfl (by first | rfl | decide | (simp; done) | omega) ?_; refine Af (Ab (Ai ?_)); refine C0 fun hlr => ?_
 have g2 := b.mk_g tk ((a.mk tk n).pt tk).n
 have mh2 := b.mk_hits tk ((a.mk tk n).pt tk).n
 have gp2 := MK.pt_g tk _ g2.1 g2.2
 have mp2 := MK.pt_hits tk _ mh2
 have lp2 := MK.pt_len tk _ (b.mk_len tk ((a.mk tk n).pt tk).n)
 have hz2 := Bf 121 tk ((a.mk tk n).pt tk).n
 refine Z7 11 rfl rfl ?_; refine Da 0 rfl (Ae rfl) ?_; refine Dt 1 [10] rfl (A7 rfl) ?_; refine Da 2 rfl (Ac rfl) ?_; refine Da 3 rfl (Ac rfl) ?_; refine Da 4 rfl (Ac rfl) ?_; refine Da 5 rfl (Ac rfl) ?_
 first | refine Da 6 rfl (A4 rfl rfl _ rfl) ?_ | refine Da 6 rfl (A5 rfl rfl _ rfl) ?_
 refine Dt 7 [10] rfl (Bz rfl) ?_; refine Be (fun w h => Mem.mv4 h) ?_; refine Dc 8 rfl rfl (Jm ihn (by omega) (hf.as 2 b.tree (by omega) rfl) hok.2 htk b0 ((a.mk tk n).pt tk).n (by omega) y1 hy1 (by omega) hy1e _) ?_; rintro _ J2 _ e2 ⟨cs2, y2, rfl, hr_2, hy2, hy2n, hy2s, rfl⟩; obtain ⟨o2, k2, _, rfl, -⟩ := hr_2.open
 have hy2l : y2.ns.length = y1.ns.length + ((b.mk tk ((a.mk tk n).pt tk).n).pt tk).ns.length := by rw [hy2n]; simp
 have hy2e : y2.es.length = y2.ns.length := by rw [hy2s, hy2n]; simp [hy1e]
 have hlr := hlr.trans e2
 have hf := hf.mono e2
 have htk := htk.mono e2
 have hle := hle.trans e2
 have hr_1 := hr_1.mono e2
 unfold MS.own
 refine Hx ?_; refine Be (fun w h => Mem.vm4 h) ?_
 first | refine Da 9 rfl (A4 rfl rfl _ rfl) ?_ | refine Da 9 rfl (A5 rfl rfl _ rfl) ?_
 refine Dx 10 rfl rfl rfl rfl ?_; refine Au (by kernel_rfl) ?_; refine Ak (Ah rfl (Om rfl ?_)); refine Or rfl rfl rfl ?_; refine Oa rfl (Aa ?_); refine Bm ?_; refine Ab (Se rfl (Om rfl (Om rfl (On rfl (Oc rfl rfl rfl (Aa ?_)))))); refine Co rfl (by first | rfl | decide | (simp; done) | omega) ?_; refine Bq rfl ?_; refine Se rfl ?_; refine Aw rfl .free rfl ?_; refine Bp rfl rfl rfl rfl .free ?_; refine Aa ?_; refine C4 (fun w h => h.f1) (Bx ?_); intro hz
 have hf := hf.mono hz
 refine Ag (.c rfl .nil) ?_; refine ⟨_, _, hle.trans hz, fun w h => h.drop.drop.drop, _, y2, rfl, .mk' rfl (.cons (hf.as 0 (.node o.txt []) (by omega) rfl) (.cons (hr_1.mono hz) (.cons (hr_2.mono hz) (.nil)))) (fun y hy => by cases hy; exact Ax (xs := [_, _, _, _, _, _])) (by simp) hcc (by simp [Ap]) (by simp [Ap]), hy2.mono hz, by simp only [hy2n, hy1n, List.map_append, List.append_assoc], by simp only [hy2s, hy1s, List.map_append, List.append_assoc], ?_⟩
 rfl
set_option maxHeartbeats 1000000 in
theorem Yy {N : Nat} (ihn : Np N) {a b d : Ex} {I : Heap} {cs : List Value} (hlt : SizeOf.sizeOf (Ex.ite a b d) < N + 1) (h : Rep I (Ex.ite a b d).tree cs) (hok : (Ex.ite a b d).ok = true) {ot : Option Addr} {tk : List Am} {ct : Nat} (htk : Strs I ot tk ct) (b0 n : Nat) (hn : n + (Ex.ite a b d).size + tk.length ≤ 900 + Eb 121 tk n) (x : MS) (hx : x.ok I) (hxl : x.ns.length + (Ex.ite a b d).size ≤ 100000) (hxe : x.es.length = x.ns.length) (L : Bc) :
  Fun Tryz.prog 103 [.pointer (some ⟨b0, 0, none⟩), .agg cs.toArray] I (x.own b0 ot tk ct n L) (MP b0 ot tk ct x ((Ex.ite a b d).mk tk n) L) := by
 obtain ⟨oa, c, oaf, cf1, rfl, hf, hcl, hcs⟩ := h.cells
 have hle : HLe I I := .refl _
 have hh0 := Bf 121 tk n
 have hpos : 0 < (Ex.ite a b d).tree.parts.length := by show 0 < 4; decide
 obtain ⟨xa, rfl⟩ : ∃ xa, oa = some xa := ⟨_, Ev hf.nil hpos⟩
 have hlen : (Ex.ite a b d).tree.parts.length = 4 := rfl
 have hp0 : ((Ex.ite a b d).tree.pt 0).atom = E9 := rfl
 simp only [Ex.ite.sizeOf_spec] at hlt
 simp only [Ex.ok, Bool.and_eq_true, decide_eq_true_eq] at hok
 simp only [Ex.size] at hn hxl
 simp only [Ex.mk]
 unfold MS.own
 refine Aj (by simp) ?_; refine Se rfl ?_; refine Cc rfl rfl .free rfl ?_; intro b3; refine At .free rfl ?_; intro b4; refine Aa (Ab (Se rfl (Oh rfl ?_))); refine Bg rfl .free rfl ?_; refine Od rfl rfl rfl (Aa ?_)
 first | refine Eu rfl (by simp [Ex.tree, Tree.atom]) ?_ | refine Et rfl (by simp [Ex.tree, Tree.atom]) ?_ | refine A8 (by simp [Bu, Bo, *]) ?_
 refine Af (Se rfl (Oh rfl ?_)); refine Bg rfl .free rfl ?_; refine Oa rfl (Aa (Se rfl ?_)); refine C5 .free rfl ?_; intro b15; refine Om rfl ?_; refine D5 (B := some (b15, [])) (xs := []) (ys := Df oaf cf1 0 (Ex.ite a b d).tree.parts) (m := 0) (c := 0) (by intro kk; simp) (by rfl) rfl rfl ⟨rfl, Nat.le_refl _, rfl⟩ (fun _ h => h) (by have := hcl.length; omega) (fun a ha => by cases ha; exact (hcs _ rfl).reads) (by simp) hcl.plain hpos (by decide) (by omega) (by decide) .free rfl ?_; intro bc sp cc hB'
 have hcc : (Ex.ite a b d).tree.parts.length ≤ cc := by have := hB'.2.1; omega
 refine F1 (t := 17) (v' := .slice (some ⟨bc, 0, none⟩) (Ex.ite a b d).tree.parts.length cc) rfl (by rw [Nat.zero_add]) ?_
 simp only [List.nil_append]
 simp only [show (Ex.ite a b d).tree.parts = [.node E9 [], a.tree, b.tree, d.tree] from rfl, Df, List.cons_append, List.nil_append]
 refine Cf rfl rfl rfl .free rfl ?_; refine At .free rfl ?_; intro b6; refine Bp rfl rfl rfl rfl .free ?_; refine Aa (Ab (Se rfl (Om rfl ?_)))
 first | refine Bi rfl rfl 0 rfl .free rfl ?_ | refine Bj rfl rfl 0 rfl .free rfl ?_
 refine A3 rfl .free rfl ?_; refine Es rfl .free rfl ?_; refine Aa (Ai (Se rfl (Od rfl rfl rfl (Oa rfl (Aa ?_)))))
 first | refine Eu rfl (by rw [hp0]; decide) ?_ | refine Et rfl (by rw [hp0]; decide) ?_ | refine A8 (by simp [Bu, Bo, *]) ?_
 refine Se rfl (Od rfl rfl rfl (Oa rfl (Aa ?_)))
 first | refine Eu rfl (by rw [hp0]; decide) ?_ | refine Et rfl (by rw [hp0]; decide) ?_ | refine A8 (by simp [Bu, Bo, *]) ?_
 refine Se rfl (Od rfl rfl rfl (Oa rfl (Aa ?_)))
 first | refine Ji rfl (by rw [hp0]; rfl) ?_ | refine Jh rfl (by rw [hp0]; rfl) ?_ | refine Cm (by simp [Bu, Bo, *]) ?_
 refine Ab ?_; refine C0 fun hlr => ?_
 have g1 := a.mk_g tk n
 have mh1 := a.mk_hits tk n
 have gp1 := MK.pt_g tk _ g1.1 g1.2
 have mp1 := MK.pt_hits tk _ mh1
 have lp1 := MK.pt_len tk _ (a.mk_len tk n)
 have hz1 := Bf 121 tk n
 refine Z7 9 rfl rfl ?_; refine Da 0 rfl (Ae rfl) ?_; refine Dt 1 [8] rfl (A7 rfl) ?_; refine Da 2 rfl (Ac rfl) ?_; refine Da 3 rfl (Ac rfl) ?_
 first | refine Da 4 rfl (A4 rfl rfl 1 rfl) ?_ | refine Da 4 rfl (A5 rfl rfl 1 rfl) ?_
 refine Dt 5 [8] rfl (Bz rfl) ?_; refine Be (fun w h => Mem.mv4 h) ?_; refine Dc 6 rfl rfl (Jm ihn (by omega) (hf.as 1 a.tree (by omega) rfl) hok.1.1 htk b0 n (by omega) x hx (by omega) hxe _) ?_; rintro _ J1 _ e1 ⟨cs1, y1, rfl, hr_1, hy1, hy1n, hy1s, rfl⟩; obtain ⟨o1, k1, _, rfl, -⟩ := hr_1.open
 have hy1l : y1.ns.length = x.ns.length + ((a.mk tk n).pt tk).ns.length := by rw [hy1n]; simp
 have hy1e : y1.es.length = y1.ns.length := by rw [hy1s, hy1n]; simp [hxe]
 have hlr := hlr.trans e1
 have hf := hf.mono e1
 have htk := htk.mono e1
 have hle := hle.trans e1
 unfold MS.own
 refine Hx ?_; refine Be (fun w h => Mem.vm4 h) ?_
 first | refine Da 7 rfl (A4 rfl rfl 1 rfl) ?_ | refine Da 7 rfl (A5 rfl rfl 1 rfl) ?_
 refine Dx 8 rfl rfl rfl rfl ?_; refine Au (by kernel_rfl) ?_; refine Ab ?_; obtain ⟨a1, k2', hu1⟩ := F8 hy1.b1; obtain ⟨a2, k3', hu2⟩ := F8 hy1.b2; rw [hu1, hu2]
 unfold Mu
 refine C0 fun hlr => ?_
 have g2 := b.mk_g tk ((a.mk tk n).pt tk).n
 have mh2 := b.mk_hits tk ((a.mk tk n).pt tk).n
 have hz2 := Bf 121 tk ((a.mk tk n).pt tk).n
 refine C4 (fun w h => h.f4) ?_; refine Ge 9 rfl rfl ?_; refine Da 0 rfl (Ae rfl) ?_; refine Dt 1 [8] rfl (A7 rfl) ?_; refine Da 2 rfl (Ac rfl) ?_; refine Da 3 rfl (Ac rfl) ?_
 first | refine Da 4 rfl (A4 rfl rfl 2 rfl) ?_ | refine Da 4 rfl (A5 rfl rfl 2 rfl) ?_
 refine Dt 5 [8] rfl (Bz rfl) ?_; refine Dc 6 rfl rfl (Jn ihn (by omega) (hf.as 2 b.tree (by omega) rfl) hok.1.2 htk b0 ((a.mk tk n).pt tk).n (by omega) (by omega) _) ?_; rintro _ J2 _ e2 ⟨cs2, rfl, hr_2, rfl⟩; obtain ⟨o2, k2, _, rfl, -⟩ := hr_2.open
 have hlr := hlr.trans e2
 have hf := hf.mono e2
 have htk := htk.mono e2
 have hle := hle.trans e2
 have hr_1 := hr_1.mono e2
 unfold Mu
 refine Hx ?_
 first | refine Da 7 rfl (A4 rfl rfl 2 rfl) ?_ | refine Da 7 rfl (A5 rfl rfl 2 rfl) ?_
 refine Dx 8 rfl rfl rfl rfl ?_; refine Au (by kernel_rfl) ?_; refine Ab ?_; refine C0 fun hlr => ?_
 have g3 := d.mk_g tk (b.mk tk ((a.mk tk n).pt tk).n).n
 have mh3 := d.mk_hits tk (b.mk tk ((a.mk tk n).pt tk).n).n
 have hz3 := Bf 121 tk (b.mk tk ((a.mk tk n).pt tk).n).n
 refine Ge 9 rfl rfl ?_; refine Da 0 rfl (Ae rfl) ?_; refine Dt 1 [8] rfl (A7 rfl) ?_; refine Da 2 rfl (Ac rfl) ?_; refine Da 3 rfl (Ac rfl) ?_
 first | refine Da 4 rfl (A4 rfl rfl 3 rfl) ?_ | refine Da 4 rfl (A5 rfl rfl 3 rfl) ?_
 refine Dt 5 [8] rfl (Bz rfl) ?_; refine Dc 6 rfl rfl (Jn ihn (by omega) (hf.as 3 d.tree (by omega) rfl) hok.2 htk b0 (b.mk tk ((a.mk tk n).pt tk).n).n (by omega) (by omega) _) ?_; rintro _ J3 _ e3 ⟨cs3, rfl, hr_3, rfl⟩; obtain ⟨o3, k3, _, rfl, -⟩ := hr_3.open
 have hlr := hlr.trans e3
 have hf := hf.mono e3
 have htk := htk.mono e3
 have hle := hle.trans e3
 have hr_1 := hr_1.mono e3
 have hr_2 := hr_2.mono e3
 unfold Mu
 refine Hx ?_
 first | refine Da 7 rfl (A4 rfl rfl 3 rfl) ?_ | refine Da 7 rfl (A5 rfl rfl 3 rfl) ?_
 refine Dx 8 rfl rfl rfl rfl ?_; refine Au (by kernel_rfl) ?_; refine Se rfl ?_; refine Aw rfl .free rfl ?_; refine Bp rfl rfl rfl rfl .free ?_; refine Aa ?_; refine C4 (fun w h => h.f2) (Bx ?_); intro hz
 have hf := hf.mono hz
 refine Ag (.c rfl .nil) ?_; refine ⟨_, _, hle.trans hz, fun w h => Mem.sub (L' := (b0, _) :: (A2 9 (y1.ns.map sv) y1.B1 ++ (A2 41 y1.xs y1.B2 ++ L))) (by repeat (first | exact List.Sublist.refl _ | apply List.Sublist.cons_cons | apply List.Sublist.cons)) h, _, y1, rfl, .mk' rfl (.cons (hf.as 0 (.node E9 []) (by omega) rfl) (.cons (hr_1.mono hz) (.cons (hr_2.mono hz) (.cons (hr_3.mono hz) (.nil))))) (fun y hy => by cases hy; exact Ax (xs := [_, _, _, _, _, _, _, _])) (by simp) hcc (by simp [Ap]) (by simp [Ap]), hy1.mono ((e2.trans e3).trans hz), by simpa using hy1n, by simpa using hy1s, ?_⟩
 unfold MS.own Mu; rw [hu1, hu2]
set_option maxHeartbeats 1000000 in
theorem Aah {N : Nat} (ihn : Np N) {z : Am} {a b : Ex} {I : Heap} {cs : List Value} (hlt : SizeOf.sizeOf (Ex.lt z a b) < N + 1) (h : Rep I (Ex.lt z a b).tree cs) (hok : (Ex.lt z a b).ok = true) {ot : Option Addr} {tk : List Am} {ct : Nat} (htk : Strs I ot tk ct) (b0 n : Nat) (hn : n + (Ex.lt z a b).size + tk.length ≤ 900 + Eb 121 tk n) (x : MS) (hx : x.ok I) (hxl : x.ns.length + (Ex.lt z a b).size ≤ 100000) (hxe : x.es.length = x.ns.length) (L : Bc) :
  Fun Tryz.prog 103 [.pointer (some ⟨b0, 0, none⟩), .agg cs.toArray] I (x.own b0 ot tk ct n L) (MP b0 ot tk ct x ((Ex.lt z a b).mk tk n) L) := by
 obtain ⟨oa, c, oaf, cf1, rfl, hf, hcl, hcs⟩ := h.cells
 have hle : HLe I I := .refl _
 have hh0 := Bf 121 tk n
 have hpos : 0 < (Ex.lt z a b).tree.parts.length := by show 0 < 4; decide
 obtain ⟨xa, rfl⟩ : ∃ xa, oa = some xa := ⟨_, Ev hf.nil hpos⟩
 have hlen : (Ex.lt z a b).tree.parts.length = 4 := rfl
 have hp0 : ((Ex.lt z a b).tree.pt 0).atom = Cw := rfl
 simp only [Ex.lt.sizeOf_spec] at hlt
 simp only [Ex.ok, Bool.and_eq_true, decide_eq_true_eq] at hok
 simp only [Ex.size] at hn hxl
 simp only [Ex.mk]
 unfold MS.own
 refine Aj (by simp) ?_; refine Se rfl ?_; refine Cc rfl rfl .free rfl ?_; intro b3; refine At .free rfl ?_; intro b4; refine Aa (Ab (Se rfl (Oh rfl ?_))); refine Bg rfl .free rfl ?_; refine Od rfl rfl rfl (Aa ?_)
 first | refine Eu rfl (by simp [Ex.tree, Tree.atom]) ?_ | refine Et rfl (by simp [Ex.tree, Tree.atom]) ?_ | refine A8 (by simp [Bu, Bo, *]) ?_
 refine Af (Se rfl (Oh rfl ?_)); refine Bg rfl .free rfl ?_; refine Oa rfl (Aa (Se rfl ?_)); refine C5 .free rfl ?_; intro b15; refine Om rfl ?_; refine D5 (B := some (b15, [])) (xs := []) (ys := Df oaf cf1 0 (Ex.lt z a b).tree.parts) (m := 0) (c := 0) (by intro kk; simp) (by rfl) rfl rfl ⟨rfl, Nat.le_refl _, rfl⟩ (fun _ h => h) (by have := hcl.length; omega) (fun a ha => by cases ha; exact (hcs _ rfl).reads) (by simp) hcl.plain hpos (by decide) (by omega) (by decide) .free rfl ?_; intro bc sp cc hB'
 have hcc : (Ex.lt z a b).tree.parts.length ≤ cc := by have := hB'.2.1; omega
 refine F1 (t := 17) (v' := .slice (some ⟨bc, 0, none⟩) (Ex.lt z a b).tree.parts.length cc) rfl (by rw [Nat.zero_add]) ?_
 simp only [List.nil_append]
 simp only [show (Ex.lt z a b).tree.parts = [.node Cw [], .node z [], a.tree, b.tree] from rfl, Df, List.cons_append, List.nil_append]
 refine Cf rfl rfl rfl .free rfl ?_; refine At .free rfl ?_; intro b6; refine Bp rfl rfl rfl rfl .free ?_; refine Aa (Ab (Se rfl (Om rfl ?_)))
 first | refine Bi rfl rfl 0 rfl .free rfl ?_ | refine Bj rfl rfl 0 rfl .free rfl ?_
 refine A3 rfl .free rfl ?_; refine Es rfl .free rfl ?_; refine Aa (Ai (Se rfl (Od rfl rfl rfl (Oa rfl (Aa ?_)))))
 first | refine Ji rfl (by rw [hp0]; rfl) ?_ | refine Jh rfl (by rw [hp0]; rfl) ?_ | refine Cm (by simp [Bu, Bo, *]) ?_
 refine Ab ?_
 have g1 := a.mk_g tk n
 have mh1 := a.mk_hits tk n
 have ml1 := a.mk_len tk n
 have ml2 := b.mk_len tk (a.mk tk n).n
 have mo1 := Ex.mk_ok (tk := tk) (n := n) hok.1.2 (by omega)
 refine Ah rfl (Om rfl (Om rfl ?_))
 first | refine Bi rfl rfl 2 rfl .free rfl ?_ | refine Bj rfl rfl 2 rfl .free rfl ?_
 refine Em rfl .free rfl ?_; refine Cz (fun w h => Mem.mv4 h) ?_; refine Ca rfl (ihn (by omega) (hf.as 2 a.tree (by omega) rfl) hok.1.2 htk b0 n (by omega) x hx (by omega) hxe _) ?_; rintro _ J1 _ e1 ⟨cs1, y, rfl, hr, hy, hyn, hys, rfl⟩; obtain ⟨o1, k1, _, rfl, -⟩ := hr.open
 have hyl : y.ns.length = x.ns.length + (a.mk tk n).ns.length := by rw [hyn]; simp
 have hyl2 : y.es.length = y.ns.length := by rw [hys, hyn]; simp [hxe]
 have hzl := Ex.name_len hok.1.1
 obtain ⟨a1, k2, hu1⟩ := F8 hy.b1; obtain ⟨a2, k3, hu2⟩ := F8 hy.b2
 have hf := hf.mono e1
 have htk := htk.mono e1
 have hle := hle.trans e1
 unfold MS.own
 refine Cz (fun w h => Mem.vm4 h) ?_; rw [hu1, hu2]
 unfold Mu
 refine At .free rfl ?_; intro b7; refine Bp rfl rfl rfl rfl .free ?_; refine Aa (Ab ?_); refine C0 fun hlr => ?_
 refine Ab8 14 rfl rfl ?_; refine Da 0 rfl (Ac rfl) ?_; refine Da 1 rfl (Ac rfl) ?_; refine Da 2 rfl (Ch rfl) ?_
 first | refine Da 3 rfl (Ae rfl) ?_ | refine Da 3 rfl (Ba rfl) ?_
 refine Dt 4 [13] rfl (Nn rfl) ?_; refine Da 5 rfl (Ac rfl) ?_
 first | refine Da 6 rfl (A4 rfl rfl 1 rfl) ?_ | refine Da 6 rfl (A5 rfl rfl 1 rfl) ?_
 refine Da 7 rfl (Ba rfl) ?_; refine Dt 8 [13] rfl (Ii rfl) ?_; refine C6 9 rfl (by kernel_rfl) rfl rfl rfl (by rfl) (by rfl) (by rfl) (by decide) (by decide) (by rfl) .free rfl (.inr Al) ?_; intro b39; refine B8 10 (B := y.B1) (xs := y.ns.map sv) (ys := [sv z]) (m := y.ns.length) (c := y.c1) rfl (by kernel_rfl) rfl (by intro kk; simp) (by rfl) (by rw [hu1]; rfl) rfl hy.b1 (fun _ h => h.u7) (by rfl) (fun a ha => by cases ha; exact B0 (.head _) (by rfl)) (by simp) (by rfl) (by decide) (by omega) (by decide) .free rfl (fun _ => .inr Al) ?_; intro B1 c2 hB1
 obtain ⟨bb, sb, rfl⟩ : ∃ bb sb, B1 = some (bb, sb) := by
  cases B1 with
  | none => exact absurd hB1.1 (by simp)
  | some z => exact ⟨z.1, z.2, rfl⟩
 simp only [A2, List.cons_append, List.nil_append]
 refine Da 11 rfl (Ch rfl) ?_
 first | refine Da 12 rfl (Ae rfl) ?_ | refine Da 12 rfl (Ba rfl) ?_
 refine Dx 13 rfl rfl rfl rfl ?_ (hu := u7); refine Au (by kernel_rfl) ?_; refine Ab ?_; refine Ab7 13 rfl rfl ?_; refine Da 0 rfl (Ac rfl) ?_; refine Da 1 rfl (Ch rfl) ?_
 first | refine Da 2 rfl (Ae rfl) ?_ | refine Da 2 rfl (Ba rfl) ?_
 refine Dt 4 [9] rfl (Cd rfl) ?_; refine E7 3 6 (by kernel_rfl) ?_ ?_
 ·skip
  refine Nx 3 rfl rfl (Ij rfl (by first | exact Dv (.tail _ m6) (by rfl) rfl | exact Dv (.tail _ (.tail _ m6)) (by rfl) rfl)) .free rfl (.inr Al) ?_; refine Da 5 rfl (D9 rfl) ?_; refine C6 6 rfl (by kernel_rfl) rfl rfl rfl (by rfl) (by rfl) (by rfl) (by decide) (by decide) (by rfl) .free rfl (.inr Al) ?_; intro b49
  refine B8 7 (B := y.B2) (xs := y.xs) (ys := [.string (str []), .slice none 0 0]) (m := y.es.length) (c := y.c2) rfl (by kernel_rfl) rfl (by intro kk; simp) (by rfl) (by rw [hu2]; rfl) rfl hy.b2 (fun _ h => h.u9) (by rfl) (fun a ha => by cases ha; exact B0 (.head _) (by rfl)) (by simp) (by rfl) (by decide) (by omega) (by decide) .free rfl (fun _ => .inr Al) ?_; intro B2 c3 hB2; obtain ⟨bq, sq, rfl⟩ : ∃ bq sq, B2 = some (bq, sq) := by
   cases B2 with
   | none => exact absurd hB2.1 (by simp)
   | some z => exact ⟨z.1, z.2, rfl⟩
  have hxl2 := hy.rep.length
  rw [List.length_map] at hxl2
  simp only [A2, List.cons_append, List.nil_append, List.append_assoc]
  refine Da 8 rfl (E1 rfl rfl _ rfl (by omega) rfl) ?_; refine E6 (t := 51) rfl (congrArg (fun a => Value.pointer (some a)) (L0 bq (y.es.length * 2))) ?_; refine Da 10 rfl (Ch rfl) ?_
  first | refine Da 11 rfl (Ae rfl) ?_ | refine Da 11 rfl (Ba rfl) ?_
  refine E7 9 12 (by kernel_rfl) ?_ ?_
  ·skip
   refine Pp 9 rfl rfl rfl rfl rfl rfl .free (.inl (by kernel_rfl)) ?_ (hu := u0) (hus := Gz (xs := y.xs) (zs := [_, _]) (sp := sq) (by omega) rfl); refine Aa3 12 rfl (by kernel_rfl) rfl rfl rfl rfl rfl .free (.inr Al) ?_ (hu := u9); refine Au (by kernel_rfl) ?_; refine Ab ?_
   have hy2 : MS.ok J1 ⟨y.ns ++ [z], y.es ++ [(a.mk tk n).e], some (bb, sb), c2, y.xs ++ [.string (str (a.mk tk n).e.tree.atom), .slice o1 (a.mk tk n).e.tree.parts.length k1], some (bq, sq), c3⟩ := by
    refine ⟨by simpa using hB1, ⟨by have := hB2.1; simp at this ⊢; omega, by simpa using hB2.2.1, by simpa using hB2.2.2⟩, by simpa using hy.rep.append (.one hr), ?_⟩; intro s hs
    rcases List.mem_append.1 hs with hs | hs
    ·exact hy.each s hs
    ·rw [List.mem_singleton.1 hs]; exact hzl
   refine Ah rfl (Om rfl (Om rfl ?_))
   first | refine Bi rfl rfl 3 rfl .free rfl ?_ | refine Bj rfl rfl 3 rfl .free rfl ?_
   refine Em rfl .free rfl ?_; refine Cz (I' := J1) (L' := MS.own b0 ot tk ct (a.mk tk n).n ⟨y.ns ++ [z], y.es ++ [(a.mk tk n).e], some (bb, sb), c2, y.xs ++ [.string (str (a.mk tk n).e.tree.atom), .slice o1 (a.mk tk n).e.tree.parts.length k1], some (bq, sq), c3⟩ ((b4, .cells [.string (str []), .slice none 0 0].toArray 41 (0, 0)) :: L)) (fun w h => ?_) ?_
   ·have h2 := (Mem.sub (L' := (bq, _) :: (bb, _) :: (b4, _) :: (b0, _) :: L) (by repeat (first | exact List.Sublist.refl _ | apply List.Sublist.cons_cons | apply List.Sublist.cons)) h).f3.sw
    simpa only [MS.own, Mu, A2, Bd, List.map_append, List.map_cons, List.map_nil, List.append_assoc, List.length_append, List.length_cons, List.length_nil, List.cons_append, List.nil_append] using h2
   refine Ca rfl (ihn (by omega) (hf.as 3 b.tree (by omega) rfl) hok.2 htk b0 (a.mk tk n).n (by omega) _ hy2 (by simp only [List.length_append, List.length_cons, List.length_nil]; omega) (by simp [hyl2]) _) ?_; rintro _ J2 _ e2 ⟨cs2, y2, rfl, hr2, hy3, hyn2, hys2, rfl⟩; obtain ⟨o2, k4, _, rfl, -⟩ := hr2.open
   have hle := hle.trans e2
   unfold MS.own
   refine Cz (fun w h => Mem.vm1 h) ?_; refine Bp rfl rfl rfl rfl .free ?_; refine Aa ?_; refine Ag (.c rfl .nil) ?_; refine ⟨J2, _, hle, fun w h => h.drop, _, y2, rfl, hr2, hy3, ?_, ?_, rfl⟩
   ·simp only [hyn2, hyn, List.map_append, List.map_cons, List.append_assoc, List.cons_append, List.nil_append]
   ·simp only [hys2, hys, List.map_append, List.map_cons, List.append_assoc, List.cons_append, List.nil_append]
  ·skip
   refine Pp 12 rfl rfl rfl rfl rfl rfl .free (.inr Al) ?_ (hu := u9); refine Dx 9 rfl rfl rfl rfl ?_ (hu := u0) (hus := Gz (xs := y.xs) (zs := [_, _]) (sp := sq) (by omega) rfl); refine Au (by kernel_rfl) ?_; refine Ab ?_
   have hy2 : MS.ok J1 ⟨y.ns ++ [z], y.es ++ [(a.mk tk n).e], some (bb, sb), c2, y.xs ++ [.string (str (a.mk tk n).e.tree.atom), .slice o1 (a.mk tk n).e.tree.parts.length k1], some (bq, sq), c3⟩ := by
    refine ⟨by simpa using hB1, ⟨by have := hB2.1; simp at this ⊢; omega, by simpa using hB2.2.1, by simpa using hB2.2.2⟩, by simpa using hy.rep.append (.one hr), ?_⟩; intro s hs
    rcases List.mem_append.1 hs with hs | hs
    ·exact hy.each s hs
    ·rw [List.mem_singleton.1 hs]; exact hzl
   refine Ah rfl (Om rfl (Om rfl ?_))
   first | refine Bi rfl rfl 3 rfl .free rfl ?_ | refine Bj rfl rfl 3 rfl .free rfl ?_
   refine Em rfl .free rfl ?_; refine Cz (I' := J1) (L' := MS.own b0 ot tk ct (a.mk tk n).n ⟨y.ns ++ [z], y.es ++ [(a.mk tk n).e], some (bb, sb), c2, y.xs ++ [.string (str (a.mk tk n).e.tree.atom), .slice o1 (a.mk tk n).e.tree.parts.length k1], some (bq, sq), c3⟩ ((b4, .cells [.string (str []), .slice none 0 0].toArray 41 (0, 0)) :: L)) (fun w h => ?_) ?_
   ·have h2 := (Mem.sub (L' := (bq, _) :: (bb, _) :: (b4, _) :: (b0, _) :: L) (by repeat (first | exact List.Sublist.refl _ | apply List.Sublist.cons_cons | apply List.Sublist.cons)) h).f3.sw
    simpa only [MS.own, Mu, A2, Bd, List.map_append, List.map_cons, List.map_nil, List.append_assoc, List.length_append, List.length_cons, List.length_nil, List.cons_append, List.nil_append] using h2
   refine Ca rfl (ihn (by omega) (hf.as 3 b.tree (by omega) rfl) hok.2 htk b0 (a.mk tk n).n (by omega) _ hy2 (by simp only [List.length_append, List.length_cons, List.length_nil]; omega) (by simp [hyl2]) _) ?_; rintro _ J2 _ e2 ⟨cs2, y2, rfl, hr2, hy3, hyn2, hys2, rfl⟩; obtain ⟨o2, k4, _, rfl, -⟩ := hr2.open
   have hle := hle.trans e2
   unfold MS.own
   refine Cz (fun w h => Mem.vm1 h) ?_; refine Bp rfl rfl rfl rfl .free ?_; refine Aa ?_; refine Ag (.c rfl .nil) ?_; refine ⟨J2, _, hle, fun w h => h.drop, _, y2, rfl, hr2, hy3, ?_, ?_, rfl⟩
   ·simp only [hyn2, hyn, List.map_append, List.map_cons, List.append_assoc, List.cons_append, List.nil_append]
   ·simp only [hys2, hys, List.map_append, List.map_cons, List.append_assoc, List.cons_append, List.nil_append]
 ·skip
  refine D0 6 rfl rfl rfl rfl (by rfl) (by rfl) (by rfl) (by decide) (by decide) (by rfl) .free rfl (.inr Al) ?_; intro b49; refine Pc 3 rfl (by kernel_rfl) rfl (Ij rfl (by first | exact Dv (.tail _ m6) (by rfl) rfl | exact Dv (.tail _ (.tail _ m6)) (by rfl) rfl)) .free rfl (.inr Al) ?_; refine Da 5 rfl (D9 rfl) ?_
  refine B8 7 (B := y.B2) (xs := y.xs) (ys := [.string (str []), .slice none 0 0]) (m := y.es.length) (c := y.c2) rfl (by kernel_rfl) rfl (by intro kk; simp) (by rfl) (by rw [hu2]; rfl) rfl hy.b2 (fun _ h => h.u9) (by rfl) (fun a ha => by cases ha; exact B0 (.head _) (by rfl)) (by simp) (by rfl) (by decide) (by omega) (by decide) .free rfl (fun _ => .inr Al) ?_; intro B2 c3 hB2; obtain ⟨bq, sq, rfl⟩ : ∃ bq sq, B2 = some (bq, sq) := by
   cases B2 with
   | none => exact absurd hB2.1 (by simp)
   | some z => exact ⟨z.1, z.2, rfl⟩
  have hxl2 := hy.rep.length
  rw [List.length_map] at hxl2
  simp only [A2, List.cons_append, List.nil_append, List.append_assoc]
  refine Da 8 rfl (E1 rfl rfl _ rfl (by omega) rfl) ?_; refine E6 (t := 51) rfl (congrArg (fun a => Value.pointer (some a)) (L0 bq (y.es.length * 2))) ?_; refine Da 10 rfl (Ch rfl) ?_
  first | refine Da 11 rfl (Ae rfl) ?_ | refine Da 11 rfl (Ba rfl) ?_
  refine E7 9 12 (by kernel_rfl) ?_ ?_
  ·skip
   refine Pp 9 rfl rfl rfl rfl rfl rfl .free (.inl (by kernel_rfl)) ?_ (hu := u0) (hus := Gz (xs := y.xs) (zs := [_, _]) (sp := sq) (by omega) rfl); refine Aa3 12 rfl (by kernel_rfl) rfl rfl rfl rfl rfl .free (.inr Al) ?_ (hu := u9); refine Au (by kernel_rfl) ?_; refine Ab ?_
   have hy2 : MS.ok J1 ⟨y.ns ++ [z], y.es ++ [(a.mk tk n).e], some (bb, sb), c2, y.xs ++ [.string (str (a.mk tk n).e.tree.atom), .slice o1 (a.mk tk n).e.tree.parts.length k1], some (bq, sq), c3⟩ := by
    refine ⟨by simpa using hB1, ⟨by have := hB2.1; simp at this ⊢; omega, by simpa using hB2.2.1, by simpa using hB2.2.2⟩, by simpa using hy.rep.append (.one hr), ?_⟩; intro s hs
    rcases List.mem_append.1 hs with hs | hs
    ·exact hy.each s hs
    ·rw [List.mem_singleton.1 hs]; exact hzl
   refine Ah rfl (Om rfl (Om rfl ?_))
   first | refine Bi rfl rfl 3 rfl .free rfl ?_ | refine Bj rfl rfl 3 rfl .free rfl ?_
   refine Em rfl .free rfl ?_; refine Cz (I' := J1) (L' := MS.own b0 ot tk ct (a.mk tk n).n ⟨y.ns ++ [z], y.es ++ [(a.mk tk n).e], some (bb, sb), c2, y.xs ++ [.string (str (a.mk tk n).e.tree.atom), .slice o1 (a.mk tk n).e.tree.parts.length k1], some (bq, sq), c3⟩ ((b4, .cells [.string (str []), .slice none 0 0].toArray 41 (0, 0)) :: L)) (fun w h => ?_) ?_
   ·have h2 := (Mem.sub (L' := (bq, _) :: (bb, _) :: (b4, _) :: (b0, _) :: L) (by repeat (first | exact List.Sublist.refl _ | apply List.Sublist.cons_cons | apply List.Sublist.cons)) h).f3.sw
    simpa only [MS.own, Mu, A2, Bd, List.map_append, List.map_cons, List.map_nil, List.append_assoc, List.length_append, List.length_cons, List.length_nil, List.cons_append, List.nil_append] using h2
   refine Ca rfl (ihn (by omega) (hf.as 3 b.tree (by omega) rfl) hok.2 htk b0 (a.mk tk n).n (by omega) _ hy2 (by simp only [List.length_append, List.length_cons, List.length_nil]; omega) (by simp [hyl2]) _) ?_; rintro _ J2 _ e2 ⟨cs2, y2, rfl, hr2, hy3, hyn2, hys2, rfl⟩; obtain ⟨o2, k4, _, rfl, -⟩ := hr2.open
   have hle := hle.trans e2
   unfold MS.own
   refine Cz (fun w h => Mem.vm1 h) ?_; refine Bp rfl rfl rfl rfl .free ?_; refine Aa ?_; refine Ag (.c rfl .nil) ?_; refine ⟨J2, _, hle, fun w h => h.drop, _, y2, rfl, hr2, hy3, ?_, ?_, rfl⟩
   ·simp only [hyn2, hyn, List.map_append, List.map_cons, List.append_assoc, List.cons_append, List.nil_append]
   ·simp only [hys2, hys, List.map_append, List.map_cons, List.append_assoc, List.cons_append, List.nil_append]
  ·skip
   refine Pp 12 rfl rfl rfl rfl rfl rfl .free (.inr Al) ?_ (hu := u9); refine Dx 9 rfl rfl rfl rfl ?_ (hu := u0) (hus := Gz (xs := y.xs) (zs := [_, _]) (sp := sq) (by omega) rfl); refine Au (by kernel_rfl) ?_; refine Ab ?_
   have hy2 : MS.ok J1 ⟨y.ns ++ [z], y.es ++ [(a.mk tk n).e], some (bb, sb), c2, y.xs ++ [.string (str (a.mk tk n).e.tree.atom), .slice o1 (a.mk tk n).e.tree.parts.length k1], some (bq, sq), c3⟩ := by
    refine ⟨by simpa using hB1, ⟨by have := hB2.1; simp at this ⊢; omega, by simpa using hB2.2.1, by simpa using hB2.2.2⟩, by simpa using hy.rep.append (.one hr), ?_⟩; intro s hs
    rcases List.mem_append.1 hs with hs | hs
    ·exact hy.each s hs
    ·rw [List.mem_singleton.1 hs]; exact hzl
   refine Ah rfl (Om rfl (Om rfl ?_))
   first | refine Bi rfl rfl 3 rfl .free rfl ?_ | refine Bj rfl rfl 3 rfl .free rfl ?_
   refine Em rfl .free rfl ?_; refine Cz (I' := J1) (L' := MS.own b0 ot tk ct (a.mk tk n).n ⟨y.ns ++ [z], y.es ++ [(a.mk tk n).e], some (bb, sb), c2, y.xs ++ [.string (str (a.mk tk n).e.tree.atom), .slice o1 (a.mk tk n).e.tree.parts.length k1], some (bq, sq), c3⟩ ((b4, .cells [.string (str []), .slice none 0 0].toArray 41 (0, 0)) :: L)) (fun w h => ?_) ?_
   ·have h2 := (Mem.sub (L' := (bq, _) :: (bb, _) :: (b4, _) :: (b0, _) :: L) (by repeat (first | exact List.Sublist.refl _ | apply List.Sublist.cons_cons | apply List.Sublist.cons)) h).f3.sw
    simpa only [MS.own, Mu, A2, Bd, List.map_append, List.map_cons, List.map_nil, List.append_assoc, List.length_append, List.length_cons, List.length_nil, List.cons_append, List.nil_append] using h2
   refine Ca rfl (ihn (by omega) (hf.as 3 b.tree (by omega) rfl) hok.2 htk b0 (a.mk tk n).n (by omega) _ hy2 (by simp only [List.length_append, List.length_cons, List.length_nil]; omega) (by simp [hyl2]) _) ?_; rintro _ J2 _ e2 ⟨cs2, y2, rfl, hr2, hy3, hyn2, hys2, rfl⟩; obtain ⟨o2, k4, _, rfl, -⟩ := hr2.open
   have hle := hle.trans e2
   unfold MS.own
   refine Cz (fun w h => Mem.vm1 h) ?_; refine Bp rfl rfl rfl rfl .free ?_; refine Aa ?_; refine Ag (.c rfl .nil) ?_; refine ⟨J2, _, hle, fun w h => h.drop, _, y2, rfl, hr2, hy3, ?_, ?_, rfl⟩
   ·simp only [hyn2, hyn, List.map_append, List.map_cons, List.append_assoc, List.cons_append, List.nil_append]
   ·simp only [hys2, hys, List.map_append, List.map_cons, List.append_assoc, List.cons_append, List.nil_append]
set_option maxHeartbeats 1000000 in
theorem Aag {N : Nat} (ihn : Np N) {h1 z : Am} {s u : Ty} {b : Ex} {I : Heap} {cs : List Value} (hlt : SizeOf.sizeOf (Ex.fn h1 z s u b) < N + 1) (h : Rep I (Ex.fn h1 z s u b).tree cs) (hok : (Ex.fn h1 z s u b).ok = true) {ot : Option Addr} {tk : List Am} {ct : Nat} (htk : Strs I ot tk ct) (b0 n : Nat) (hn : n + (Ex.fn h1 z s u b).size + tk.length ≤ 900 + Eb 121 tk n) (x : MS) (hx : x.ok I) (hxl : x.ns.length + (Ex.fn h1 z s u b).size ≤ 100000) (hxe : x.es.length = x.ns.length) (L : Bc) :
  Fun Tryz.prog 103 [.pointer (some ⟨b0, 0, none⟩), .agg cs.toArray] I (x.own b0 ot tk ct n L) (MP b0 ot tk ct x ((Ex.fn h1 z s u b).mk tk n) L) := by
 obtain ⟨oa, c, oaf, cf1, rfl, hf, hcl, hcs⟩ := h.cells
 have hle : HLe I I := .refl _
 have hh0 := Bf 121 tk n
 have hpos : 0 < (Ex.fn h1 z s u b).tree.parts.length := by show 0 < 6; decide
 obtain ⟨xa, rfl⟩ : ∃ xa, oa = some xa := ⟨_, Ev hf.nil hpos⟩
 have hlen : (Ex.fn h1 z s u b).tree.parts.length = 6 := rfl
 have hp0 : ((Ex.fn h1 z s u b).tree.pt 0).atom = Cq := rfl
 simp only [Ex.fn.sizeOf_spec] at hlt
 simp only [Ex.ok, Bool.and_eq_true, decide_eq_true_eq] at hok
 simp only [Ex.size] at hn hxl
 simp only [Ex.mk]
 unfold MS.own
 refine Aj (by simp) ?_; refine Se rfl ?_; refine Cc rfl rfl .free rfl ?_; intro b3; refine At .free rfl ?_; intro b4; refine Aa (Ab (Se rfl (Oh rfl ?_))); refine Bg rfl .free rfl ?_; refine Od rfl rfl rfl (Aa ?_)
 first | refine Eu rfl (by simp [Ex.tree, Tree.atom]) ?_ | refine Et rfl (by simp [Ex.tree, Tree.atom]) ?_ | refine A8 (by simp [Bu, Bo, *]) ?_
 refine Af (Se rfl (Oh rfl ?_)); refine Bg rfl .free rfl ?_; refine Oa rfl (Aa (Se rfl ?_)); refine C5 .free rfl ?_; intro b15; refine Om rfl ?_; refine D5 (B := some (b15, [])) (xs := []) (ys := Df oaf cf1 0 (Ex.fn h1 z s u b).tree.parts) (m := 0) (c := 0) (by intro kk; simp) (by rfl) rfl rfl ⟨rfl, Nat.le_refl _, rfl⟩ (fun _ h => h) (by have := hcl.length; omega) (fun a ha => by cases ha; exact (hcs _ rfl).reads) (by simp) hcl.plain hpos (by decide) (by omega) (by decide) .free rfl ?_; intro bc sp cc hB'
 have hcc : (Ex.fn h1 z s u b).tree.parts.length ≤ cc := by have := hB'.2.1; omega
 refine F1 (t := 17) (v' := .slice (some ⟨bc, 0, none⟩) (Ex.fn h1 z s u b).tree.parts.length cc) rfl (by rw [Nat.zero_add]) ?_
 simp only [List.nil_append]
 simp only [show (Ex.fn h1 z s u b).tree.parts = [.node Cq [], .node h1 [], .node z [], s.tree, u.tree, b.tree] from rfl, Df, List.cons_append, List.nil_append]
 refine Cf rfl rfl rfl .free rfl ?_; refine At .free rfl ?_; intro b6; refine Bp rfl rfl rfl rfl .free ?_; refine Aa (Ab (Se rfl (Om rfl ?_)))
 first | refine Bi rfl rfl 0 rfl .free rfl ?_ | refine Bj rfl rfl 0 rfl .free rfl ?_
 refine A3 rfl .free rfl ?_; refine Es rfl .free rfl ?_; refine Aa (Ai (Ab ?_)); obtain ⟨a1, k2, hu1⟩ := F8 hx.b1; obtain ⟨a2, k3, hu2⟩ := F8 hx.b2; rw [hu1, hu2]
 unfold Mu
 refine Ah rfl (Od rfl rfl rfl (Oa rfl (Aa ?_)))
 first | refine Eu rfl (by rw [hp0]; decide) ?_ | refine Et rfl (by rw [hp0]; decide) ?_ | refine A8 (by simp [Bu, Bo, *]) ?_
 refine Se rfl (Od rfl rfl rfl (Oa rfl (Aa ?_)))
 first | refine Ji rfl (by rw [hp0]; rfl) ?_ | refine Jh rfl (by rw [hp0]; rfl) ?_ | refine Cm (by simp [Bu, Bo, *]) ?_
 refine Ab ?_; refine C0 fun hlr => ?_
 have g1 := b.mk_g tk n
 have mh1 := b.mk_hits tk n
 have hz1 := Bf 121 tk n
 refine C4 (fun w h => h.f4) ?_; refine Ge 9 rfl rfl ?_; refine Da 0 rfl (Ae rfl) ?_; refine Dt 1 [8] rfl (A7 rfl) ?_; refine Da 2 rfl (Ac rfl) ?_; refine Da 3 rfl (Ac rfl) ?_
 first | refine Da 4 rfl (A4 rfl rfl 5 rfl) ?_ | refine Da 4 rfl (A5 rfl rfl 5 rfl) ?_
 refine Dt 5 [8] rfl (Bz rfl) ?_; refine Dc 6 rfl rfl (Jn ihn (by omega) (hf.as 5 b.tree (by omega) rfl) hok.2 htk b0 n (by omega) (by omega) _) ?_; rintro _ J1 _ e1 ⟨cs1, rfl, hr_1, rfl⟩; obtain ⟨o1, k1, _, rfl, -⟩ := hr_1.open
 have hlr := hlr.trans e1
 have hf := hf.mono e1
 have htk := htk.mono e1
 have hle := hle.trans e1
 unfold Mu
 refine Hx ?_
 first | refine Da 7 rfl (A4 rfl rfl 5 rfl) ?_ | refine Da 7 rfl (A5 rfl rfl 5 rfl) ?_
 refine Dx 8 rfl rfl rfl rfl ?_; refine Au (by kernel_rfl) ?_; refine Se rfl ?_; refine Aw rfl .free rfl ?_; refine Bp rfl rfl rfl rfl .free ?_; refine Aa ?_; refine C4 (fun w h => h.f2) (Bx ?_); intro hz
 have hf := hf.mono hz
 refine Ag (.c rfl .nil) ?_
 refine ⟨_, _, hle.trans hz, fun w h => Mem.sub (L' := (b0, _) :: (A2 9 (x.ns.map sv) x.B1 ++ (A2 41 x.xs x.B2 ++ L))) (by repeat (first | exact List.Sublist.refl _ | apply List.Sublist.cons_cons | apply List.Sublist.cons)) h, _, x, rfl, .mk' rfl (.cons (hf.as 0 (.node Cq []) (by omega) rfl) (.cons (hf.as 1 (.node h1 []) (by omega) rfl) (.cons (hf.as 2 (.node z []) (by omega) rfl) (.cons (hf.as 3 s.tree (by omega) rfl) (.cons (hf.as 4 u.tree (by omega) rfl) (.cons (hr_1.mono hz) (.nil))))))) (fun y hy => by cases hy; exact Ax (xs := [_, _, _, _, _, _, _, _, _, _, _, _])) (by simp) hcc (by simp [Ap]) (by simp [Ap]), hx.mono (hle.trans hz), by simp, by simp, ?_⟩
 unfold MS.own Mu; rw [hu1, hu2]
set_option maxHeartbeats 1000000 in
theorem Aai {N : Nat} (ihn : Np N) {o : U2} {a : Ex} {I : Heap} {cs : List Value} (hlt : SizeOf.sizeOf (Ex.un o a) < N + 1) (h : Rep I (Ex.un o a).tree cs) (hok : (Ex.un o a).ok = true) {ot : Option Addr} {tk : List Am} {ct : Nat} (htk : Strs I ot tk ct) (b0 n : Nat) (hn : n + (Ex.un o a).size + tk.length ≤ 900 + Eb 121 tk n) (x : MS) (hx : x.ok I) (hxl : x.ns.length + (Ex.un o a).size ≤ 100000) (hxe : x.es.length = x.ns.length) (L : Bc) :
  Fun Tryz.prog 103 [.pointer (some ⟨b0, 0, none⟩), .agg cs.toArray] I (x.own b0 ot tk ct n L) (MP b0 ot tk ct x ((Ex.un o a).mk tk n) L) := by
 obtain ⟨oa, c, oaf, cf1, rfl, hf, hcl, hcs⟩ := h.cells
 have hle : HLe I I := .refl _
 have hh0 := Bf 121 tk n
 have hpos : 0 < (Ex.un o a).tree.parts.length := by show 0 < 2; decide
 obtain ⟨xa, rfl⟩ : ∃ xa, oa = some xa := ⟨_, Ev hf.nil hpos⟩
 have hlen : (Ex.un o a).tree.parts.length = 2 := rfl
 have hp0 : ((Ex.un o a).tree.pt 0).atom = o.txt := rfl
 simp only [Ex.un.sizeOf_spec] at hlt
 have hok : a.ok = true := hok
 simp only [Ex.size] at hn hxl
 simp only [Ex.mk]
 unfold MS.own
 refine Aj (by simp) ?_; refine Se rfl ?_; refine Cc rfl rfl .free rfl ?_; intro b3; refine At .free rfl ?_; intro b4; refine Aa (Ab (Se rfl (Oh rfl ?_))); refine Bg rfl .free rfl ?_; refine Od rfl rfl rfl (Aa ?_)
 first | refine Eu rfl (by simp [Ex.tree, Tree.atom]) ?_ | refine Et rfl (by simp [Ex.tree, Tree.atom]) ?_ | refine A8 (by simp [Bu, Bo, *]) ?_
 refine Af (Se rfl (Oh rfl ?_)); refine Bg rfl .free rfl ?_; refine Oa rfl (Aa (Se rfl ?_)); refine C5 .free rfl ?_; intro b15; refine Om rfl ?_; refine D5 (B := some (b15, [])) (xs := []) (ys := Df oaf cf1 0 (Ex.un o a).tree.parts) (m := 0) (c := 0) (by intro kk; simp) (by rfl) rfl rfl ⟨rfl, Nat.le_refl _, rfl⟩ (fun _ h => h) (by have := hcl.length; omega) (fun a ha => by cases ha; exact (hcs _ rfl).reads) (by simp) hcl.plain hpos (by decide) (by omega) (by decide) .free rfl ?_; intro bc sp cc hB'
 have hcc : (Ex.un o a).tree.parts.length ≤ cc := by have := hB'.2.1; omega
 refine F1 (t := 17) (v' := .slice (some ⟨bc, 0, none⟩) (Ex.un o a).tree.parts.length cc) rfl (by rw [Nat.zero_add]) ?_
 simp only [List.nil_append]
 simp only [show (Ex.un o a).tree.parts = [.node o.txt [], a.tree] from rfl, Df, List.cons_append, List.nil_append]
 refine Cf rfl rfl rfl .free rfl ?_; refine At .free rfl ?_; intro b6; refine Bp rfl rfl rfl rfl .free ?_; refine Aa (Ab (Se rfl (Om rfl ?_)))
 first | refine Bi rfl rfl 0 rfl .free rfl ?_ | refine Bj rfl rfl 0 rfl .free rfl ?_
 refine A3 rfl .free rfl ?_; refine Es rfl .free rfl ?_; refine Aa (Ai (Se rfl (Od rfl rfl rfl (Oa rfl (Aa ?_)))))
 first | refine Eu rfl (by rw [hp0]; cases o <;> decide) ?_ | refine Et rfl (by rw [hp0]; cases o <;> decide) ?_ | refine A8 (by simp [Bu, Bo, *]) ?_
 refine Se rfl (Od rfl rfl rfl (Oa rfl (Aa ?_)))
 first | refine Eu rfl (by rw [hp0]; cases o <;> decide) ?_ | refine Et rfl (by rw [hp0]; cases o <;> decide) ?_ | refine A8 (by simp [Bu, Bo, *]) ?_
 refine Se rfl (Od rfl rfl rfl (Oa rfl (Aa ?_)))
 first | refine Eu rfl (by rw [hp0]; cases o <;> decide) ?_ | refine Et rfl (by rw [hp0]; cases o <;> decide) ?_ | refine A8 (by simp [Bu, Bo, *]) ?_
 refine Af (Ak (Ab (Se rfl (Oa rfl (Aa (Ai ?_)))))); refine Dd ?_; refine Ab (Se rfl (Om rfl (Om rfl (On rfl (Oc rfl rfl rfl (Aa ?_)))))); refine Bn rfl (by first | rfl | decide | (simp; done) | omega) ?_; refine Af (Ab (Ai ?_)); refine C0 fun hlr => ?_
 have g1 := a.mk_g tk n
 have mh1 := a.mk_hits tk n
 have gp1 := MK.pt_g tk _ g1.1 g1.2
 have mp1 := MK.pt_hits tk _ mh1
 have lp1 := MK.pt_len tk _ (a.mk_len tk n)
 have hz1 := Bf 121 tk n
 refine Z7 11 rfl rfl ?_; refine Da 0 rfl (Ae rfl) ?_; refine Dt 1 [10] rfl (A7 rfl) ?_; refine Da 2 rfl (Ac rfl) ?_; refine Da 3 rfl (Ac rfl) ?_; refine Da 4 rfl (Ac rfl) ?_; refine Da 5 rfl (Ac rfl) ?_
 first | refine Da 6 rfl (A4 rfl rfl _ rfl) ?_ | refine Da 6 rfl (A5 rfl rfl _ rfl) ?_
 refine Dt 7 [10] rfl (Bz rfl) ?_; refine Be (fun w h => Mem.mv4 h) ?_; refine Dc 8 rfl rfl (Jm ihn (by omega) (hf.as 1 a.tree (by omega) rfl) hok htk b0 n (by omega) x hx (by omega) hxe _) ?_; rintro _ J1 _ e1 ⟨cs1, y1, rfl, hr_1, hy1, hy1n, hy1s, rfl⟩; obtain ⟨o1, k1, _, rfl, -⟩ := hr_1.open
 have hy1l : y1.ns.length = x.ns.length + ((a.mk tk n).pt tk).ns.length := by rw [hy1n]; simp
 have hy1e : y1.es.length = y1.ns.length := by rw [hy1s, hy1n]; simp [hxe]
 have hlr := hlr.trans e1
 have hf := hf.mono e1
 have htk := htk.mono e1
 have hle := hle.trans e1
 unfold MS.own
 refine Hx ?_; refine Be (fun w h => Mem.vm4 h) ?_
 first | refine Da 9 rfl (A4 rfl rfl _ rfl) ?_ | refine Da 9 rfl (A5 rfl rfl _ rfl) ?_
 refine Dx 10 rfl rfl rfl rfl ?_; refine Au (by kernel_rfl) ?_; refine Ak (Ah rfl (Om rfl ?_)); refine Or rfl rfl rfl ?_; refine Oa rfl (Aa ?_); refine Bm ?_; refine Ab (Se rfl (Om rfl (Om rfl (On rfl (Oc rfl rfl rfl (Aa ?_)))))); refine Co rfl (by first | rfl | decide | (simp; done) | omega) ?_; refine Bq rfl ?_; refine Se rfl ?_; refine Aw rfl .free rfl ?_; refine Bp rfl rfl rfl rfl .free ?_; refine Aa ?_; refine C4 (fun w h => h.f1) (Bx ?_); intro hz
 have hf := hf.mono hz
 refine Ag (.c rfl .nil) ?_; refine ⟨_, _, hle.trans hz, fun w h => h.drop.drop.drop, _, y1, rfl, .mk' rfl (.cons (hf.as 0 (.node o.txt []) (by omega) rfl) (.cons (hr_1.mono hz) (.nil))) (fun y hy => by cases hy; exact Ax (xs := [_, _, _, _])) (by simp) hcc (by simp [Ap]) (by simp [Ap]), hy1.mono hz, by simpa using hy1n, by simpa using hy1s, ?_⟩
 rfl
theorem W7 {e : Ex} {I : Heap} {cs : List Value} (hb : e.bare = true) (h : Rep I e.tree cs) (hok : e.ok = true) {ot : Option Addr} {tk : List Am} {ct : Nat} (b0 n : Nat) (x : MS) (hx : x.ok I) (L : Bc) :
  Fun Tryz.prog 103 [.pointer (some ⟨b0, 0, none⟩), .agg cs.toArray] I (x.own b0 ot tk ct n L) (MP b0 ot tk ct x (e.mk tk n) L) := by
 obtain ⟨oa, c, oaf, cf1, rfl, hf⟩ := h.at'
 have hm : e.mk tk n = ⟨e, [], n, 0⟩ := by cases e <;> first | rfl | cases hb
 rw [hm]
 unfold MS.own
 refine Aj (by simp) ?_; refine Se rfl ?_; refine Cc rfl rfl .free rfl ?_; intro b3; refine At .free rfl ?_; intro b4; refine Aa (Ab (Se rfl (Oh rfl ?_))); refine Bg rfl .free rfl ?_; refine Od rfl rfl rfl (Aa ?_)
 first | refine Ji rfl (by exact fun h2 => by have h3 := (Ex.atom_iff hok).1 h2; rw [hb] at h3; cases h3) ?_ | refine Jh rfl (by exact fun h2 => by have h3 := (Ex.atom_iff hok).1 h2; rw [hb] at h3; cases h3) ?_ | refine Cm (by simp [Bu, Bo, *]) ?_
 refine Se rfl ?_; refine Aw rfl .free rfl ?_; refine Bp rfl rfl rfl rfl .free ?_; refine Aa ?_; refine Ag (.c rfl .nil) ?_
 exact ⟨I, _, .refl _, fun w h => h.drop.drop, _, x, rfl, hf.rep, hx, by simp, by simp, rfl⟩
theorem Yw : ∀ N : Nat, Np N := by
 intro N
 induction N with
 | zero => intro I e cs h; omega
 | succ N ihn =>
  intro I e cs hlt h hok ot tk ct htk b0 n hn x hx hxl hxe L
  cases hb : e.bare with
  | true => exact W7 hb h hok b0 n x hx L
  | false =>
   cases e with
   | num s => cases hb
   | name s => cases hb
   | bin o a b => exact Yx ihn hlt h hok htk b0 n hn x hx hxl hxe L
   | ite a b d => exact Yy ihn hlt h hok htk b0 n hn x hx hxl hxe L
   | lt z a b => exact Aah ihn hlt h hok htk b0 n hn x hx hxl hxe L
   | fn h1 z s u b => exact Aag ihn hlt h hok htk b0 n hn x hx hxl hxe L
   | un o a => exact Aai ihn hlt h hok htk b0 n hn x hx hxl hxe L
theorem Aa8 {I : Heap} {e : Ex} {cs : List Value} (h : Rep I e.tree cs) (hfine : e.fine = true) (L : Bc) : Fun Tryz.prog 49 [.agg cs.toArray] I L (fun v I' L' => ∃ ds, v = .tuple #[.agg (List.toArray ds), .bool (decide (e.made.n ≤ 100))] ∧ Rep I' e.normal.tree ds ∧ L = L') := by
 obtain ⟨oa, c, oaf, cf, rfl, hf⟩ := h.at'
 have hpf := Fx hfine
 have hpf2 := hpf
 simp only [Ex.fine, Bool.and_eq_true, decide_eq_true_eq, Tree.fits] at hpf2
 have hroom := K3 hfine
 have hpg := Ex.tree_good hpf2.1.1
 have hpz := hpf2.1.2
 have hpsz : e.plain.tree.size ≤ 120 := by rw [Ex.tree_size]; exact hpf2.1.2
 refine Aj (by simp) ?_; refine Se rfl ?_; refine Cc rfl rfl .free rfl ?_; intro b1; refine At .free rfl ?_; intro b2; refine Oa rfl (Aa (Se rfl ?_)); refine Aw rfl .free rfl ?_; refine Ca rfl (T5 hf.rep hfine _) ?_; rintro _ J1 _ e1 ⟨ds, rfl, hr, rfl⟩; obtain ⟨o1, k1, _, rfl, -⟩ := hr.open; refine Om rfl (Oe rfl rfl (Oe rfl rfl ?_)); refine At .free rfl ?_; intro b4; refine Bp rfl rfl rfl rfl .free ?_; refine Oa rfl (Aa (Ab (Se rfl (Om rfl ?_)))); refine Dy rfl .free rfl ?_; refine Aa ?_
 first | refine Sf rfl (by simp) ?_ | refine A8 (by simp [Bu, Bo, *]) ?_
 refine Af (Se rfl ?_); refine Aw rfl .free rfl ?_; refine C5 .free rfl ?_; intro b17; refine Cz (L' := A2 9 (([] : List Am).map sv) (some (b17, [])) ++ _) (fun w h => h) ?_; refine Ca rfl (Q4 _ (Nat.lt_succ_self _) hr hpg.1 [] (some (b17, [])) 0 (by simp; omega) ⟨rfl, Nat.le_refl _, rfl⟩ _) ?_; rintro _ _ _ _ ⟨rfl, B2, c2, rfl, hB2, rfl⟩
 have htl : e.tk.length ≤ 120 := hroom.2.2
 refine Jq hB2 rfl (by show e.tk.length ≤ Ap; unfold Ap; omega) (Aam hfine) ?_; intro J2 oz cz ez hbv hst; refine F1 (t := 18) rfl hbv ?_
 have hst : Strs J2 oz e.tk cz := hst
 have hr := hr.mono ez
 have hle := e1.trans ez
 refine C5 .free rfl ?_; intro b19; refine C5 .free rfl ?_; intro b20; refine Cf rfl rfl rfl .free rfl ?_; refine Cc rfl rfl .free rfl ?_; intro b22; refine Oa rfl (Aa (Se rfl (Om rfl ?_))); refine Aw rfl .free rfl ?_; refine Cz (L' := Mu b22 oz e.tk cz 0 (.slice (some ⟨b19, 0, none⟩) 0 0) (.slice (some ⟨b20, 0, none⟩) 0 0) :: _) (fun w h => h) ?_; refine Ca rfl (Jn (Yw _) (Nat.lt_succ_self _) hr hpf2.1.1 hst b22 0 (by omega) (by omega) _) ?_; rintro _ J3 _ e3 ⟨cs3, rfl, hr3, rfl⟩
 have hr3 : Rep J3 e.normal.tree cs3 := hr3
 obtain ⟨o3, k3, _, rfl, -⟩ := hr3.open
 unfold Mu
 have hle := hle.trans e3
 refine At .free rfl ?_; intro b7; refine Bp rfl rfl rfl rfl .free ?_; refine Aa (Ab ?_); refine Do 8 rfl rfl ?_; refine Dt 0 [6] rfl (Cd rfl) ?_; refine Da 1 rfl (Ac rfl) ?_; refine Da 2 rfl (Ch rfl) ?_
 first | refine Da 3 rfl (Ae rfl) ?_ | refine Da 3 rfl (Ba rfl) ?_
 refine E7 4 6 (by kernel_rfl) ?_ ?_
 ·skip
  refine Nx 4 rfl rfl (Nn rfl) .free rfl (.inr Al) ?_; refine Da 5 rfl (Iu rfl rfl rfl) ?_; refine Dx 6 rfl rfl rfl rfl ?_; refine Db 7 rfl (Bh rfl) ?_; refine Au (by kernel_rfl) ?_; refine Ag (.c rfl (.tmp rfl .nil)) ?_
  exact ⟨J3, L, hle, Bt, _, by simp [By, Ex.made]; exact decide_eq_decide.2 (by omega), hr3, rfl⟩
 ·skip
  refine Pp 6 rfl rfl rfl rfl rfl rfl .free (.inl (by kernel_rfl)) ?_; refine Pc 4 rfl (by kernel_rfl) rfl (Nn rfl) .free rfl (.inl (by kernel_rfl)) ?_; refine Db 5 rfl (Iu rfl rfl rfl) ?_; refine Db 7 rfl (Bh rfl) ?_; refine Au (by kernel_rfl) ?_; refine Ag (.c rfl (.tmp rfl .nil)) ?_
  exact ⟨J3, L, hle, Bt, _, by simp [By, Ex.made]; exact decide_eq_decide.2 (by omega), hr3, rfl⟩
theorem Vh (s : Am) (hs : s.length ≤ I4) (I : Heap) (L : Bc) : Fun Tryz.prog 22 [.string (str s)] I L (EL (Pv s) L) := by
 refine Aj (by simp) ?_; refine Se rfl (Oa rfl (Oa rfl (Aa (Se rfl (Om rfl ?_))))); refine Ca rfl (Ln s hs _ _) ?_; rintro _ J _ hleJ ⟨t, cs, ok, rfl, hrep, rfl, hpf⟩; obtain ⟨oc, cc, _, rfl, -⟩ := hrep.open; refine Om rfl (Oe rfl rfl (Oe rfl rfl ?_)); refine At .free rfl ?_; intro b4; refine Bp rfl rfl rfl rfl .free ?_; refine Oa rfl (Aa (Ab (Se rfl (Om rfl ?_)))); refine Dy rfl .free rfl ?_; refine Aa ?_; refine Av rfl ?_ ?_
 ·intro c0
  try simp only [nb] at c0
  refine Se rfl (Oa rfl (Oa rfl (Aa ?_))); refine Ag (.tmp rfl (.tmp rfl .nil)) ?_
  exact ⟨J, L, hleJ, Bt, by rw [Rb (Lz hpf c0)]; rfl, rfl⟩
 intro c0
 try simp only [nb] at c0
 obtain ⟨e, he, rfl, hok, hlen, hfine, htxt⟩ := K0 hpf c0
 have hnf := Na he
 have hnok := K5 hfine
 have hnl := Lq hfine
 have hnn := Nz hfine
 have hx := Ja hnok
 have hfi : (Ea e.normal.tree.text).isSome = e.normal.fine := by rw [hx]; cases e.normal.fine <;> rfl
 refine Af (Se rfl ?_); refine Aw rfl .free rfl ?_; refine Ca rfl (Aa8 hrep hfine _) ?_; rintro _ J2 _ e2 ⟨ds, rfl, hr, rfl⟩; obtain ⟨od, cd, _, rfl, -⟩ := hr.open
 have hle := hleJ.trans e2
 refine Om rfl (Oe rfl rfl (Oe rfl rfl ?_)); refine At .free rfl ?_; intro b6; refine Bp rfl rfl rfl rfl .free ?_; refine Oa rfl (Aa (Ab (Se rfl (Om rfl ?_)))); refine Dy rfl .free rfl ?_; refine Om rfl ?_
 apply Fw 22 27 rfl
 ·intro g5_3 hk
  try simp only [nb] at g5_3
  refine Aw rfl (.met rfl rfl) rfl ?_; refine B6 rfl (.met rfl rfl) rfl (H7 _ (Nat.lt_succ_self _) hr (Ex.tree_good hnok).1 (by omega) _) ?_; rintro _ _ _ _ ⟨rfl, rfl, rfl⟩; refine B6 rfl (.met rfl rfl) rfl (Ma _ (by rw [Tree.text_len]; unfold I4; omega) _ _) ?_; rintro _ _ _ _ ⟨rfl, rfl, rfl⟩; refine Dy rfl (.met rfl rfl) rfl ?_; refine Of rfl rfl ?_
  exact A0 4 rfl rfl hk
 ·intro _ hk; refine A9 4 rfl ?_; refine Ot rfl rfl ?_
  exact A0 4 rfl rfl hk
 refine Aa ?_; refine Av rfl ?_ ?_
 ·intro c1
  try simp only [nb] at c1
  refine Se rfl (Oa rfl (Oa rfl (Aa ?_))); refine Ag (.tmp rfl (.tmp rfl .nil)) ?_; refine ⟨J2, L, hle, Bt, ?_, rfl⟩; rw [hfi] at c1
  have hn : e.normal.fine = false := by
   cases hn : e.normal.fine with
   | false => rfl
   | true =>
    have := (hnn hn).2
    rw [hn] at c1
    simp at c1; omega
  rw [hnf, if_neg (by rw [hn]; simp)]; rfl
 intro c1
 try simp only [nb] at c1
 refine Af (Se rfl ?_); refine Aw rfl .free rfl ?_; refine Ca rfl (H7 _ (Nat.lt_succ_self _) hr (Ex.tree_good hnok).1 (by omega) _) ?_; rintro _ _ _ _ ⟨rfl, rfl, rfl⟩; refine Oa rfl (Oa rfl (Aa ?_)); refine Ag (.tmp rfl (.tmp rfl .nil)) ?_; refine ⟨J2, L, hle, Bt, ?_, rfl⟩; rw [hfi] at c1; rw [hnf, if_pos (by simpa using c1.2)]; rfl
theorem Abb {s o : Am} (h : Pv s = some o) : o.length ≤ 12000 := by
 unfold Pv at h
 obtain ⟨e, he, h⟩ := Option.bind_eq_some_iff.1 h
 split at h
 ·rename_i hf
  cases h
  simp only [Ex.fine, Bool.and_eq_true, decide_eq_true_eq, Tree.fits] at hf
  rw [Tree.text_len]; exact hf.2.2
 ·cases h
theorem T6 {I : Heap} {oa : Option Addr} {l : List UInt8} {c : Nat} (h : Bytes I oa l c) (hl : l.length ≤ 2000) (b p : Nat) (hp : p + 9000 ≤ 1099511627776) (L : Bc) :
  Fun Tryz.prog 10 [.pointer (some ⟨b, 0, none⟩)] I (rd b oa l c p :: L) (DT b oa l c p 9000 400001 L) := by
 refine Aj (by simp) ?_; refine Se rfl (Oa rfl (Aa (Se rfl (Om rfl ?_)))); refine Ca rfl (Yo h hl b _ (by omega) _) ?_; rintro _ J _ e ⟨s, p1, rfl, hs, hp1, hp2, rfl⟩
 have h := h.mono e
 refine Oa rfl (Aa (Se rfl (Om rfl ?_))); refine Ca rfl (Vh s (by unfold I4; omega) _ _) ?_; rintro _ J1 _ e1 ⟨rfl, rfl⟩
 have h := h.mono e1
 have hle := e.trans e1
 have hol : ((Pv s).getD []).length ≤ 400001 := by
  cases ho : Pv s with
  | none => decide
  | some o => have := Abb ho; simp only [Option.getD_some]; omega
 refine Om rfl (Oe rfl rfl (Oe rfl rfl (Oa rfl (Oa rfl (Aa (Ab (Se rfl (Om rfl (Om rfl ?_)))))))))
 first | refine F4 rfl rfl ?_ ?_ | refine Ek rfl rfl ?_ ?_ | refine Kb rfl rfl ?_ ?_
 ·intro g3_2; refine Ow rfl ?_; refine B6 rfl (.met rfl rfl) rfl (Dh h hl b _ 4 (by omega) (by decide) _) ?_; rintro _ _ _ _ ⟨r, rfl, rfl, rfl, hr⟩; refine C7 rfl rfl rfl (.met rfl rfl) rfl ?_; refine Ot rfl rfl (Aa ?_); refine Av rfl ?_ ?_
  ·intro c0
   try simp only [nb] at c0
   refine Se rfl (Om rfl (Oa rfl (Aa (Ag (.tmp rfl .nil) ?_))))
   exact ⟨_, _, hle, fun _ h => h, _, _, rfl, hol, by omega, by omega, rfl⟩
  intro c0
  try simp only [nb] at c0
  refine Af (Se rfl (Om rfl (Oa rfl (Aa (Ag (.tmp rfl .nil) ?_)))))
  exact ⟨_, _, hle, fun _ h => h, _, _, rfl, hs, by omega, by omega, rfl⟩
 intro g3_2
 iterate 3 refine Ck rfl rfl rfl ?_
 refine Of rfl rfl (Aa ?_); refine A8 rfl ?_; refine Af (Se rfl (Om rfl (Oa rfl (Aa (Ag (.tmp rfl .nil) ?_)))))
 exact ⟨_, _, hle, fun _ h => h, _, _, rfl, hs, by omega, by omega, rfl⟩
def DN (L : Bc) : C3 := fun v I' L' => ∃ s, v = .string (str s) ∧ List.length s ≤ 400001 ∧ L = L'
theorem Po {I : Heap} {oa : Option Addr} {l : List UInt8} {c : Nat} (h : Bytes I oa l c) (L : Bc) : Fun Tryz.prog 4 [.slice oa l.length c] I L (DN L) := by
 refine Aj (by simp) ?_; refine Se rfl (Oa rfl (Aa (Se rfl (Om rfl ?_)))); refine Ca rfl (Yn h _) ?_; rintro _ J1 _ e1 ⟨b, oa1, l1, c1, rfl, h1, hl1, rfl⟩; refine Ca rfl (T6 h1 hl1 b 0 (by decide) L) ?_; rintro _ J2 _ e2 ⟨s, p', rfl, hs, hp1, hp2, rfl⟩; refine Oa rfl (Aa (Ag (.tmp rfl .nil) ?_))
 exact ⟨J2, L, e1.trans e2, fun _ h => h.drop, s, rfl, hs, rfl⟩
def Ex.one : Ex → Nat
 | .lt _ _ _ => 1
 | _ => 0
def Ex.nl : Ex → Nat
 | .num _ => 0
 | .name _ => 0
 | .bin _ a b => a.nl + b.nl
 | .ite a b c => a.nl + b.nl + c.nl
 | .lt _ a b => 1 + a.nl + b.nl
 | .fn _ _ _ _ b => b.nl
 | .un _ a => a.nl
theorem Ex.nl_size : ∀ e : Ex, 2 * e.nl + 1 ≤ e.size
 | .num _ => Nat.le_refl _
 | .name _ => Nat.le_refl _
 | .bin _ a b => by have := a.nl_size; have := b.nl_size; simp only [Ex.nl, Ex.size]; omega
 | .ite a b c => by have := a.nl_size; have := b.nl_size; have := c.nl_size; simp only [Ex.nl, Ex.size]; omega
 | .lt _ a b => by have := a.nl_size; have := b.nl_size; simp only [Ex.nl, Ex.size]; omega
 | .fn _ _ _ _ b => by have := b.nl_size; simp only [Ex.nl, Ex.size]; omega
 | .un _ a => by have := a.nl_size; simp only [Ex.nl, Ex.size]; omega
theorem Ex.nl_sub (e : Ex) : e.nl = e.one + (e.sub.map Ex.nl).sum := by cases e <;> simp [Ex.nl, Ex.one, Ex.sub] <;> omega
theorem Ex.one_head (e : Ex) : e.one = if e.tree.head = Cw then 1 else 0 := by
 by_cases h : e.tree.head = Cw
 ·obtain ⟨x, a, b, rfl⟩ := Ex.of_let h; rw [if_pos h]; rfl
 ·rw [if_neg h]
  cases e <;> first | rfl | exact absurd rfl h
theorem Rm (f : Ex → Nat) {l : List Ex} {i : Nat} (hi : i < l.length) : ((l.take (i + 1)).map f).sum = ((l.take i).map f).sum + f l[i] := by
 rw [List.take_succ_eq_append_getElem hi, List.map_append, List.sum_append]; rfl
mutual
def Tree.nl : Tree → Nat
 | .node _ ps => (if (match ps with | [] => [] | p :: _ => p.atom) = Cw then 1 else 0) + nlL ps
def nlL : List Tree → Nat
 | [] => 0
 | t :: ts => t.nl + nlL ts
end
mutual
theorem Tree.nl_len : ∀ t : Tree, t.nl ≤ t.len
 | .node a [] => by simp [Tree.nl, nlL, Cw]
 | .node a (p :: ps) => by
  have h1 := Wh (p :: ps)
  simp only [Tree.nl, Tree.len, List.isEmpty_cons, cond_false]
  split <;> omega
theorem Wh : ∀ ts : List Tree, nlL ts ≤ Fl ts
 | [] => Nat.le_refl _
 | t :: ts => by have h1 := t.nl_len; have h2 := Wh ts; simp only [nlL, Fl]; omega
end
def Ex.path : Ex → List Am
 | .lt x _ b => x :: b.path
 | _ => []
def Ex.last : Ex → Ex
 | .lt _ _ b => b.last
 | e => e
def Lp (s : Am) : Int := match Fh true s with
 | some e => (e.nl : Nat)
 | none => -1
def Acg (s : Am) : Option (List Am × Am) := (Fh true s).map fun e => (e.path, e.last.tree.text)
theorem Uf {s : Am} (h : Fh true s = none) : Lp s = -1 := by unfold Lp; rw [h]
theorem Ks {s : Am} {e : Ex} (h : Fh true s = some e) : Lp s = (e.nl : Nat) := by unfold Lp; rw [h]
theorem Zs {I : Heap} {t u : Tree} {cs : List Value} (h : Rep I t cs) (e : t = u) : Rep I u cs := e ▸ h
structure GK where
 i : Nat
 B : H3
 c : Nat
def Ex.ks (e : Ex) : List Am := e.sub.map fun a => a.tree.text
theorem Wf {e : Ex} {j : Nat} (hj : j < e.sub.length) : (Cv e.tree).getD j 0 ∈ Cv e.tree := by
 have hkl := Wk e
 rw [show (Cv e.tree).getD j 0 = (Cv e.tree)[j]'(by omega) by simp [show j < (Cv e.tree).length by omega]]; exact List.getElem_mem _
structure GM where
 i : Nat
 J : Heap
theorem Nu {b : Bool} {s : Am} {e : Ex} (h : Ea s = some e) : Fu b s = e.norm b := by
 unfold Fu Fh; rw [h]; cases hn : e.norm b <;> simp [hn]
theorem Nt {b : Bool} {s : Am} (h : Ea s = none) : Fu b s = false := by unfold Fu Fh; rw [h]; rfl
theorem Vd (s : Am) (hs : s.length ≤ Ap) (I : Heap) (L : Bc) : Fun Tryz.prog 5 [.string (str s)] I L (fun v I' L' => v = .bool (Fu true s) ∧ L = L') := by
 refine Aj (by simp) ?_; refine Se rfl (Oa rfl (Aa (Se rfl (Om rfl ?_)))); refine Ca rfl (H6 s hs _ _) ?_; rintro _ J _ hleJ ⟨t, cs, ok, rfl, hrep, rfl, hpf⟩; obtain ⟨oc, cc, _, rfl, -⟩ := hrep.open
 have g1 := Xw hpf
 refine Om rfl (Oe rfl rfl (Oe rfl rfl ?_)); refine At .free rfl ?_; intro b3; refine Bp rfl rfl rfl rfl .free ?_; refine Oa rfl (Aa (Se rfl (Om rfl (Om rfl ?_))))
 first | refine F4 rfl rfl ?_ ?_ | refine Ek rfl rfl ?_ ?_ | refine Kb rfl rfl ?_ ?_
 ·intro g2_2; obtain ⟨e, he, rfl⟩ := g1.2 g2_2; refine Aw rfl (.met rfl rfl) rfl ?_; refine B6 rfl (.met rfl rfl) rfl (J9 hrep (Hw he).2.1 _) ?_; rintro _ _ _ _ ⟨rfl, rfl, rfl⟩; refine Ot rfl rfl (Oa rfl (Aa (Ag (.tmp rfl .nil) ?_))); refine ⟨J, L, hleJ, Bt, ?_, rfl⟩
  first
   | (rw [Nu he]; rfl)
   | (rw [Nt (g1.1 (by simpa using g2_2))]; rfl)
 intro g2_2; refine Ck rfl rfl rfl ?_; refine Ck rfl rfl rfl ?_; refine Of rfl rfl (Oa rfl (Aa (Ag (.tmp rfl .nil) ?_))); refine ⟨J, L, hleJ, Bt, ?_, rfl⟩
 first
  | (rw [Nu he]; rfl)
  | (rw [Nt (g1.1 (by simpa using g2_2))]; rfl)
theorem Tr : ∀ (n : Nat) {I : Heap} {e : Ex} {cs : List Value} (_ : SizeOf.sizeOf e < n) (_ : Rep I e.tree cs) (_ : e.ok = true) (_ : e.size ≤ Ap) (L : Bc),
  Fun Tryz.prog 20 [.agg cs.toArray] I L (fun v I' L' => v = .int .i64 (e.nl : Nat) ∧ L = L') := by
 intro n
 induction n with
 | zero => intro I e cs h; omega
 | succ n ihn =>
  intro I e cs hlt h hok hz L
  unfold Ap at hz
  obtain ⟨oc, cc, oaf, cf, rfl, hf⟩ := h.at'
  have hkl := Wk e
  have hns := e.nl_sub
  have hnz := e.nl_size
  have ho1 := e.one_head
  have hn3 : e.sub.length ≤ 3 := by cases e <;> simp [Ex.sub]
  refine Aj (by simp) ?_; refine Se rfl ?_; refine Cc rfl rfl .free rfl ?_; intro b1; refine Oa rfl (Aa (Se rfl (Oa rfl (Aa (Ab (Se rfl ?_)))))); refine Aw rfl .free rfl ?_; refine Ca rfl (Bk hf.rep _) ?_; rintro _ _ _ _ ⟨rfl, rfl, rfl⟩; refine Od rfl rfl rfl (Aa ?_); refine Av rfl ?_ ?_
  ·intro c0
   try simp only [nb] at c0
   have ho : e.one = 1 := by rw [ho1]; exact if_pos c0
   refine Ah rfl (Oa rfl (Aa (Ab (Se rfl ?_)))); refine F1 (t := 3) (v' := .int .i64 (e.one : Nat)) rfl (by rw [ho]; rfl) ?_; refine Aw rfl .free rfl ?_; refine Ca rfl (B9 hf.rep _) ?_; rintro _ J2 _ e2 ⟨okk, ck, rfl, hk, rfl⟩; refine On rfl (Om rfl (Aa (Ai ?_)))
   refine Ct (X := Heap × Nat) (fun x => e.sub.length - x.2) (fun x => [(1, .pointer (some ⟨b1, 0, none⟩)), (3, .int .i64 ((e.one + ((e.sub.take x.2).map Ex.nl).sum : Nat))), (10, .slice okk (Cv e.tree).length ck), (11, .int .i64 ((Cv e.tree).length : Nat)), (12, .int .i64 (x.2 : Nat))]) (fun x => x.1) (fun _ => (b1, .cells [.string (str e.tree.atom), .slice oc e.tree.parts.length cc].toArray 35 (0, 0)) :: L) (fun x => HLe J2 x.1 ∧ x.2 ≤ e.sub.length) ⟨J2, 0⟩ ⟨.refl _, Nat.zero_le _⟩ ⟨rfl, rfl, rfl, rfl, rfl, trivial⟩ (fun _ h => h) ?_; rintro ⟨J, i⟩ ⟨hleJ, hi⟩ ih
   simp only at hleJ hi ih ⊢
   have hf := (hf.mono e2).mono hleJ
   have hk := hk.mono hleJ
   refine Se rfl (Oc rfl rfl rfl (Aa (Ab ?_))); refine Av rfl ?_ ?_
   ·intro c1
    try simp only [nb] at c1
    have hi1 : i < e.sub.length := by omega
    have hkm := Wf hi1
    have hkt := (Sh hkm).1
    have hspt := Zw e i hi1
    obtain ⟨hs1, hs2, hs3⟩ := Rl (List.getElem_mem hi1)
    have hst1 := Rm Ex.nl hi1
    have hnz1 := e.sub[i].nl_size
    have htl : ((e.sub.take i).map Ex.nl).sum ≤ (e.sub.map Ex.nl).sum := by
     conv => rhs; rw [← List.take_append_drop i e.sub, List.map_append, List.sum_append]
     omega
    refine Af (Ab (Ai (Se rfl ?_)))
    first | refine Bi rfl rfl _ rfl .free rfl ?_ | refine Bj rfl rfl _ rfl .free rfl ?_
    refine Dl rfl .free rfl ?_; refine Oa rfl (Aa (Ah rfl (Om rfl (Oh rfl ?_)))); refine Bg rfl .free rfl ?_; refine Om rfl ?_
    first | refine Bi rfl rfl _ rfl .free rfl ?_ | refine Bj rfl rfl _ rfl .free rfl ?_
    refine Em rfl .free rfl ?_; refine Ca rfl (ihn (by omega) (Zs (hf.rp _ hkt) hspt) (hs3 hok) (by unfold Ap; omega) _) ?_; rintro _ J5 _ e5 ⟨rfl, rfl⟩; refine Or rfl rfl rfl ?_; refine Oa rfl (Aa (Ak (Ah rfl ?_))); refine Or rfl rfl rfl ?_; refine Om rfl (Aa ?_)
    refine Dr (E' := [(1, .pointer (some ⟨b1, 0, none⟩)), (3, .int .i64 ((e.one + ((e.sub.take (i + 1)).map Ex.nl).sum : Nat))), (10, .slice okk (Cv e.tree).length ck), (11, .int .i64 ((Cv e.tree).length : Nat)), (12, .int .i64 ((i + 1 : Nat)))]) ⟨rfl, ?_, rfl, rfl, rfl, trivial⟩ (ih ⟨J5, i + 1⟩ ⟨hleJ.trans e5, by simp only; omega⟩ (by simp only; omega)); rw [hst1, ← Nat.add_assoc]; rfl
   intro c1
   try simp only [nb] at c1
   refine Bq rfl ?_; refine Se rfl (Om rfl (Oa rfl (Aa (Ag (.tmp rfl .nil) ?_)))); obtain rfl : i = e.sub.length := by omega
   rw [List.take_length, ← hns]
   exact ⟨J, L, e2.trans hleJ, Bt, rfl, rfl⟩
  intro c0
  try simp only [nb] at c0
  have ho : e.one = 0 := by rw [ho1]; exact if_neg c0
  refine Af (Ab (Se rfl ?_)); refine F1 (t := 3) (v' := .int .i64 (e.one : Nat)) rfl (by rw [ho]; rfl) ?_; refine Aw rfl .free rfl ?_; refine Ca rfl (B9 hf.rep _) ?_; rintro _ J2 _ e2 ⟨okk, ck, rfl, hk, rfl⟩; refine On rfl (Om rfl (Aa (Ai ?_)))
  refine Ct (X := Heap × Nat) (fun x => e.sub.length - x.2) (fun x => [(1, .pointer (some ⟨b1, 0, none⟩)), (3, .int .i64 ((e.one + ((e.sub.take x.2).map Ex.nl).sum : Nat))), (10, .slice okk (Cv e.tree).length ck), (11, .int .i64 ((Cv e.tree).length : Nat)), (12, .int .i64 (x.2 : Nat))]) (fun x => x.1) (fun _ => (b1, .cells [.string (str e.tree.atom), .slice oc e.tree.parts.length cc].toArray 35 (0, 0)) :: L) (fun x => HLe J2 x.1 ∧ x.2 ≤ e.sub.length) ⟨J2, 0⟩ ⟨.refl _, Nat.zero_le _⟩ ⟨rfl, rfl, rfl, rfl, rfl, trivial⟩ (fun _ h => h) ?_; rintro ⟨J, i⟩ ⟨hleJ, hi⟩ ih
  simp only at hleJ hi ih ⊢
  have hf := (hf.mono e2).mono hleJ
  have hk := hk.mono hleJ
  refine Se rfl (Oc rfl rfl rfl (Aa (Ab ?_))); refine Av rfl ?_ ?_
  ·intro c1
   try simp only [nb] at c1
   have hi1 : i < e.sub.length := by omega
   have hkm := Wf hi1
   have hkt := (Sh hkm).1
   have hspt := Zw e i hi1
   obtain ⟨hs1, hs2, hs3⟩ := Rl (List.getElem_mem hi1)
   have hst1 := Rm Ex.nl hi1
   have hnz1 := e.sub[i].nl_size
   have htl : ((e.sub.take i).map Ex.nl).sum ≤ (e.sub.map Ex.nl).sum := by
    conv => rhs; rw [← List.take_append_drop i e.sub, List.map_append, List.sum_append]
    omega
   refine Af (Ab (Ai (Se rfl ?_)))
   first | refine Bi rfl rfl _ rfl .free rfl ?_ | refine Bj rfl rfl _ rfl .free rfl ?_
   refine Dl rfl .free rfl ?_; refine Oa rfl (Aa (Ah rfl (Om rfl (Oh rfl ?_)))); refine Bg rfl .free rfl ?_; refine Om rfl ?_
   first | refine Bi rfl rfl _ rfl .free rfl ?_ | refine Bj rfl rfl _ rfl .free rfl ?_
   refine Em rfl .free rfl ?_; refine Ca rfl (ihn (by omega) (Zs (hf.rp _ hkt) hspt) (hs3 hok) (by unfold Ap; omega) _) ?_; rintro _ J5 _ e5 ⟨rfl, rfl⟩; refine Or rfl rfl rfl ?_; refine Oa rfl (Aa (Ak (Ah rfl ?_))); refine Or rfl rfl rfl ?_; refine Om rfl (Aa ?_)
   refine Dr (E' := [(1, .pointer (some ⟨b1, 0, none⟩)), (3, .int .i64 ((e.one + ((e.sub.take (i + 1)).map Ex.nl).sum : Nat))), (10, .slice okk (Cv e.tree).length ck), (11, .int .i64 ((Cv e.tree).length : Nat)), (12, .int .i64 ((i + 1 : Nat)))]) ⟨rfl, ?_, rfl, rfl, rfl, trivial⟩ (ih ⟨J5, i + 1⟩ ⟨hleJ.trans e5, by simp only; omega⟩ (by simp only; omega)); rw [hst1, ← Nat.add_assoc]; rfl
  intro c1
  try simp only [nb] at c1
  refine Bq rfl ?_; refine Se rfl (Om rfl (Oa rfl (Aa (Ag (.tmp rfl .nil) ?_)))); obtain rfl : i = e.sub.length := by omega
  rw [List.take_length, ← hns]
  exact ⟨J, L, e2.trans hleJ, Bt, rfl, rfl⟩
theorem L6 (s : Am) (hs : s.length ≤ Ap) (I : Heap) (L : Bc) : Fun Tryz.prog 9 [.string (str s)] I L (fun v I' L' => v = .int .i64 (Lp s) ∧ L = L') := by
 refine Aj (by simp) ?_; refine Se rfl (Oa rfl (Aa (Se rfl (Om rfl ?_)))); refine Ca rfl (Sb s hs _ _) ?_; rintro _ J _ hleJ ⟨t, cs, ok, rfl, hrep, rfl, hpf⟩; obtain ⟨oc, cc, _, rfl, -⟩ := hrep.open
 have g1 := Xw hpf
 refine Om rfl (Oe rfl rfl (Oe rfl rfl ?_)); refine At .free rfl ?_; intro b3; refine Bp rfl rfl rfl rfl .free ?_; refine Oa rfl (Aa (Ab (Se rfl (Om rfl ?_)))); refine Dy rfl .free rfl ?_; refine Aa ?_; refine Av rfl ?_ ?_
 ·intro c0
  try simp only [nb] at c0
  refine Se rfl (Oa rfl (Aa (Ag (.tmp rfl .nil) ?_)))
  exact ⟨J, L, hleJ, Bt, by rw [Uf (g1.1 (by simpa using c0))]; rfl, rfl⟩
 intro c0
 try simp only [nb] at c0
 obtain ⟨e, he, rfl⟩ := g1.2 (by simpa using c0)
 have hx := Kt he
 have hsz := (Hw hx.1).2.2.1
 refine Af (Se rfl ?_); refine Aw rfl .free rfl ?_; refine Ca rfl (Tr _ (Nat.lt_succ_self _) hrep hx.2.2.1 (by unfold Ap; omega) _) ?_; rintro _ J2 _ e2 ⟨rfl, rfl⟩; refine Oa rfl (Aa (Ag (.tmp rfl .nil) ?_))
 exact ⟨J2, L, hleJ.trans e2, Bt, by rw [Ks he]; rfl, rfl⟩
open Go.Shelf
def Uc : Go.Shelf.Ren := ⟨fun | 171 => 112 | 243 => 127 | 246 => 131 | 283 => 132 | 284 => 133 | 285 => 134 | 286 => 135 | 129 => 137 | 317 => 136 | 318 => 138 | 319 => 139 | 320 => 140 | 337 => 141 | 338 => 142 | n => n, fun | 3 => 3 | 9 => 9 | 2 => 2 | 4 => 4 | 171 => 146 | 0 => 0 | 53 => 147 | 37 => 22 | 5 => 5 | 173 => 150 | 212 => 153 | 51 => 154 | 20 => 20 | 213 => 155 | 46 => 157 | 232 => 160 | 233 => 161 | n => n, fun | 17 => 0 | 18 => 1 | 19 => 2 | n => n⟩
theorem Aaf : Go.Proofs.Lays.n171 Tryz.prog Uc := {
 mixed := by kernel_rfl
 f129 := Tryz.func137.trans (congrArg some (by kernel_rfl))
 f171 := Tryz.func112.trans (congrArg some (by kernel_rfl))
 f243 := Tryz.func127.trans (congrArg some (by kernel_rfl))
 f246 := Tryz.func131.trans (congrArg some (by kernel_rfl))
 f283 := Tryz.func132.trans (congrArg some (by kernel_rfl))
 f284 := Tryz.func133.trans (congrArg some (by kernel_rfl))
 f285 := Tryz.func134.trans (congrArg some (by kernel_rfl))
 f286 := Tryz.func135.trans (congrArg some (by kernel_rfl))
 f317 := Tryz.func136.trans (congrArg some (by kernel_rfl))
 f318 := Tryz.func138.trans (congrArg some (by kernel_rfl))
 f319 := Tryz.func139.trans (congrArg some (by kernel_rfl))
 f320 := Tryz.func140.trans (congrArg some (by kernel_rfl))
 f337 := Tryz.func141.trans (congrArg some (by kernel_rfl))
 f338 := Tryz.func142.trans (congrArg some (by kernel_rfl))
 t0 := Tryz.underlying0
 a0 := Tryz.isAgg0
 z0 := Tryz.sizeOf0
 v0 := Tryz.zeroValue0
 t2 := Tryz.underlying2
 a2 := Tryz.isAgg2
 z2 := Tryz.sizeOf2
 v2 := Tryz.zeroValue2
 t3 := Tryz.underlying3
 a3 := Tryz.isAgg3
 z3 := Tryz.sizeOf3
 v3 := Tryz.zeroValue3
 t4 := Tryz.underlying4
 a4 := Tryz.isAgg4
 z4 := Tryz.sizeOf4
 v4 := Tryz.zeroValue4
 t5 := Tryz.underlying5
 a5 := Tryz.isAgg5
 z5 := Tryz.sizeOf5
 v5 := Tryz.zeroValue5
 t9 := Tryz.underlying9
 a9 := Tryz.isAgg9
 z9 := Tryz.sizeOf9
 v9 := Tryz.zeroValue9
 t20 := Tryz.underlying20
 a20 := Tryz.isAgg20
 z20 := Tryz.sizeOf20
 v20 := Tryz.zeroValue20
 t37 := Tryz.underlying22
 a37 := Tryz.isAgg22
 z37 := Tryz.sizeOf22
 v37 := Tryz.zeroValue22
 t46 := Tryz.underlying157
 a46 := Tryz.isAgg157
 z46 := Tryz.sizeOf157
 v46 := Tryz.zeroValue157
 t51 := Tryz.underlying154
 a51 := Tryz.isAgg154
 z51 := Tryz.sizeOf154
 v51 := Tryz.zeroValue154
 t53 := Tryz.underlying147
 a53 := Tryz.isAgg147
 z53 := Tryz.sizeOf147
 v53 := Tryz.zeroValue147
 t171 := Tryz.underlying146
 a171 := Tryz.isAgg146
 z171 := Tryz.sizeOf146
 v171 := Tryz.zeroValue146
 t173 := Tryz.underlying150
 a173 := Tryz.isAgg150
 z173 := Tryz.sizeOf150
 v173 := Tryz.zeroValue150
 t212 := Tryz.underlying153
 a212 := Tryz.isAgg153
 z212 := Tryz.sizeOf153
 v212 := Tryz.zeroValue153
 t213 := Tryz.underlying155
 a213 := Tryz.isAgg155
 z213 := Tryz.sizeOf155
 t232 := Tryz.underlying160
 a232 := Tryz.isAgg160
 z232 := Tryz.sizeOf160
 v232 := Tryz.zeroValue160
 t233 := Tryz.underlying161
 a233 := Tryz.isAgg161
 z233 := Tryz.sizeOf161
 v233 := Tryz.zeroValue161
 g17 := by kernel_rfl
 g18 := by kernel_rfl
 g19 := by kernel_rfl }
theorem Wq : ∀ i : Nat, i < 100 → Lib.decDigits i = Iy i := by decide +kernel
theorem Pi (i : Nat) (hi : i < 100) (I : Heap) (L : Bc) : Fun Tryz.prog 112 [.int .i64 (i : Nat)] I L (D1 (.string (str (Iy i))) I L) := by
 refine ⟨fun w hm => (Any.strconv_Itoa_small Aaf i hi w).mono ?_⟩; rintro e w' ⟨rfl, rfl⟩; refine ⟨_, I, L, rfl, .refl _, hm, ?_⟩; rw [Wq i hi]
 exact ⟨rfl, rfl, rfl⟩
def pn (b : Nat) (oa : Option Addr) (av : List Am) (c g n : Nat) : Nat × Obj := (b, .cells [.slice oa av.length c, .int .i64 (g : Nat), .int .i64 (n : Nat)].toArray 88 (0, 0))
theorem H5 {I : Heap} {oa : Option Addr} {av : List Am} {c : Nat} (hav : Strs I oa av c) (b g n : Nat) (hn : fr 120 av n < 100) (hg : g ≤ 1000000) (L : Bc) :
  Fun Tryz.prog 92 [.pointer (some ⟨b, 0, none⟩)] I (pn b oa av c g n :: L) (fun v I' L' => v = .string (str (nm 120 (fr 120 av n))) ∧ I = I' ∧ L' = pn b oa av c (g + 1) (fr 120 av n + 1) :: L) := by
 obtain ⟨f1, f2, f3⟩ := Dq 120 av n; refine Aj (by simp) ?_; refine Se rfl (Oa rfl (Aa (Ai ?_))); refine Ct (X := Nat) (fun m => fr 120 av n + 1 - m) (fun m => [(0, .pointer (some ⟨b, 0, none⟩))]) (fun _ => I) (fun m => pn b oa av c g m :: L) (fun m => n ≤ m ∧ m ≤ fr 120 av n ∧ ∀ j, n ≤ j → j < m → nm 120 j ∈ av) n ⟨Nat.le_refl _, f2, fun j h1 h2 => absurd h2 (by omega)⟩ ⟨rfl, trivial⟩ (fun _ h => h) ?_; rintro m ⟨hm1, hm2, hm3⟩ ih
 unfold pn
 have hdl := Pd (n := m) (by omega)
 refine Ai (Se rfl (Om rfl ?_)); refine Bl rfl .free rfl ?_
 first | refine Oh rfl ?_ | refine Oj rfl ?_
 refine Md rfl .free rfl ?_; refine Ca rfl (Pi m (by omega) _ _) ?_; rintro _ _ _ _ ⟨rfl, rfl, rfl⟩; refine Ok rfl rfl ?_; refine Oa rfl (Aa (Se rfl (Om rfl ?_))); refine Bl rfl .free rfl ?_
 first | refine Oh rfl ?_ | refine Oj rfl ?_
 refine Md rfl .free rfl ?_; refine Or rfl rfl rfl ?_; refine Bl rfl .free rfl ?_
 first | refine Oh rfl ?_ | refine Oj rfl ?_
 refine Bp rfl rfl rfl rfl .free ?_; refine Aa (Se rfl (Om rfl ?_)); refine Bl rfl .free rfl ?_
 first | refine Oh rfl ?_ | refine Oj rfl ?_
 refine Md rfl .free rfl ?_; refine Om rfl ?_; refine Ca rfl (G4 (hav.rd _) c (nm 120 m)) ?_; rintro _ _ _ _ ⟨rfl, rfl, rfl⟩; refine Dy rfl .free rfl ?_; refine Aa ?_; refine Av rfl ?_ ?_
 ·intro c0
  try simp only [nb] at c0
  refine Se rfl (Om rfl ?_); refine Bl rfl .free rfl ?_
  first | refine Oh rfl ?_ | refine Oj rfl ?_
  refine Md rfl .free rfl ?_; refine Or rfl rfl rfl ?_; refine Bl rfl .free rfl ?_
  first | refine Oh rfl ?_ | refine Oj rfl ?_
  refine Bp rfl rfl rfl rfl .free ?_; refine Aa (Se rfl (Om rfl (Oa rfl (Aa (Ag (.tmp rfl .nil) ?_)))))
  have hfm : fr 120 av n = m := Ov hm3 hm1 c0
  exact ⟨I, _, .refl _, fun _ h => h, by rw [hfm]; rfl, rfl, by rw [hfm]; rfl⟩
 intro c0
 try simp only [nb] at c0
 refine Af (Ak ?_)
 have hne : m ≠ fr 120 av n := fun e => f1 (e ▸ c0)
 refine Dr (E' := [(0, .pointer (some ⟨b, 0, none⟩))]) ⟨rfl, trivial⟩ (ih (m + 1) ⟨by omega, by omega, fun j h1 h2 => ?_⟩ (by omega))
 by_cases hj : j = m
 ·subst hj; exact c0
 ·exact hm3 j h1 (by omega)
def PE (b : Nat) (oa : Option Addr) (av : List Am) (c g : Nat) (p : Ex × Nat) (L : Bc) : C3 := fun v I' L' => ∃ cs, v = .agg (List.toArray cs) ∧ Rep I' p.1.tree cs ∧ L' = pn b oa av c g p.2 :: L
set_option maxHeartbeats 2000000 in
theorem Pg : ∀ (n : Nat) {I : Heap} {e : Ex} {cs : List Value} (_ : SizeOf.sizeOf e < n) (_ : Rep I e.tree cs) (_ : e.ok = true) {f t : List Am} {of ot : Option Addr} {cf ct : Nat} (_ : Strs I of f cf) (_ : Strs I ot t ct) (_ : f.length = t.length) (_ : namesL f) (_ : f.length + 2 * e.size ≤ 100000)
  {oa : Option Addr} {av : List Am} {c : Nat} (_ : Strs I oa av c) (b g k : Nat) (_ : k + e.nb + av.length ≤ 90 + Eb 120 av k) (_ : g + e.nb ≤ 100000) (L : Bc),
  Fun Tryz.prog 63 [.pointer (some ⟨b, 0, none⟩), .agg cs.toArray, .slice of f.length cf, .slice ot t.length ct] I (pn b oa av c g k :: L) (PE b oa av c (g + e.nb) (e.pl av f t k) L) := by
 intro n
 induction n with
 | zero => intro I e cs h; omega
 | succ n ihn =>
  intro I e cs hlt h hok f t of ot cf ct hfr hto hft hnf hfl ov av cv hav bp g k hk hg L; obtain ⟨oa, c, oaf, cf1, rfl, hf, hcl, hcs⟩ := h.cells
  have hle : HLe I I := .refl _
  have ha := hf.alen
  have hh0 := Bf 120 av k
  refine Aj (by simp) ?_; refine Se rfl ?_; refine Cc rfl rfl .free rfl ?_; intro b5; refine At .free rfl ?_; intro b8; refine Aa (Ab (Se rfl ?_)); refine Aw rfl .free rfl ?_; refine Ca rfl (B7 hf.rep _) ?_; rintro _ _ _ _ ⟨rfl, rfl, rfl⟩; refine Aa ?_; refine Av rfl ?_ ?_
  ·intro c0
   try simp only [nb] at c0
   have hb : e.bare = true := by rw [Ex.bare_parts]; exact c0
   refine Ab (Se rfl (Om rfl (Oh rfl ?_))); refine Bg rfl .free rfl ?_; refine Ca rfl (Kk hfr e.tree.atom _) ?_; rintro _ _ _ _ ⟨rfl, rfl, rfl⟩; refine Oa rfl (Aa (Se rfl (Om rfl (Oc rfl rfl rfl (Aa ?_))))); refine Av rfl ?_ ?_
   ·intro c1
    try simp only [nb] at c1
    obtain ⟨i, hi⟩ : ∃ i, Br f e.tree.atom = some i := by
     cases hi : Br f e.tree.atom with
     | none => rw [hi] at c1; simp [Hr] at c1
     | some i => exact ⟨i, rfl⟩
    have hil := (Jf (show E8 f e.tree.atom f.length = some i from hi)).1
    have hit : i < t.length := by omega
    have hst := hto.st i hit
    rw [hi]; refine Se rfl (Om rfl (Om rfl ?_))
    first | refine Bi rfl rfl _ rfl .free rfl ?_ | refine Bj rfl rfl _ rfl .free rfl ?_
    refine Dl rfl .free rfl ?_; refine Ca rfl (I0 (t.getD i []) (by rw [show t.getD i [] = t[i] by simp [hit]]; exact hto.each _ (List.getElem_mem _)) _ _) ?_; rintro _ _ _ _ ⟨rfl, rfl, rfl⟩; refine Bp rfl rfl rfl rfl .free ?_; refine Aa ?_; refine Ag (.c rfl .nil) ?_
    cases e with
    | name s =>
     have hi : Br f s = some i := hi
     refine ⟨I, _, .refl _, fun w h => Mem.sub (L' := pn bp ov av cv g k :: L) (by repeat (first | exact List.Sublist.refl _ | apply List.Sublist.cons_cons | apply List.Sublist.cons)) h, _, rfl, ?_, rfl⟩
     show Rep I (.node (match Br f s with | some i => t.getD i [] | none => s) []) _
     rw [hi]
     exact .ofAtom (show (t.getD i []).length ≤ Ap by rw [show t.getD i [] = t[i] by simp [hit]]; exact hto.each _ (List.getElem_mem _))
    | num s =>
     have h1 := Fe (hnf s (He hi))
     rw [show Cr s = true from hok] at h1; cases h1
    | _ => cases hb
   intro c1
   try simp only [nb] at c1
   refine Af (Se rfl ?_); refine Aw rfl .free rfl ?_; refine Bp rfl rfl rfl rfl .free ?_; refine Aa ?_; refine Ag (.c rfl .nil) ?_
   cases e with
   | name s =>
    have hi : Br f s = none := by
     cases hi : Br f s with
     | none => rfl
     | some i => rw [show Br f (Ex.name s).tree.atom = some i from hi] at c1; simp [Hr] at c1
    refine ⟨I, _, .refl _, fun w h => Mem.sub (L' := pn bp ov av cv g k :: L) (by repeat (first | exact List.Sublist.refl _ | apply List.Sublist.cons_cons | apply List.Sublist.cons)) h, _, rfl, ?_, rfl⟩
    show Rep I (.node (match Br f s with | some i => t.getD i [] | none => s) []) _
    rw [hi]; exact hf.rep
   | num s => exact ⟨I, _, .refl _, fun w h => Mem.sub (L' := pn bp ov av cv g k :: L) (by repeat (first | exact List.Sublist.refl _ | apply List.Sublist.cons_cons | apply List.Sublist.cons)) h, _, rfl, hf.rep, rfl⟩
   | _ => cases hb
  intro c0
  try simp only [nb] at c0
  have hb : e.bare = false := by rw [Ex.bare_parts]; exact c0
  have hsh := e.shapes hb
  have hok0 := hok
  have hpos : 0 < e.tree.parts.length := by
   rw [Ex.bare_parts] at hb
   have : e.tree.parts ≠ [] := by intro hh; rw [hh] at hb; cases hb
   exact List.length_pos_iff.2 this
  obtain ⟨xa, rfl⟩ : ∃ xa, oa = some xa := ⟨_, Ev hf.nil hpos⟩
  have hp := hf.len
  refine Af (Se rfl (Oh rfl ?_)); refine Bg rfl .free rfl ?_; refine Ca rfl (F9 (hcs _ rfl) (by have := hcl.length; omega) hcl.plain hpos hp _) ?_; rintro _ _ _ _ ⟨bc, sp, cc, rfl, hcc, rfl, rfl⟩; refine Cf rfl rfl rfl .free rfl ?_; refine At .free rfl ?_; intro b10; refine Bp rfl rfl rfl rfl .free ?_; refine Aa (Ab ?_)
  rcases hsh with ⟨o, a, b, rfl⟩ | ⟨a, b, d, rfl⟩ | ⟨z, a, b, rfl⟩ | ⟨h1, z, s, u, b, rfl⟩ | ⟨o, a, rfl⟩
  ·skip
   have hlen : (Ex.bin o a b).tree.parts.length = 3 := rfl
   have hki := Gb o a b
   have hhd : (Ex.bin o a b).tree.head = o.txt := rfl
   simp only [Ex.bin.sizeOf_spec] at hlt
   simp only [Ex.ok, Bool.and_eq_true, decide_eq_true_eq] at hok
   simp only [Ex.nb] at hk hg ⊢
   simp only [Ex.size] at hfl
   obtain ⟨_, hrl⟩ : ∃ _ : True, RepL I (Ex.bin o a b).tree.parts _ := ⟨trivial, hcl⟩
   simp only [show (Ex.bin o a b).tree.parts = [.node o.txt [], a.tree, b.tree] from rfl, Df, List.cons_append, List.nil_append] at hrl ⊢
   refine C4 (fun w h => h.f4) ?_; refine Ah rfl (Oa rfl (Aa (Ab (Se rfl ?_)))); refine Aw rfl .free rfl ?_; refine Ca rfl (Bk hf.rep _) ?_; rintro _ _ _ _ ⟨rfl, rfl, rfl⟩; refine Aa (Ai (Se rfl (Od rfl rfl rfl (Oa rfl (Aa ?_)))))
   first | refine Eu rfl (by rw [hhd]; cases o <;> decide) ?_ | refine Et rfl (by rw [hhd]; cases o <;> decide) ?_ | refine A8 (by simp [Bu, Bo, *]) ?_
   refine Se rfl (Od rfl rfl rfl (Oa rfl (Aa ?_)))
   first | refine Eu rfl (by rw [hhd]; cases o <;> decide) ?_ | refine Et rfl (by rw [hhd]; cases o <;> decide) ?_ | refine A8 (by simp [Bu, Bo, *]) ?_
   refine Af (Ak (Ab (Se rfl ?_))); refine Aw rfl .free rfl ?_; refine Ca rfl (B9 hf.rep _) ?_; rintro _ J _ e0 ⟨ok, ck, rfl, hk1, rfl⟩
   have hf := hf.mono e0
   have hfr := hfr.mono e0
   have hto := hto.mono e0
   have hav := hav.mono e0
   have hle := hle.trans e0
   rw [hki] at hk1; rw [hki]; refine On rfl (Om rfl (Aa (Ai ?_))); refine Dd ?_; refine Se rfl (Oc rfl rfl rfl (Aa (Ab ?_))); refine Bn rfl (by first | rfl | decide | (simp; done) | omega) ?_; refine Af (Ab (Ai (Se rfl ?_)))
   first | refine Bi rfl rfl _ rfl .free rfl ?_ | refine Bj rfl rfl _ rfl .free rfl ?_
   refine Dl rfl .free rfl ?_; refine Oa rfl (Aa (Se rfl (Om rfl (Om rfl (Oa rfl (Oa rfl (Aa (Ab (Se rfl ?_))))))))); refine Aw rfl .free rfl ?_; refine Om rfl ?_; refine Ca rfl (Bb hf.rep hok0 _ _) ?_; rintro _ J1 _ e1 ⟨o1, k1, rfl, hs1, rfl⟩
   have hf := hf.mono e1
   have hfr := hfr.mono e1
   have hto := hto.mono e1
   have hav := hav.mono e1
   have hle := hle.trans e1
   have hk1 := hk1.mono e1
   refine Oa rfl (Aa (Se rfl (Om rfl (On rfl (Oc rfl rfl rfl (Aa ?_))))))
   first | refine Eu rfl (by simp [Ex.binds]) ?_ | refine Et rfl (by simp [Ex.binds]) ?_ | refine A8 (by simp [Bu, Bo, *]) ?_
   refine Af ?_; refine C0 fun hlr => ?_
   have hpl := a.pl_hits av (f) (t) k
   refine Ge 14 rfl rfl ?_; refine Da 0 rfl (Ae rfl) ?_; refine Dt 1 [13] rfl (A7 rfl) ?_; refine Da 2 rfl (Ac rfl) ?_; refine Da 3 rfl (Ac rfl) ?_; refine Da 4 rfl (Ae rfl) ?_; refine Dt 5 [13] rfl (A7 rfl) ?_; refine Da 6 rfl (Ac rfl) ?_
   first | refine Da 7 rfl (A4 rfl rfl _ rfl) ?_ | refine Da 7 rfl (A5 rfl rfl _ rfl) ?_
   refine Dt 8 [13] rfl (Bz rfl) ?_; refine Da 9 rfl (Ac rfl) ?_; refine Da 10 rfl (Ac rfl) ?_; refine Dc 11 rfl rfl (ihn (f := f) (t := t) (by omega) (hf.as 1 a.tree (by omega) rfl) hok.1 hfr hto (by simp [hft]) hnf (by first | omega | (simp only [List.length_append, List.length_cons, List.length_nil]; omega)) hav bp _ _ (by omega) (by omega) _) ?_; rintro _ J2 _ e2 ⟨cs2, rfl, hr_0, rfl⟩; obtain ⟨o2, k2, _, rfl, -⟩ := hr_0.open
   have hlr := hlr.trans e2
   have hf := hf.mono e2
   have hfr := hfr.mono e2
   have hto := hto.mono e2
   have hav := hav.mono e2
   have hle := hle.trans e2
   have hk1 := hk1.mono e2
   refine Hx ?_
   first | refine Da 12 rfl (A4 rfl rfl _ rfl) ?_ | refine Da 12 rfl (A5 rfl rfl _ rfl) ?_
   refine Dx 13 rfl rfl rfl rfl ?_; refine Au (by kernel_rfl) ?_; refine Ak (Ah rfl ?_); refine Or rfl rfl rfl ?_; refine Om rfl (Aa ?_); refine Bm ?_; refine Se rfl (Oc rfl rfl rfl (Aa (Ab ?_))); refine Bn rfl (by first | rfl | decide | (simp; done) | omega) ?_; refine Af (Ab (Ai (Se rfl ?_)))
   first | refine Bi rfl rfl _ rfl .free rfl ?_ | refine Bj rfl rfl _ rfl .free rfl ?_
   refine Dl rfl .free rfl ?_; refine Oa rfl (Aa (Se rfl (Om rfl (Om rfl (Oa rfl (Oa rfl (Aa (Ab (Se rfl ?_))))))))); refine Aw rfl .free rfl ?_; refine Om rfl ?_; refine Ca rfl (Bb hf.rep hok0 _ _) ?_; rintro _ J1 _ e1 ⟨o1, k1, rfl, hs1, rfl⟩
   have hf := hf.mono e1
   have hfr := hfr.mono e1
   have hto := hto.mono e1
   have hav := hav.mono e1
   have hle := hle.trans e1
   have hk1 := hk1.mono e1
   have hr_0 := hr_0.mono e1
   refine Oa rfl (Aa (Se rfl (Om rfl (On rfl (Oc rfl rfl rfl (Aa ?_))))))
   first | refine Eu rfl (by simp [Ex.binds]) ?_ | refine Et rfl (by simp [Ex.binds]) ?_ | refine A8 (by simp [Bu, Bo, *]) ?_
   refine Af ?_; refine C0 fun hlr => ?_
   have hpl := b.pl_hits av (f) (t) (a.pl av (f) (t) k).2
   refine Ge 14 rfl rfl ?_; refine Da 0 rfl (Ae rfl) ?_; refine Dt 1 [13] rfl (A7 rfl) ?_; refine Da 2 rfl (Ac rfl) ?_; refine Da 3 rfl (Ac rfl) ?_; refine Da 4 rfl (Ae rfl) ?_; refine Dt 5 [13] rfl (A7 rfl) ?_; refine Da 6 rfl (Ac rfl) ?_
   first | refine Da 7 rfl (A4 rfl rfl _ rfl) ?_ | refine Da 7 rfl (A5 rfl rfl _ rfl) ?_
   refine Dt 8 [13] rfl (Bz rfl) ?_; refine Da 9 rfl (Ac rfl) ?_; refine Da 10 rfl (Ac rfl) ?_; refine Dc 11 rfl rfl (ihn (f := f) (t := t) (by omega) (hf.as 2 b.tree (by omega) rfl) hok.2 hfr hto (by simp [hft]) hnf (by first | omega | (simp only [List.length_append, List.length_cons, List.length_nil]; omega)) hav bp _ _ (by omega) (by omega) _) ?_; rintro _ J2 _ e2 ⟨cs2, rfl, hr_1, rfl⟩; obtain ⟨o2, k2, _, rfl, -⟩ := hr_1.open
   have hlr := hlr.trans e2
   have hf := hf.mono e2
   have hfr := hfr.mono e2
   have hto := hto.mono e2
   have hav := hav.mono e2
   have hle := hle.trans e2
   have hk1 := hk1.mono e2
   have hr_0 := hr_0.mono e2
   refine Hx ?_
   first | refine Da 12 rfl (A4 rfl rfl _ rfl) ?_ | refine Da 12 rfl (A5 rfl rfl _ rfl) ?_
   refine Dx 13 rfl rfl rfl rfl ?_; refine Au (by kernel_rfl) ?_; refine Ak (Ah rfl ?_); refine Or rfl rfl rfl ?_; refine Om rfl (Aa ?_); refine Bm ?_; refine Se rfl (Oc rfl rfl rfl (Aa (Ab ?_))); refine Co rfl (by first | rfl | decide | (simp; done) | omega) ?_; refine Bq rfl ?_; refine Se rfl ?_; refine Aw rfl .free rfl ?_; refine Bp rfl rfl rfl rfl .free ?_; refine Aa ?_; refine C4 (fun w h => h.f2) (Bx ?_); intro hz
   have hf := hf.mono hz
   refine Ag (.c rfl .nil) ?_
   exact ⟨_, _, hle.trans hz, fun w h => Mem.sub (L' := pn bp ov av cv _ _ :: L) (by repeat (first | exact List.Sublist.refl _ | apply List.Sublist.cons_cons | apply List.Sublist.cons)) h, _, rfl, .mk' rfl (.cons (hf.as 0 (.node o.txt []) (by omega) rfl) (.cons (hr_0.mono hz) (.cons (hr_1.mono hz) (.nil)))) (fun y hy => by cases hy; exact Ax (xs := [_, _, _, _, _, _])) (by simp) hcc (by simp [Ap]) (by simp [Ap]), by first | rfl | (simp only [Nat.add_assoc]; rfl)⟩
  ·skip
   have hlen : (Ex.ite a b d).tree.parts.length = 4 := rfl
   have hki := Ia a b d
   have hhd : (Ex.ite a b d).tree.head = E9 := rfl
   simp only [Ex.ite.sizeOf_spec] at hlt
   simp only [Ex.ok, Bool.and_eq_true, decide_eq_true_eq] at hok
   simp only [Ex.nb] at hk hg ⊢
   simp only [Ex.size] at hfl
   obtain ⟨_, hrl⟩ : ∃ _ : True, RepL I (Ex.ite a b d).tree.parts _ := ⟨trivial, hcl⟩
   simp only [show (Ex.ite a b d).tree.parts = [.node E9 [], a.tree, b.tree, d.tree] from rfl, Df, List.cons_append, List.nil_append] at hrl ⊢
   refine C4 (fun w h => h.f4) ?_; refine Ah rfl (Oa rfl (Aa (Ab (Se rfl ?_)))); refine Aw rfl .free rfl ?_; refine Ca rfl (Bk hf.rep _) ?_; rintro _ _ _ _ ⟨rfl, rfl, rfl⟩; refine Aa (Ai (Se rfl (Od rfl rfl rfl (Oa rfl (Aa ?_)))))
   first | refine Eu rfl (by rw [hhd]; decide) ?_ | refine Et rfl (by rw [hhd]; decide) ?_ | refine A8 (by simp [Bu, Bo, *]) ?_
   refine Se rfl (Od rfl rfl rfl (Oa rfl (Aa ?_)))
   first | refine Eu rfl (by rw [hhd]; decide) ?_ | refine Et rfl (by rw [hhd]; decide) ?_ | refine A8 (by simp [Bu, Bo, *]) ?_
   refine Af (Ak (Ab (Se rfl ?_))); refine Aw rfl .free rfl ?_; refine Ca rfl (B9 hf.rep _) ?_; rintro _ J _ e0 ⟨ok, ck, rfl, hk1, rfl⟩
   have hf := hf.mono e0
   have hfr := hfr.mono e0
   have hto := hto.mono e0
   have hav := hav.mono e0
   have hle := hle.trans e0
   rw [hki] at hk1; rw [hki]; refine On rfl (Om rfl (Aa (Ai ?_))); refine Dd ?_; refine Se rfl (Oc rfl rfl rfl (Aa (Ab ?_))); refine Bn rfl (by first | rfl | decide | (simp; done) | omega) ?_; refine Af (Ab (Ai (Se rfl ?_)))
   first | refine Bi rfl rfl _ rfl .free rfl ?_ | refine Bj rfl rfl _ rfl .free rfl ?_
   refine Dl rfl .free rfl ?_; refine Oa rfl (Aa (Se rfl (Om rfl (Om rfl (Oa rfl (Oa rfl (Aa (Ab (Se rfl ?_))))))))); refine Aw rfl .free rfl ?_; refine Om rfl ?_; refine Ca rfl (Bb hf.rep hok0 _ _) ?_; rintro _ J1 _ e1 ⟨o1, k1, rfl, hs1, rfl⟩
   have hf := hf.mono e1
   have hfr := hfr.mono e1
   have hto := hto.mono e1
   have hav := hav.mono e1
   have hle := hle.trans e1
   have hk1 := hk1.mono e1
   refine Oa rfl (Aa (Se rfl (Om rfl (On rfl (Oc rfl rfl rfl (Aa ?_))))))
   first | refine Eu rfl (by simp [Ex.binds]) ?_ | refine Et rfl (by simp [Ex.binds]) ?_ | refine A8 (by simp [Bu, Bo, *]) ?_
   refine Af ?_; refine C0 fun hlr => ?_
   have hpl := a.pl_hits av (f) (t) k
   refine Ge 14 rfl rfl ?_; refine Da 0 rfl (Ae rfl) ?_; refine Dt 1 [13] rfl (A7 rfl) ?_; refine Da 2 rfl (Ac rfl) ?_; refine Da 3 rfl (Ac rfl) ?_; refine Da 4 rfl (Ae rfl) ?_; refine Dt 5 [13] rfl (A7 rfl) ?_; refine Da 6 rfl (Ac rfl) ?_
   first | refine Da 7 rfl (A4 rfl rfl _ rfl) ?_ | refine Da 7 rfl (A5 rfl rfl _ rfl) ?_
   refine Dt 8 [13] rfl (Bz rfl) ?_; refine Da 9 rfl (Ac rfl) ?_; refine Da 10 rfl (Ac rfl) ?_; refine Dc 11 rfl rfl (ihn (f := f) (t := t) (by omega) (hf.as 1 a.tree (by omega) rfl) hok.1.1 hfr hto (by simp [hft]) hnf (by first | omega | (simp only [List.length_append, List.length_cons, List.length_nil]; omega)) hav bp _ _ (by omega) (by omega) _) ?_; rintro _ J2 _ e2 ⟨cs2, rfl, hr_0, rfl⟩; obtain ⟨o2, k2, _, rfl, -⟩ := hr_0.open
   have hlr := hlr.trans e2
   have hf := hf.mono e2
   have hfr := hfr.mono e2
   have hto := hto.mono e2
   have hav := hav.mono e2
   have hle := hle.trans e2
   have hk1 := hk1.mono e2
   refine Hx ?_
   first | refine Da 12 rfl (A4 rfl rfl _ rfl) ?_ | refine Da 12 rfl (A5 rfl rfl _ rfl) ?_
   refine Dx 13 rfl rfl rfl rfl ?_; refine Au (by kernel_rfl) ?_; refine Ak (Ah rfl ?_); refine Or rfl rfl rfl ?_; refine Om rfl (Aa ?_); refine Bm ?_; refine Se rfl (Oc rfl rfl rfl (Aa (Ab ?_))); refine Bn rfl (by first | rfl | decide | (simp; done) | omega) ?_; refine Af (Ab (Ai (Se rfl ?_)))
   first | refine Bi rfl rfl _ rfl .free rfl ?_ | refine Bj rfl rfl _ rfl .free rfl ?_
   refine Dl rfl .free rfl ?_; refine Oa rfl (Aa (Se rfl (Om rfl (Om rfl (Oa rfl (Oa rfl (Aa (Ab (Se rfl ?_))))))))); refine Aw rfl .free rfl ?_; refine Om rfl ?_; refine Ca rfl (Bb hf.rep hok0 _ _) ?_; rintro _ J1 _ e1 ⟨o1, k1, rfl, hs1, rfl⟩
   have hf := hf.mono e1
   have hfr := hfr.mono e1
   have hto := hto.mono e1
   have hav := hav.mono e1
   have hle := hle.trans e1
   have hk1 := hk1.mono e1
   have hr_0 := hr_0.mono e1
   refine Oa rfl (Aa (Se rfl (Om rfl (On rfl (Oc rfl rfl rfl (Aa ?_))))))
   first | refine Eu rfl (by simp [Ex.binds]) ?_ | refine Et rfl (by simp [Ex.binds]) ?_ | refine A8 (by simp [Bu, Bo, *]) ?_
   refine Af ?_; refine C0 fun hlr => ?_
   have hpl := b.pl_hits av (f) (t) (a.pl av (f) (t) k).2
   refine Ge 14 rfl rfl ?_; refine Da 0 rfl (Ae rfl) ?_; refine Dt 1 [13] rfl (A7 rfl) ?_; refine Da 2 rfl (Ac rfl) ?_; refine Da 3 rfl (Ac rfl) ?_; refine Da 4 rfl (Ae rfl) ?_; refine Dt 5 [13] rfl (A7 rfl) ?_; refine Da 6 rfl (Ac rfl) ?_
   first | refine Da 7 rfl (A4 rfl rfl _ rfl) ?_ | refine Da 7 rfl (A5 rfl rfl _ rfl) ?_
   refine Dt 8 [13] rfl (Bz rfl) ?_; refine Da 9 rfl (Ac rfl) ?_; refine Da 10 rfl (Ac rfl) ?_; refine Dc 11 rfl rfl (ihn (f := f) (t := t) (by omega) (hf.as 2 b.tree (by omega) rfl) hok.1.2 hfr hto (by simp [hft]) hnf (by first | omega | (simp only [List.length_append, List.length_cons, List.length_nil]; omega)) hav bp _ _ (by omega) (by omega) _) ?_; rintro _ J2 _ e2 ⟨cs2, rfl, hr_1, rfl⟩; obtain ⟨o2, k2, _, rfl, -⟩ := hr_1.open
   have hlr := hlr.trans e2
   have hf := hf.mono e2
   have hfr := hfr.mono e2
   have hto := hto.mono e2
   have hav := hav.mono e2
   have hle := hle.trans e2
   have hk1 := hk1.mono e2
   have hr_0 := hr_0.mono e2
   refine Hx ?_
   first | refine Da 12 rfl (A4 rfl rfl _ rfl) ?_ | refine Da 12 rfl (A5 rfl rfl _ rfl) ?_
   refine Dx 13 rfl rfl rfl rfl ?_; refine Au (by kernel_rfl) ?_; refine Ak (Ah rfl ?_); refine Or rfl rfl rfl ?_; refine Om rfl (Aa ?_); refine Bm ?_; refine Se rfl (Oc rfl rfl rfl (Aa (Ab ?_))); refine Bn rfl (by first | rfl | decide | (simp; done) | omega) ?_; refine Af (Ab (Ai (Se rfl ?_)))
   first | refine Bi rfl rfl _ rfl .free rfl ?_ | refine Bj rfl rfl _ rfl .free rfl ?_
   refine Dl rfl .free rfl ?_; refine Oa rfl (Aa (Se rfl (Om rfl (Om rfl (Oa rfl (Oa rfl (Aa (Ab (Se rfl ?_))))))))); refine Aw rfl .free rfl ?_; refine Om rfl ?_; refine Ca rfl (Bb hf.rep hok0 _ _) ?_; rintro _ J1 _ e1 ⟨o1, k1, rfl, hs1, rfl⟩
   have hf := hf.mono e1
   have hfr := hfr.mono e1
   have hto := hto.mono e1
   have hav := hav.mono e1
   have hle := hle.trans e1
   have hk1 := hk1.mono e1
   have hr_0 := hr_0.mono e1
   have hr_1 := hr_1.mono e1
   refine Oa rfl (Aa (Se rfl (Om rfl (On rfl (Oc rfl rfl rfl (Aa ?_))))))
   first | refine Eu rfl (by simp [Ex.binds]) ?_ | refine Et rfl (by simp [Ex.binds]) ?_ | refine A8 (by simp [Bu, Bo, *]) ?_
   refine Af ?_; refine C0 fun hlr => ?_
   have hpl := d.pl_hits av (f) (t) (b.pl av (f) (t) (a.pl av (f) (t) k).2).2
   refine Ge 14 rfl rfl ?_; refine Da 0 rfl (Ae rfl) ?_; refine Dt 1 [13] rfl (A7 rfl) ?_; refine Da 2 rfl (Ac rfl) ?_; refine Da 3 rfl (Ac rfl) ?_; refine Da 4 rfl (Ae rfl) ?_; refine Dt 5 [13] rfl (A7 rfl) ?_; refine Da 6 rfl (Ac rfl) ?_
   first | refine Da 7 rfl (A4 rfl rfl _ rfl) ?_ | refine Da 7 rfl (A5 rfl rfl _ rfl) ?_
   refine Dt 8 [13] rfl (Bz rfl) ?_; refine Da 9 rfl (Ac rfl) ?_; refine Da 10 rfl (Ac rfl) ?_; refine Dc 11 rfl rfl (ihn (f := f) (t := t) (by omega) (hf.as 3 d.tree (by omega) rfl) hok.2 hfr hto (by simp [hft]) hnf (by first | omega | (simp only [List.length_append, List.length_cons, List.length_nil]; omega)) hav bp _ _ (by omega) (by omega) _) ?_; rintro _ J2 _ e2 ⟨cs2, rfl, hr_2, rfl⟩; obtain ⟨o2, k2, _, rfl, -⟩ := hr_2.open
   have hlr := hlr.trans e2
   have hf := hf.mono e2
   have hfr := hfr.mono e2
   have hto := hto.mono e2
   have hav := hav.mono e2
   have hle := hle.trans e2
   have hk1 := hk1.mono e2
   have hr_0 := hr_0.mono e2
   have hr_1 := hr_1.mono e2
   refine Hx ?_
   first | refine Da 12 rfl (A4 rfl rfl _ rfl) ?_ | refine Da 12 rfl (A5 rfl rfl _ rfl) ?_
   refine Dx 13 rfl rfl rfl rfl ?_; refine Au (by kernel_rfl) ?_; refine Ak (Ah rfl ?_); refine Or rfl rfl rfl ?_; refine Om rfl (Aa ?_); refine Bm ?_; refine Se rfl (Oc rfl rfl rfl (Aa (Ab ?_))); refine Co rfl (by first | rfl | decide | (simp; done) | omega) ?_; refine Bq rfl ?_; refine Se rfl ?_; refine Aw rfl .free rfl ?_; refine Bp rfl rfl rfl rfl .free ?_; refine Aa ?_; refine C4 (fun w h => h.f2) (Bx ?_); intro hz
   have hf := hf.mono hz
   refine Ag (.c rfl .nil) ?_
   exact ⟨_, _, hle.trans hz, fun w h => Mem.sub (L' := pn bp ov av cv _ _ :: L) (by repeat (first | exact List.Sublist.refl _ | apply List.Sublist.cons_cons | apply List.Sublist.cons)) h, _, rfl, .mk' rfl (.cons (hf.as 0 (.node E9 []) (by omega) rfl) (.cons (hr_0.mono hz) (.cons (hr_1.mono hz) (.cons (hr_2.mono hz) (.nil))))) (fun y hy => by cases hy; exact Ax (xs := [_, _, _, _, _, _, _, _])) (by simp) hcc (by simp [Ap]) (by simp [Ap]), by first | rfl | (simp only [Nat.add_assoc]; rfl)⟩
  ·skip
   have hlen : (Ex.lt z a b).tree.parts.length = 4 := rfl
   have hki := Ib z a b
   have hhd : (Ex.lt z a b).tree.head = Cw := rfl
   simp only [Ex.lt.sizeOf_spec] at hlt
   simp only [Ex.ok, Bool.and_eq_true, decide_eq_true_eq] at hok
   simp only [Ex.nb] at hk hg ⊢
   simp only [Ex.size] at hfl
   obtain ⟨_, hrl⟩ : ∃ _ : True, RepL I (Ex.lt z a b).tree.parts _ := ⟨trivial, hcl⟩
   simp only [show (Ex.lt z a b).tree.parts = [.node Cw [], .node z [], a.tree, b.tree] from rfl, Df, List.cons_append, List.nil_append] at hrl ⊢
   refine C4 (fun w h => h.f4) ?_; refine Ah rfl (Oa rfl (Aa (Ab (Se rfl ?_)))); refine Aw rfl .free rfl ?_; refine Ca rfl (Bk hf.rep _) ?_; rintro _ _ _ _ ⟨rfl, rfl, rfl⟩; refine Aa (Ai (Se rfl (Od rfl rfl rfl (Oa rfl (Aa ?_)))))
   first | refine Ji rfl (by rw [hhd]; rfl) ?_ | refine Jh rfl (by rw [hhd]; rfl) ?_ | refine Cm (by simp [Bu, Bo, *]) ?_
   refine Ab ?_; obtain ⟨x1, x2, x3⟩ := Dq 120 av k
   have x4 := Dz 120 av k
   have x5 := Bf 120 av (fr 120 av k)
   have x6 := Bf 120 av (fr 120 av k + 1)
   refine Ah rfl (Om rfl ?_); refine Ca rfl (H5 hav bp g k (by omega) (by omega) _) ?_; rintro _ _ _ _ ⟨rfl, rfl, rfl⟩
   have hnl1 := Nb (n := fr 120 av k) (by omega)
   generalize hn1e : nm 120 (fr 120 av k) = n1 at hnl1 ⊢
   refine Ol rfl rfl ?_; intro b41; refine Dw [n1] (by simp [Ap]) (by intro y hy; rw [List.mem_singleton.1 hy]; exact hnl1) ?_; intro J1 ez hnm
   have hn0 := hnm.st 0 (by simp)
   have hf := hf.mono ez
   have hfr := hfr.mono ez
   have hto := hto.mono ez
   have hav := hav.mono ez
   have hle := hle.trans ez
   refine Oa rfl (Aa ?_); refine Do 8 rfl rfl ?_; refine Da 0 rfl (Ae rfl) ?_; refine Dt 1 [7] rfl (A7 rfl) ?_; refine Da 2 rfl (Ac rfl) ?_
   first | refine Da 3 rfl (A4 rfl rfl 0 rfl) ?_ | refine Da 3 rfl (A5 rfl rfl 0 rfl) ?_
   refine Dt 4 [7] rfl (Qc rfl) ?_; refine Dc 5 rfl rfl (I0 n1 hnl1 _ _) ?_; rintro _ _ _ _ ⟨rfl, rfl, rfl⟩; refine Hx ?_
   first | refine Da 6 rfl (A4 rfl rfl 1 rfl) ?_ | refine Da 6 rfl (A5 rfl rfl 1 rfl) ?_
   refine Dx 7 rfl rfl rfl rfl ?_; refine Au (by kernel_rfl) ?_; refine Ak (Ab (Se rfl ?_)); refine Aw rfl .free rfl ?_; refine Ca rfl (B9 hf.rep _) ?_; rintro _ J _ e0 ⟨ok, ck, rfl, hk1, rfl⟩
   have hf := hf.mono e0
   have hfr := hfr.mono e0
   have hto := hto.mono e0
   have hav := hav.mono e0
   have hle := hle.trans e0
   rw [hki] at hk1; rw [hki]
   have hnm := hnm.mono e0
   refine On rfl (Om rfl (Aa (Ai ?_))); refine Dd ?_; refine Se rfl (Oc rfl rfl rfl (Aa (Ab ?_))); refine Bn rfl (by first | rfl | decide | (simp; done) | omega) ?_; refine Af (Ab (Ai (Se rfl ?_)))
   first | refine Bi rfl rfl _ rfl .free rfl ?_ | refine Bj rfl rfl _ rfl .free rfl ?_
   refine Dl rfl .free rfl ?_; refine Oa rfl (Aa (Se rfl (Om rfl (Om rfl (Oa rfl (Oa rfl (Aa (Ab (Se rfl ?_))))))))); refine Aw rfl .free rfl ?_; refine Om rfl ?_; refine Ca rfl (Bb hf.rep hok0 _ _) ?_; rintro _ J1 _ e1 ⟨o1, k1, rfl, hs1, rfl⟩
   have hf := hf.mono e1
   have hfr := hfr.mono e1
   have hto := hto.mono e1
   have hav := hav.mono e1
   have hle := hle.trans e1
   have hk1 := hk1.mono e1
   have hnm := hnm.mono e1
   refine Oa rfl (Aa (Se rfl (Om rfl (On rfl (Oc rfl rfl rfl (Aa ?_))))))
   first | refine Eu rfl (by simp [Ex.binds]) ?_ | refine Et rfl (by simp [Ex.binds]) ?_ | refine A8 (by simp [Bu, Bo, *]) ?_
   refine Af ?_; refine C0 fun hlr => ?_
   have hpl := a.pl_hits av (f) (t) (fr 120 av k + 1)
   refine Ge 14 rfl rfl ?_; refine Da 0 rfl (Ae rfl) ?_; refine Dt 1 [13] rfl (A7 rfl) ?_; refine Da 2 rfl (Ac rfl) ?_; refine Da 3 rfl (Ac rfl) ?_; refine Da 4 rfl (Ae rfl) ?_; refine Dt 5 [13] rfl (A7 rfl) ?_; refine Da 6 rfl (Ac rfl) ?_
   first | refine Da 7 rfl (A4 rfl rfl _ rfl) ?_ | refine Da 7 rfl (A5 rfl rfl _ rfl) ?_
   refine Dt 8 [13] rfl (Bz rfl) ?_; refine Da 9 rfl (Ac rfl) ?_; refine Da 10 rfl (Ac rfl) ?_; refine Dc 11 rfl rfl (ihn (f := f) (t := t) (by omega) (hf.as 2 a.tree (by omega) rfl) hok.1.2 hfr hto (by simp [hft]) hnf (by first | omega | (simp only [List.length_append, List.length_cons, List.length_nil]; omega)) hav bp _ _ (by omega) (by omega) _) ?_; rintro _ J2 _ e2 ⟨cs2, rfl, hr_0, rfl⟩; obtain ⟨o2, k2, _, rfl, -⟩ := hr_0.open
   have hlr := hlr.trans e2
   have hf := hf.mono e2
   have hfr := hfr.mono e2
   have hto := hto.mono e2
   have hav := hav.mono e2
   have hle := hle.trans e2
   have hk1 := hk1.mono e2
   have hnm := hnm.mono e2
   refine Hx ?_
   first | refine Da 12 rfl (A4 rfl rfl _ rfl) ?_ | refine Da 12 rfl (A5 rfl rfl _ rfl) ?_
   refine Dx 13 rfl rfl rfl rfl ?_; refine Au (by kernel_rfl) ?_; refine Ak (Ah rfl ?_); refine Or rfl rfl rfl ?_; refine Om rfl (Aa ?_); refine Bm ?_; refine Se rfl (Oc rfl rfl rfl (Aa (Ab ?_))); refine Bn rfl (by first | rfl | decide | (simp; done) | omega) ?_; refine Af (Ab (Ai (Se rfl ?_)))
   first | refine Bi rfl rfl _ rfl .free rfl ?_ | refine Bj rfl rfl _ rfl .free rfl ?_
   refine Dl rfl .free rfl ?_; refine Oa rfl (Aa (Se rfl (Om rfl (Om rfl (Oa rfl (Oa rfl (Aa (Ab (Se rfl ?_))))))))); refine Aw rfl .free rfl ?_; refine Om rfl ?_; refine Ca rfl (Bb hf.rep hok0 _ _) ?_; rintro _ J1 _ e1 ⟨o1, k1, rfl, hs1, rfl⟩
   have hf := hf.mono e1
   have hfr := hfr.mono e1
   have hto := hto.mono e1
   have hav := hav.mono e1
   have hle := hle.trans e1
   have hk1 := hk1.mono e1
   have hr_0 := hr_0.mono e1
   have hnm := hnm.mono e1
   refine Oa rfl (Aa (Se rfl (Om rfl (On rfl (Oc rfl rfl rfl (Aa ?_))))))
   first | refine Ji rfl (by simp [Ex.binds]) ?_ | refine Jh rfl (by simp [Ex.binds]) ?_ | refine Cm (by simp [Bu, Bo, *]) ?_
   refine Ah rfl (Om rfl (Om rfl ?_)); refine Ol rfl rfl ?_; intro b87; refine Fo ?_; intro ez
   have hf := hf.mono ez
   have hfr := hfr.mono ez
   have hto := hto.mono ez
   have hav := hav.mono ez
   have hle := hle.trans ez
   have hk1 := hk1.mono ez
   have hr_0 := hr_0.mono ez
   have hnm := hnm.mono ez
   refine Ca rfl (A1 (Ax (xs := [.slice of f.length cf, .slice o1 (List.length _) k1]) (ys := [])) hfr (hs1.mono ez) (Ex.binds_room0 (by omega)) _) ?_; rintro _ J3 _ e3 ⟨o3, k3, rfl, hs3, rfl⟩
   have hf := hf.mono e3
   have hfr := hfr.mono e3
   have hto := hto.mono e3
   have hav := hav.mono e3
   have hle := hle.trans e3
   have hk1 := hk1.mono e3
   have hr_0 := hr_0.mono e3
   have hnm := hnm.mono e3
   refine Om rfl (Om rfl ?_); refine Ol rfl rfl ?_; intro b91; refine Fo ?_; intro ey
   have hf := hf.mono ey
   have hfr := hfr.mono ey
   have hto := hto.mono ey
   have hav := hav.mono ey
   have hle := hle.trans ey
   have hk1 := hk1.mono ey
   have hr_0 := hr_0.mono ey
   have hnm := hnm.mono ey
   have hs3 := hs3.mono ey
   refine Ca rfl (A1 (m := [n1]) (Ax (xs := [.slice ot t.length ct, .slice (some ⟨_, 0, none⟩) (List.length _) _]) (ys := [])) hto hnm (show t.length + 1 ≤ Ap by unfold Ap; omega) _) ?_; rintro _ J4 _ e4 ⟨o4, k4, rfl, hs4, rfl⟩
   have hf := hf.mono e4
   have hfr := hfr.mono e4
   have hto := hto.mono e4
   have hav := hav.mono e4
   have hle := hle.trans e4
   have hk1 := hk1.mono e4
   have hr_0 := hr_0.mono e4
   have hnm := hnm.mono e4
   have hs3 := hs3.mono e4
   refine Oa rfl (Oa rfl (Aa ?_)); refine C0 fun hlr => ?_
   have hpl := b.pl_hits av (f ++ [z]) (t ++ [n1]) (a.pl av (f) (t) (fr 120 av k + 1)).2
   refine Ge 14 rfl rfl ?_; refine Da 0 rfl (Ae rfl) ?_; refine Dt 1 [13] rfl (A7 rfl) ?_; refine Da 2 rfl (Ac rfl) ?_; refine Da 3 rfl (Ac rfl) ?_; refine Da 4 rfl (Ae rfl) ?_; refine Dt 5 [13] rfl (A7 rfl) ?_; refine Da 6 rfl (Ac rfl) ?_
   first | refine Da 7 rfl (A4 rfl rfl _ rfl) ?_ | refine Da 7 rfl (A5 rfl rfl _ rfl) ?_
   refine Dt 8 [13] rfl (Bz rfl) ?_; refine Da 9 rfl (Ac rfl) ?_; refine Da 10 rfl (Ac rfl) ?_; refine Dc 11 rfl rfl (ihn (f := f ++ [z]) (t := t ++ [n1]) (by omega) (hf.as 3 b.tree (by omega) rfl) hok.2 hs3 hs4 (by simp [hft]) (hnf.add (by intro y hy; rw [List.mem_singleton.1 hy]; exact hok.1.1)) (by first | omega | (simp only [List.length_append, List.length_cons, List.length_nil]; omega)) hav bp _ _ (by omega) (by omega) _) ?_; rintro _ J2 _ e2 ⟨cs2, rfl, hr_1, rfl⟩; obtain ⟨o2, k2, _, rfl, -⟩ := hr_1.open
   have hlr := hlr.trans e2
   have hf := hf.mono e2
   have hfr := hfr.mono e2
   have hto := hto.mono e2
   have hav := hav.mono e2
   have hle := hle.trans e2
   have hk1 := hk1.mono e2
   have hr_0 := hr_0.mono e2
   have hnm := hnm.mono e2
   refine Hx ?_
   first | refine Da 12 rfl (A4 rfl rfl _ rfl) ?_ | refine Da 12 rfl (A5 rfl rfl _ rfl) ?_
   refine Dx 13 rfl rfl rfl rfl ?_; refine Au (by kernel_rfl) ?_; refine Ak (Ah rfl ?_); refine Or rfl rfl rfl ?_; refine Om rfl (Aa ?_); refine Bm ?_; refine Se rfl (Oc rfl rfl rfl (Aa (Ab ?_))); refine Co rfl (by first | rfl | decide | (simp; done) | omega) ?_; refine Bq rfl ?_; refine Se rfl ?_; refine Aw rfl .free rfl ?_; refine Bp rfl rfl rfl rfl .free ?_; refine Aa ?_; refine C4 (fun w h => h.f2) (Bx ?_); intro hz
   have hf := hf.mono hz
   refine Ag (.c rfl .nil) ?_; subst hn1e
   exact ⟨_, _, hle.trans hz, fun w h => Mem.sub (L' := pn bp ov av cv _ _ :: L) (by repeat (first | exact List.Sublist.refl _ | apply List.Sublist.cons_cons | apply List.Sublist.cons)) h, _, rfl, .mk' rfl (.cons (hf.as 0 (.node Cw []) (by omega) rfl) (.cons (.ofAtom hnl1) (.cons (hr_0.mono hz) (.cons (hr_1.mono hz) (.nil))))) (fun y hy => by cases hy; exact Ax (xs := [_, _, _, _, _, _, _, _])) (by simp) hcc (by simp [Ap]) (by simp [Ap]), by first | rfl | (simp only [Nat.add_assoc]; rfl)⟩
  ·skip
   have hlen : (Ex.fn h1 z s u b).tree.parts.length = 6 := rfl
   have hki := Ip h1 z s u b
   have hhd : (Ex.fn h1 z s u b).tree.head = Cq := rfl
   simp only [Ex.fn.sizeOf_spec] at hlt
   simp only [Ex.ok, Bool.and_eq_true, decide_eq_true_eq] at hok
   simp only [Ex.nb] at hk hg ⊢
   simp only [Ex.size] at hfl
   obtain ⟨_, hrl⟩ : ∃ _ : True, RepL I (Ex.fn h1 z s u b).tree.parts _ := ⟨trivial, hcl⟩
   simp only [show (Ex.fn h1 z s u b).tree.parts = [.node Cq [], .node h1 [], .node z [], s.tree, u.tree, b.tree] from rfl, Df, List.cons_append, List.nil_append] at hrl ⊢
   refine C4 (fun w h => h.f4) ?_; refine Ah rfl (Oa rfl (Aa (Ab (Se rfl ?_)))); refine Aw rfl .free rfl ?_; refine Ca rfl (Bk hf.rep _) ?_; rintro _ _ _ _ ⟨rfl, rfl, rfl⟩; refine Aa (Ai (Se rfl (Od rfl rfl rfl (Oa rfl (Aa ?_)))))
   first | refine Eu rfl (by rw [hhd]; decide) ?_ | refine Et rfl (by rw [hhd]; decide) ?_ | refine A8 (by simp [Bu, Bo, *]) ?_
   refine Se rfl (Od rfl rfl rfl (Oa rfl (Aa ?_)))
   first | refine Ji rfl (by rw [hhd]; rfl) ?_ | refine Jh rfl (by rw [hhd]; rfl) ?_ | refine Cm (by simp [Bu, Bo, *]) ?_
   refine Ab ?_; obtain ⟨x1, x2, x3⟩ := Dq 120 av k
   have x4 := Dz 120 av k
   have x5 := Bf 120 av (fr 120 av k)
   have x6 := Bf 120 av (fr 120 av k + 1)
   obtain ⟨y1, y2, y3⟩ := Dq 120 av (fr 120 av k + 1)
   have y4 := Dz 120 av (fr 120 av k + 1)
   have y5 := Bf 120 av (fr 120 av (fr 120 av k + 1))
   have y6 := Bf 120 av (fr 120 av (fr 120 av k + 1) + 1)
   refine Ah rfl (Om rfl ?_); refine Ca rfl (H5 hav bp g k (by omega) (by omega) _) ?_; rintro _ _ _ _ ⟨rfl, rfl, rfl⟩
   have hnl1 := Nb (n := fr 120 av k) (by omega)
   generalize hn1e : nm 120 (fr 120 av k) = n1 at hnl1 ⊢
   refine Om rfl ?_; refine Ca rfl (H5 hav bp (g + 1) (fr 120 av k + 1) (by omega) (by omega) _) ?_; rintro _ _ _ _ ⟨rfl, rfl, rfl⟩
   have hnl2 := Nb (n := fr 120 av (fr 120 av k + 1)) (by omega)
   generalize hn2e : nm 120 (fr 120 av (fr 120 av k + 1)) = n2 at hnl2 ⊢
   refine Ol rfl rfl ?_; intro b55; refine Dw [n1, n2] (by simp [Ap]) (by intro y hy; simp only [List.mem_cons, List.not_mem_nil, or_false] at hy; rcases hy with rfl | rfl; exact hnl1; exact hnl2) ?_; intro J1 ez hnm
   have hn0 := hnm.st 0 (by simp)
   have hn1 := hnm.st 1 (by simp)
   have hf := hf.mono ez
   have hfr := hfr.mono ez
   have hto := hto.mono ez
   have hav := hav.mono ez
   have hle := hle.trans ez
   refine Oa rfl (Aa ?_); refine Do 16 rfl rfl ?_; refine Da 0 rfl (Ae rfl) ?_; refine Dt 1 [13] rfl (A7 rfl) ?_; refine Da 2 rfl (Ae rfl) ?_; refine Da 4 rfl (Ac rfl) ?_
   first | refine Da 5 rfl (A4 rfl rfl 0 rfl) ?_ | refine Da 5 rfl (A5 rfl rfl 0 rfl) ?_
   refine Dt 6 [13] rfl (Qc rfl) ?_; refine Da 8 rfl (Ac rfl) ?_
   first | refine Da 9 rfl (A4 rfl rfl 1 rfl) ?_ | refine Da 9 rfl (A5 rfl rfl 1 rfl) ?_
   refine Dt 10 [13] rfl (Qc rfl) ?_; refine E7 3 7 (by kernel_rfl) ?_ ?_
   ·skip
    refine Nx 3 rfl rfl (A7 rfl) .free rfl (.inr Al) ?_; refine Dc 7 rfl rfl (I0 n1 hnl1 _ _) ?_; rintro _ _ _ _ ⟨rfl, rfl, rfl⟩; refine Hx ?_; refine Dc 11 rfl rfl (I0 n2 hnl2 _ _) ?_; rintro _ _ _ _ ⟨rfl, rfl, rfl⟩; refine Hx ?_
    first | refine Da 12 rfl (A4 rfl rfl 1 rfl) ?_ | refine Da 12 rfl (A5 rfl rfl 1 rfl) ?_
    refine Dx 13 rfl rfl rfl rfl ?_
    first | refine Db 14 rfl (A4 rfl rfl 2 rfl) ?_ | refine Db 14 rfl (A5 rfl rfl 2 rfl) ?_
    refine Dx 15 rfl rfl rfl rfl ?_; refine Au (by kernel_rfl) ?_; refine Ak (Ab (Se rfl ?_)); refine Aw rfl .free rfl ?_; refine Ca rfl (B9 hf.rep _) ?_; rintro _ J _ e0 ⟨ok, ck, rfl, hk1, rfl⟩
    have hf := hf.mono e0
    have hfr := hfr.mono e0
    have hto := hto.mono e0
    have hav := hav.mono e0
    have hle := hle.trans e0
    rw [hki] at hk1; rw [hki]
    have hnm := hnm.mono e0
    refine On rfl (Om rfl (Aa (Ai ?_))); refine Dd ?_; refine Se rfl (Oc rfl rfl rfl (Aa (Ab ?_))); refine Bn rfl (by first | rfl | decide | (simp; done) | omega) ?_; refine Af (Ab (Ai (Se rfl ?_)))
    first | refine Bi rfl rfl _ rfl .free rfl ?_ | refine Bj rfl rfl _ rfl .free rfl ?_
    refine Dl rfl .free rfl ?_; refine Oa rfl (Aa (Se rfl (Om rfl (Om rfl (Oa rfl (Oa rfl (Aa (Ab (Se rfl ?_))))))))); refine Aw rfl .free rfl ?_; refine Om rfl ?_; refine Ca rfl (Bb hf.rep hok0 _ _) ?_; rintro _ J1 _ e1 ⟨o1, k1, rfl, hs1, rfl⟩
    have hf := hf.mono e1
    have hfr := hfr.mono e1
    have hto := hto.mono e1
    have hav := hav.mono e1
    have hle := hle.trans e1
    have hk1 := hk1.mono e1
    have hnm := hnm.mono e1
    refine Oa rfl (Aa (Se rfl (Om rfl (On rfl (Oc rfl rfl rfl (Aa ?_))))))
    first | refine Ji rfl (by simp [Ex.binds]) ?_ | refine Jh rfl (by simp [Ex.binds]) ?_ | refine Cm (by simp [Bu, Bo, *]) ?_
    refine Ah rfl (Om rfl (Om rfl ?_)); refine Ol rfl rfl ?_; intro b87; refine Fo ?_; intro ez
    have hf := hf.mono ez
    have hfr := hfr.mono ez
    have hto := hto.mono ez
    have hav := hav.mono ez
    have hle := hle.trans ez
    have hk1 := hk1.mono ez
    have hnm := hnm.mono ez
    refine Ca rfl (A1 (Ax (xs := [.slice of f.length cf, .slice o1 (List.length _) k1]) (ys := [])) hfr (hs1.mono ez) (Ex.binds_room0 (by omega)) _) ?_; rintro _ J3 _ e3 ⟨o3, k3, rfl, hs3, rfl⟩
    have hf := hf.mono e3
    have hfr := hfr.mono e3
    have hto := hto.mono e3
    have hav := hav.mono e3
    have hle := hle.trans e3
    have hk1 := hk1.mono e3
    have hnm := hnm.mono e3
    refine Om rfl (Om rfl ?_); refine Ol rfl rfl ?_; intro b91; refine Fo ?_; intro ey
    have hf := hf.mono ey
    have hfr := hfr.mono ey
    have hto := hto.mono ey
    have hav := hav.mono ey
    have hle := hle.trans ey
    have hk1 := hk1.mono ey
    have hnm := hnm.mono ey
    have hs3 := hs3.mono ey
    refine Ca rfl (A1 (m := [n1, n2]) (Ax (xs := [.slice ot t.length ct, .slice (some ⟨_, 0, none⟩) (List.length _) _]) (ys := [])) hto hnm (show t.length + 2 ≤ Ap by unfold Ap; omega) _) ?_; rintro _ J4 _ e4 ⟨o4, k4, rfl, hs4, rfl⟩
    have hf := hf.mono e4
    have hfr := hfr.mono e4
    have hto := hto.mono e4
    have hav := hav.mono e4
    have hle := hle.trans e4
    have hk1 := hk1.mono e4
    have hnm := hnm.mono e4
    have hs3 := hs3.mono e4
    refine Oa rfl (Oa rfl (Aa ?_)); refine C0 fun hlr => ?_
    have hpl := b.pl_hits av (f ++ [h1, z]) (t ++ [n1, n2]) (fr 120 av (fr 120 av k + 1) + 1)
    refine Ge 14 rfl rfl ?_; refine Da 0 rfl (Ae rfl) ?_; refine Dt 1 [13] rfl (A7 rfl) ?_; refine Da 2 rfl (Ac rfl) ?_; refine Da 3 rfl (Ac rfl) ?_; refine Da 4 rfl (Ae rfl) ?_; refine Dt 5 [13] rfl (A7 rfl) ?_; refine Da 6 rfl (Ac rfl) ?_
    first | refine Da 7 rfl (A4 rfl rfl _ rfl) ?_ | refine Da 7 rfl (A5 rfl rfl _ rfl) ?_
    refine Dt 8 [13] rfl (Bz rfl) ?_; refine Da 9 rfl (Ac rfl) ?_; refine Da 10 rfl (Ac rfl) ?_; refine Dc 11 rfl rfl (ihn (f := f ++ [h1, z]) (t := t ++ [n1, n2]) (by omega) (hf.as 5 b.tree (by omega) rfl) hok.2 hs3 hs4 (by simp [hft]) (hnf.add (by intro y hy; simp only [List.mem_cons, List.not_mem_nil, or_false] at hy; rcases hy with rfl | rfl; exact hok.1.1.1.1.1; exact hok.1.1.1.1.2)) (by first | omega | (simp only [List.length_append, List.length_cons, List.length_nil]; omega)) hav bp _ _ (by omega) (by omega) _) ?_; rintro _ J2 _ e2 ⟨cs2, rfl, hr_0, rfl⟩
    obtain ⟨o2, k2, _, rfl, -⟩ := hr_0.open
    have hlr := hlr.trans e2
    have hf := hf.mono e2
    have hfr := hfr.mono e2
    have hto := hto.mono e2
    have hav := hav.mono e2
    have hle := hle.trans e2
    have hk1 := hk1.mono e2
    have hnm := hnm.mono e2
    refine Hx ?_
    first | refine Da 12 rfl (A4 rfl rfl _ rfl) ?_ | refine Da 12 rfl (A5 rfl rfl _ rfl) ?_
    refine Dx 13 rfl rfl rfl rfl ?_; refine Au (by kernel_rfl) ?_; refine Ak (Ah rfl ?_); refine Or rfl rfl rfl ?_; refine Om rfl (Aa ?_); refine Bm ?_; refine Se rfl (Oc rfl rfl rfl (Aa (Ab ?_))); refine Co rfl (by first | rfl | decide | (simp; done) | omega) ?_; refine Bq rfl ?_; refine Se rfl ?_; refine Aw rfl .free rfl ?_; refine Bp rfl rfl rfl rfl .free ?_; refine Aa ?_; refine C4 (fun w h => h.f2) (Bx ?_); intro hz
    have hf := hf.mono hz
    refine Ag (.c rfl .nil) ?_; subst hn1e hn2e
    exact ⟨_, _, hle.trans hz, fun w h => Mem.sub (L' := pn bp ov av cv _ _ :: L) (by repeat (first | exact List.Sublist.refl _ | apply List.Sublist.cons_cons | apply List.Sublist.cons)) h, _, rfl, .mk' rfl (.cons (hf.as 0 (.node Cq []) (by omega) rfl) (.cons (.ofAtom hnl1) (.cons (.ofAtom hnl2) (.cons (hf.as 3 (s.tree) (by omega) rfl) (.cons (hf.as 4 (u.tree) (by omega) rfl) (.cons (hr_0.mono hz) (.nil))))))) (fun y hy => by cases hy; exact Ax (xs := [_, _, _, _, _, _, _, _, _, _, _, _])) (by simp) hcc (by simp [Ap]) (by simp [Ap]), by rw [show g + (2 + b.nb) = g + 1 + 1 + b.nb by omega]; rfl⟩
   ·skip
    refine M4 7 rfl rfl rfl .free rfl (I0 n1 hnl1 _ _) ?_; rintro _ _ _ _ ⟨rfl, rfl, rfl⟩; refine Hx ?_; refine E7 3 11 (by kernel_rfl) ?_ ?_
    ·skip
     refine Nx 3 rfl rfl (A7 rfl) .free rfl (.inr Al) ?_; refine Dc 11 rfl rfl (I0 n2 hnl2 _ _) ?_; rintro _ _ _ _ ⟨rfl, rfl, rfl⟩; refine Hx ?_
     first | refine Da 12 rfl (A4 rfl rfl 1 rfl) ?_ | refine Da 12 rfl (A5 rfl rfl 1 rfl) ?_
     refine Dx 13 rfl rfl rfl rfl ?_
     first | refine Db 14 rfl (A4 rfl rfl 2 rfl) ?_ | refine Db 14 rfl (A5 rfl rfl 2 rfl) ?_
     refine Dx 15 rfl rfl rfl rfl ?_; refine Au (by kernel_rfl) ?_; refine Ak (Ab (Se rfl ?_)); refine Aw rfl .free rfl ?_; refine Ca rfl (B9 hf.rep _) ?_; rintro _ J _ e0 ⟨ok, ck, rfl, hk1, rfl⟩
     have hf := hf.mono e0
     have hfr := hfr.mono e0
     have hto := hto.mono e0
     have hav := hav.mono e0
     have hle := hle.trans e0
     rw [hki] at hk1; rw [hki]
     have hnm := hnm.mono e0
     refine On rfl (Om rfl (Aa (Ai ?_))); refine Dd ?_; refine Se rfl (Oc rfl rfl rfl (Aa (Ab ?_))); refine Bn rfl (by first | rfl | decide | (simp; done) | omega) ?_; refine Af (Ab (Ai (Se rfl ?_)))
     first | refine Bi rfl rfl _ rfl .free rfl ?_ | refine Bj rfl rfl _ rfl .free rfl ?_
     refine Dl rfl .free rfl ?_; refine Oa rfl (Aa (Se rfl (Om rfl (Om rfl (Oa rfl (Oa rfl (Aa (Ab (Se rfl ?_))))))))); refine Aw rfl .free rfl ?_; refine Om rfl ?_; refine Ca rfl (Bb hf.rep hok0 _ _) ?_; rintro _ J1 _ e1 ⟨o1, k1, rfl, hs1, rfl⟩
     have hf := hf.mono e1
     have hfr := hfr.mono e1
     have hto := hto.mono e1
     have hav := hav.mono e1
     have hle := hle.trans e1
     have hk1 := hk1.mono e1
     have hnm := hnm.mono e1
     refine Oa rfl (Aa (Se rfl (Om rfl (On rfl (Oc rfl rfl rfl (Aa ?_))))))
     first | refine Ji rfl (by simp [Ex.binds]) ?_ | refine Jh rfl (by simp [Ex.binds]) ?_ | refine Cm (by simp [Bu, Bo, *]) ?_
     refine Ah rfl (Om rfl (Om rfl ?_)); refine Ol rfl rfl ?_; intro b87; refine Fo ?_; intro ez
     have hf := hf.mono ez
     have hfr := hfr.mono ez
     have hto := hto.mono ez
     have hav := hav.mono ez
     have hle := hle.trans ez
     have hk1 := hk1.mono ez
     have hnm := hnm.mono ez
     refine Ca rfl (A1 (Ax (xs := [.slice of f.length cf, .slice o1 (List.length _) k1]) (ys := [])) hfr (hs1.mono ez) (Ex.binds_room0 (by omega)) _) ?_; rintro _ J3 _ e3 ⟨o3, k3, rfl, hs3, rfl⟩
     have hf := hf.mono e3
     have hfr := hfr.mono e3
     have hto := hto.mono e3
     have hav := hav.mono e3
     have hle := hle.trans e3
     have hk1 := hk1.mono e3
     have hnm := hnm.mono e3
     refine Om rfl (Om rfl ?_); refine Ol rfl rfl ?_; intro b91; refine Fo ?_; intro ey
     have hf := hf.mono ey
     have hfr := hfr.mono ey
     have hto := hto.mono ey
     have hav := hav.mono ey
     have hle := hle.trans ey
     have hk1 := hk1.mono ey
     have hnm := hnm.mono ey
     have hs3 := hs3.mono ey
     refine Ca rfl (A1 (m := [n1, n2]) (Ax (xs := [.slice ot t.length ct, .slice (some ⟨_, 0, none⟩) (List.length _) _]) (ys := [])) hto hnm (show t.length + 2 ≤ Ap by unfold Ap; omega) _) ?_; rintro _ J4 _ e4 ⟨o4, k4, rfl, hs4, rfl⟩
     have hf := hf.mono e4
     have hfr := hfr.mono e4
     have hto := hto.mono e4
     have hav := hav.mono e4
     have hle := hle.trans e4
     have hk1 := hk1.mono e4
     have hnm := hnm.mono e4
     have hs3 := hs3.mono e4
     refine Oa rfl (Oa rfl (Aa ?_)); refine C0 fun hlr => ?_
     have hpl := b.pl_hits av (f ++ [h1, z]) (t ++ [n1, n2]) (fr 120 av (fr 120 av k + 1) + 1)
     refine Ge 14 rfl rfl ?_; refine Da 0 rfl (Ae rfl) ?_; refine Dt 1 [13] rfl (A7 rfl) ?_; refine Da 2 rfl (Ac rfl) ?_; refine Da 3 rfl (Ac rfl) ?_; refine Da 4 rfl (Ae rfl) ?_; refine Dt 5 [13] rfl (A7 rfl) ?_; refine Da 6 rfl (Ac rfl) ?_
     first | refine Da 7 rfl (A4 rfl rfl _ rfl) ?_ | refine Da 7 rfl (A5 rfl rfl _ rfl) ?_
     refine Dt 8 [13] rfl (Bz rfl) ?_; refine Da 9 rfl (Ac rfl) ?_; refine Da 10 rfl (Ac rfl) ?_; refine Dc 11 rfl rfl (ihn (f := f ++ [h1, z]) (t := t ++ [n1, n2]) (by omega) (hf.as 5 b.tree (by omega) rfl) hok.2 hs3 hs4 (by simp [hft]) (hnf.add (by intro y hy; simp only [List.mem_cons, List.not_mem_nil, or_false] at hy; rcases hy with rfl | rfl; exact hok.1.1.1.1.1; exact hok.1.1.1.1.2)) (by first | omega | (simp only [List.length_append, List.length_cons, List.length_nil]; omega)) hav bp _ _ (by omega) (by omega) _) ?_; rintro _ J2 _ e2 ⟨cs2, rfl, hr_0, rfl⟩
     obtain ⟨o2, k2, _, rfl, -⟩ := hr_0.open
     have hlr := hlr.trans e2
     have hf := hf.mono e2
     have hfr := hfr.mono e2
     have hto := hto.mono e2
     have hav := hav.mono e2
     have hle := hle.trans e2
     have hk1 := hk1.mono e2
     have hnm := hnm.mono e2
     refine Hx ?_
     first | refine Da 12 rfl (A4 rfl rfl _ rfl) ?_ | refine Da 12 rfl (A5 rfl rfl _ rfl) ?_
     refine Dx 13 rfl rfl rfl rfl ?_; refine Au (by kernel_rfl) ?_; refine Ak (Ah rfl ?_); refine Or rfl rfl rfl ?_; refine Om rfl (Aa ?_); refine Bm ?_; refine Se rfl (Oc rfl rfl rfl (Aa (Ab ?_))); refine Co rfl (by first | rfl | decide | (simp; done) | omega) ?_; refine Bq rfl ?_; refine Se rfl ?_; refine Aw rfl .free rfl ?_; refine Bp rfl rfl rfl rfl .free ?_; refine Aa ?_; refine C4 (fun w h => h.f2) (Bx ?_); intro hz
     have hf := hf.mono hz
     refine Ag (.c rfl .nil) ?_; subst hn1e hn2e
     exact ⟨_, _, hle.trans hz, fun w h => Mem.sub (L' := pn bp ov av cv _ _ :: L) (by repeat (first | exact List.Sublist.refl _ | apply List.Sublist.cons_cons | apply List.Sublist.cons)) h, _, rfl, .mk' rfl (.cons (hf.as 0 (.node Cq []) (by omega) rfl) (.cons (.ofAtom hnl1) (.cons (.ofAtom hnl2) (.cons (hf.as 3 (s.tree) (by omega) rfl) (.cons (hf.as 4 (u.tree) (by omega) rfl) (.cons (hr_0.mono hz) (.nil))))))) (fun y hy => by cases hy; exact Ax (xs := [_, _, _, _, _, _, _, _, _, _, _, _])) (by simp) hcc (by simp [Ap]) (by simp [Ap]), by rw [show g + (2 + b.nb) = g + 1 + 1 + b.nb by omega]; rfl⟩
    ·skip
     refine M4 11 rfl rfl rfl .free rfl (I0 n2 hnl2 _ _) ?_; rintro _ _ _ _ ⟨rfl, rfl, rfl⟩; refine Hx ?_
     first | refine Da 12 rfl (A4 rfl rfl 1 rfl) ?_ | refine Da 12 rfl (A5 rfl rfl 1 rfl) ?_
     refine E7 3 13 (by kernel_rfl) ?_ ?_
     ·skip
      refine Nx 3 rfl rfl (A7 rfl) .free rfl (.inr Al) ?_; refine Dx 13 rfl rfl rfl rfl ?_
      first | refine Db 14 rfl (A4 rfl rfl 2 rfl) ?_ | refine Db 14 rfl (A5 rfl rfl 2 rfl) ?_
      refine Dx 15 rfl rfl rfl rfl ?_; refine Au (by kernel_rfl) ?_; refine Ak (Ab (Se rfl ?_)); refine Aw rfl .free rfl ?_; refine Ca rfl (B9 hf.rep _) ?_; rintro _ J _ e0 ⟨ok, ck, rfl, hk1, rfl⟩
      have hf := hf.mono e0
      have hfr := hfr.mono e0
      have hto := hto.mono e0
      have hav := hav.mono e0
      have hle := hle.trans e0
      rw [hki] at hk1; rw [hki]
      have hnm := hnm.mono e0
      refine On rfl (Om rfl (Aa (Ai ?_))); refine Dd ?_; refine Se rfl (Oc rfl rfl rfl (Aa (Ab ?_))); refine Bn rfl (by first | rfl | decide | (simp; done) | omega) ?_; refine Af (Ab (Ai (Se rfl ?_)))
      first | refine Bi rfl rfl _ rfl .free rfl ?_ | refine Bj rfl rfl _ rfl .free rfl ?_
      refine Dl rfl .free rfl ?_; refine Oa rfl (Aa (Se rfl (Om rfl (Om rfl (Oa rfl (Oa rfl (Aa (Ab (Se rfl ?_))))))))); refine Aw rfl .free rfl ?_; refine Om rfl ?_; refine Ca rfl (Bb hf.rep hok0 _ _) ?_; rintro _ J1 _ e1 ⟨o1, k1, rfl, hs1, rfl⟩
      have hf := hf.mono e1
      have hfr := hfr.mono e1
      have hto := hto.mono e1
      have hav := hav.mono e1
      have hle := hle.trans e1
      have hk1 := hk1.mono e1
      have hnm := hnm.mono e1
      refine Oa rfl (Aa (Se rfl (Om rfl (On rfl (Oc rfl rfl rfl (Aa ?_))))))
      first | refine Ji rfl (by simp [Ex.binds]) ?_ | refine Jh rfl (by simp [Ex.binds]) ?_ | refine Cm (by simp [Bu, Bo, *]) ?_
      refine Ah rfl (Om rfl (Om rfl ?_)); refine Ol rfl rfl ?_; intro b87; refine Fo ?_; intro ez
      have hf := hf.mono ez
      have hfr := hfr.mono ez
      have hto := hto.mono ez
      have hav := hav.mono ez
      have hle := hle.trans ez
      have hk1 := hk1.mono ez
      have hnm := hnm.mono ez
      refine Ca rfl (A1 (Ax (xs := [.slice of f.length cf, .slice o1 (List.length _) k1]) (ys := [])) hfr (hs1.mono ez) (Ex.binds_room0 (by omega)) _) ?_; rintro _ J3 _ e3 ⟨o3, k3, rfl, hs3, rfl⟩
      have hf := hf.mono e3
      have hfr := hfr.mono e3
      have hto := hto.mono e3
      have hav := hav.mono e3
      have hle := hle.trans e3
      have hk1 := hk1.mono e3
      have hnm := hnm.mono e3
      refine Om rfl (Om rfl ?_); refine Ol rfl rfl ?_; intro b91; refine Fo ?_; intro ey
      have hf := hf.mono ey
      have hfr := hfr.mono ey
      have hto := hto.mono ey
      have hav := hav.mono ey
      have hle := hle.trans ey
      have hk1 := hk1.mono ey
      have hnm := hnm.mono ey
      have hs3 := hs3.mono ey
      refine Ca rfl (A1 (m := [n1, n2]) (Ax (xs := [.slice ot t.length ct, .slice (some ⟨_, 0, none⟩) (List.length _) _]) (ys := [])) hto hnm (show t.length + 2 ≤ Ap by unfold Ap; omega) _) ?_; rintro _ J4 _ e4 ⟨o4, k4, rfl, hs4, rfl⟩
      have hf := hf.mono e4
      have hfr := hfr.mono e4
      have hto := hto.mono e4
      have hav := hav.mono e4
      have hle := hle.trans e4
      have hk1 := hk1.mono e4
      have hnm := hnm.mono e4
      have hs3 := hs3.mono e4
      refine Oa rfl (Oa rfl (Aa ?_)); refine C0 fun hlr => ?_
      have hpl := b.pl_hits av (f ++ [h1, z]) (t ++ [n1, n2]) (fr 120 av (fr 120 av k + 1) + 1)
      refine Ge 14 rfl rfl ?_; refine Da 0 rfl (Ae rfl) ?_; refine Dt 1 [13] rfl (A7 rfl) ?_; refine Da 2 rfl (Ac rfl) ?_; refine Da 3 rfl (Ac rfl) ?_; refine Da 4 rfl (Ae rfl) ?_; refine Dt 5 [13] rfl (A7 rfl) ?_; refine Da 6 rfl (Ac rfl) ?_
      first | refine Da 7 rfl (A4 rfl rfl _ rfl) ?_ | refine Da 7 rfl (A5 rfl rfl _ rfl) ?_
      refine Dt 8 [13] rfl (Bz rfl) ?_; refine Da 9 rfl (Ac rfl) ?_; refine Da 10 rfl (Ac rfl) ?_; refine Dc 11 rfl rfl (ihn (f := f ++ [h1, z]) (t := t ++ [n1, n2]) (by omega) (hf.as 5 b.tree (by omega) rfl) hok.2 hs3 hs4 (by simp [hft]) (hnf.add (by intro y hy; simp only [List.mem_cons, List.not_mem_nil, or_false] at hy; rcases hy with rfl | rfl; exact hok.1.1.1.1.1; exact hok.1.1.1.1.2)) (by first | omega | (simp only [List.length_append, List.length_cons, List.length_nil]; omega)) hav bp _ _ (by omega) (by omega) _) ?_; rintro _ J2 _ e2 ⟨cs2, rfl, hr_0, rfl⟩
      obtain ⟨o2, k2, _, rfl, -⟩ := hr_0.open
      have hlr := hlr.trans e2
      have hf := hf.mono e2
      have hfr := hfr.mono e2
      have hto := hto.mono e2
      have hav := hav.mono e2
      have hle := hle.trans e2
      have hk1 := hk1.mono e2
      have hnm := hnm.mono e2
      refine Hx ?_
      first | refine Da 12 rfl (A4 rfl rfl _ rfl) ?_ | refine Da 12 rfl (A5 rfl rfl _ rfl) ?_
      refine Dx 13 rfl rfl rfl rfl ?_; refine Au (by kernel_rfl) ?_; refine Ak (Ah rfl ?_); refine Or rfl rfl rfl ?_; refine Om rfl (Aa ?_); refine Bm ?_; refine Se rfl (Oc rfl rfl rfl (Aa (Ab ?_))); refine Co rfl (by first | rfl | decide | (simp; done) | omega) ?_; refine Bq rfl ?_; refine Se rfl ?_; refine Aw rfl .free rfl ?_; refine Bp rfl rfl rfl rfl .free ?_; refine Aa ?_; refine C4 (fun w h => h.f2) (Bx ?_); intro hz
      have hf := hf.mono hz
      refine Ag (.c rfl .nil) ?_; subst hn1e hn2e
      exact ⟨_, _, hle.trans hz, fun w h => Mem.sub (L' := pn bp ov av cv _ _ :: L) (by repeat (first | exact List.Sublist.refl _ | apply List.Sublist.cons_cons | apply List.Sublist.cons)) h, _, rfl, .mk' rfl (.cons (hf.as 0 (.node Cq []) (by omega) rfl) (.cons (.ofAtom hnl1) (.cons (.ofAtom hnl2) (.cons (hf.as 3 (s.tree) (by omega) rfl) (.cons (hf.as 4 (u.tree) (by omega) rfl) (.cons (hr_0.mono hz) (.nil))))))) (fun y hy => by cases hy; exact Ax (xs := [_, _, _, _, _, _, _, _, _, _, _, _])) (by simp) hcc (by simp [Ap]) (by simp [Ap]), by rw [show g + (2 + b.nb) = g + 1 + 1 + b.nb by omega]; rfl⟩
     ·skip
      refine Pp 13 rfl rfl rfl rfl rfl rfl .free (.inl (by kernel_rfl)) ?_; refine Pc 3 rfl (by kernel_rfl) rfl (A7 rfl) .free rfl (.inl (by kernel_rfl)) ?_
      first | refine Db 14 rfl (A4 rfl rfl 2 rfl) ?_ | refine Db 14 rfl (A5 rfl rfl 2 rfl) ?_
      refine Dx 15 rfl rfl rfl rfl ?_; refine Au (by kernel_rfl) ?_; refine Ak (Ab (Se rfl ?_)); refine Aw rfl .free rfl ?_; refine Ca rfl (B9 hf.rep _) ?_; rintro _ J _ e0 ⟨ok, ck, rfl, hk1, rfl⟩
      have hf := hf.mono e0
      have hfr := hfr.mono e0
      have hto := hto.mono e0
      have hav := hav.mono e0
      have hle := hle.trans e0
      rw [hki] at hk1; rw [hki]
      have hnm := hnm.mono e0
      refine On rfl (Om rfl (Aa (Ai ?_))); refine Dd ?_; refine Se rfl (Oc rfl rfl rfl (Aa (Ab ?_))); refine Bn rfl (by first | rfl | decide | (simp; done) | omega) ?_; refine Af (Ab (Ai (Se rfl ?_)))
      first | refine Bi rfl rfl _ rfl .free rfl ?_ | refine Bj rfl rfl _ rfl .free rfl ?_
      refine Dl rfl .free rfl ?_; refine Oa rfl (Aa (Se rfl (Om rfl (Om rfl (Oa rfl (Oa rfl (Aa (Ab (Se rfl ?_))))))))); refine Aw rfl .free rfl ?_; refine Om rfl ?_; refine Ca rfl (Bb hf.rep hok0 _ _) ?_; rintro _ J1 _ e1 ⟨o1, k1, rfl, hs1, rfl⟩
      have hf := hf.mono e1
      have hfr := hfr.mono e1
      have hto := hto.mono e1
      have hav := hav.mono e1
      have hle := hle.trans e1
      have hk1 := hk1.mono e1
      have hnm := hnm.mono e1
      refine Oa rfl (Aa (Se rfl (Om rfl (On rfl (Oc rfl rfl rfl (Aa ?_))))))
      first | refine Ji rfl (by simp [Ex.binds]) ?_ | refine Jh rfl (by simp [Ex.binds]) ?_ | refine Cm (by simp [Bu, Bo, *]) ?_
      refine Ah rfl (Om rfl (Om rfl ?_)); refine Ol rfl rfl ?_; intro b87; refine Fo ?_; intro ez
      have hf := hf.mono ez
      have hfr := hfr.mono ez
      have hto := hto.mono ez
      have hav := hav.mono ez
      have hle := hle.trans ez
      have hk1 := hk1.mono ez
      have hnm := hnm.mono ez
      refine Ca rfl (A1 (Ax (xs := [.slice of f.length cf, .slice o1 (List.length _) k1]) (ys := [])) hfr (hs1.mono ez) (Ex.binds_room0 (by omega)) _) ?_; rintro _ J3 _ e3 ⟨o3, k3, rfl, hs3, rfl⟩
      have hf := hf.mono e3
      have hfr := hfr.mono e3
      have hto := hto.mono e3
      have hav := hav.mono e3
      have hle := hle.trans e3
      have hk1 := hk1.mono e3
      have hnm := hnm.mono e3
      refine Om rfl (Om rfl ?_); refine Ol rfl rfl ?_; intro b91; refine Fo ?_; intro ey
      have hf := hf.mono ey
      have hfr := hfr.mono ey
      have hto := hto.mono ey
      have hav := hav.mono ey
      have hle := hle.trans ey
      have hk1 := hk1.mono ey
      have hnm := hnm.mono ey
      have hs3 := hs3.mono ey
      refine Ca rfl (A1 (m := [n1, n2]) (Ax (xs := [.slice ot t.length ct, .slice (some ⟨_, 0, none⟩) (List.length _) _]) (ys := [])) hto hnm (show t.length + 2 ≤ Ap by unfold Ap; omega) _) ?_; rintro _ J4 _ e4 ⟨o4, k4, rfl, hs4, rfl⟩
      have hf := hf.mono e4
      have hfr := hfr.mono e4
      have hto := hto.mono e4
      have hav := hav.mono e4
      have hle := hle.trans e4
      have hk1 := hk1.mono e4
      have hnm := hnm.mono e4
      have hs3 := hs3.mono e4
      refine Oa rfl (Oa rfl (Aa ?_)); refine C0 fun hlr => ?_
      have hpl := b.pl_hits av (f ++ [h1, z]) (t ++ [n1, n2]) (fr 120 av (fr 120 av k + 1) + 1)
      refine Ge 14 rfl rfl ?_; refine Da 0 rfl (Ae rfl) ?_; refine Dt 1 [13] rfl (A7 rfl) ?_; refine Da 2 rfl (Ac rfl) ?_; refine Da 3 rfl (Ac rfl) ?_; refine Da 4 rfl (Ae rfl) ?_; refine Dt 5 [13] rfl (A7 rfl) ?_; refine Da 6 rfl (Ac rfl) ?_
      first | refine Da 7 rfl (A4 rfl rfl _ rfl) ?_ | refine Da 7 rfl (A5 rfl rfl _ rfl) ?_
      refine Dt 8 [13] rfl (Bz rfl) ?_; refine Da 9 rfl (Ac rfl) ?_; refine Da 10 rfl (Ac rfl) ?_; refine Dc 11 rfl rfl (ihn (f := f ++ [h1, z]) (t := t ++ [n1, n2]) (by omega) (hf.as 5 b.tree (by omega) rfl) hok.2 hs3 hs4 (by simp [hft]) (hnf.add (by intro y hy; simp only [List.mem_cons, List.not_mem_nil, or_false] at hy; rcases hy with rfl | rfl; exact hok.1.1.1.1.1; exact hok.1.1.1.1.2)) (by first | omega | (simp only [List.length_append, List.length_cons, List.length_nil]; omega)) hav bp _ _ (by omega) (by omega) _) ?_; rintro _ J2 _ e2 ⟨cs2, rfl, hr_0, rfl⟩
      obtain ⟨o2, k2, _, rfl, -⟩ := hr_0.open
      have hlr := hlr.trans e2
      have hf := hf.mono e2
      have hfr := hfr.mono e2
      have hto := hto.mono e2
      have hav := hav.mono e2
      have hle := hle.trans e2
      have hk1 := hk1.mono e2
      have hnm := hnm.mono e2
      refine Hx ?_
      first | refine Da 12 rfl (A4 rfl rfl _ rfl) ?_ | refine Da 12 rfl (A5 rfl rfl _ rfl) ?_
      refine Dx 13 rfl rfl rfl rfl ?_; refine Au (by kernel_rfl) ?_; refine Ak (Ah rfl ?_); refine Or rfl rfl rfl ?_; refine Om rfl (Aa ?_); refine Bm ?_; refine Se rfl (Oc rfl rfl rfl (Aa (Ab ?_))); refine Co rfl (by first | rfl | decide | (simp; done) | omega) ?_; refine Bq rfl ?_; refine Se rfl ?_; refine Aw rfl .free rfl ?_; refine Bp rfl rfl rfl rfl .free ?_; refine Aa ?_; refine C4 (fun w h => h.f2) (Bx ?_); intro hz
      have hf := hf.mono hz
      refine Ag (.c rfl .nil) ?_; subst hn1e hn2e
      exact ⟨_, _, hle.trans hz, fun w h => Mem.sub (L' := pn bp ov av cv _ _ :: L) (by repeat (first | exact List.Sublist.refl _ | apply List.Sublist.cons_cons | apply List.Sublist.cons)) h, _, rfl, .mk' rfl (.cons (hf.as 0 (.node Cq []) (by omega) rfl) (.cons (.ofAtom hnl1) (.cons (.ofAtom hnl2) (.cons (hf.as 3 (s.tree) (by omega) rfl) (.cons (hf.as 4 (u.tree) (by omega) rfl) (.cons (hr_0.mono hz) (.nil))))))) (fun y hy => by cases hy; exact Ax (xs := [_, _, _, _, _, _, _, _, _, _, _, _])) (by simp) hcc (by simp [Ap]) (by simp [Ap]), by rw [show g + (2 + b.nb) = g + 1 + 1 + b.nb by omega]; rfl⟩
  ·skip
   have hlen : (Ex.un o a).tree.parts.length = 2 := rfl
   have hki := G5 o a
   have hhd : (Ex.un o a).tree.head = o.txt := rfl
   simp only [Ex.un.sizeOf_spec] at hlt
   simp only [Ex.ok, Bool.and_eq_true, decide_eq_true_eq] at hok
   simp only [Ex.nb] at hk hg ⊢
   simp only [Ex.size] at hfl
   obtain ⟨_, hrl⟩ : ∃ _ : True, RepL I (Ex.un o a).tree.parts _ := ⟨trivial, hcl⟩
   simp only [show (Ex.un o a).tree.parts = [.node o.txt [], a.tree] from rfl, Df, List.cons_append, List.nil_append] at hrl ⊢
   refine C4 (fun w h => h.f4) ?_; refine Ah rfl (Oa rfl (Aa (Ab (Se rfl ?_)))); refine Aw rfl .free rfl ?_; refine Ca rfl (Bk hf.rep _) ?_; rintro _ _ _ _ ⟨rfl, rfl, rfl⟩; refine Aa (Ai (Se rfl (Od rfl rfl rfl (Oa rfl (Aa ?_)))))
   first | refine Eu rfl (by rw [hhd]; cases o <;> decide) ?_ | refine Et rfl (by rw [hhd]; cases o <;> decide) ?_ | refine A8 (by simp [Bu, Bo, *]) ?_
   refine Se rfl (Od rfl rfl rfl (Oa rfl (Aa ?_)))
   first | refine Eu rfl (by rw [hhd]; cases o <;> decide) ?_ | refine Et rfl (by rw [hhd]; cases o <;> decide) ?_ | refine A8 (by simp [Bu, Bo, *]) ?_
   refine Af (Ak (Ab (Se rfl ?_))); refine Aw rfl .free rfl ?_; refine Ca rfl (B9 hf.rep _) ?_; rintro _ J _ e0 ⟨ok, ck, rfl, hk1, rfl⟩
   have hf := hf.mono e0
   have hfr := hfr.mono e0
   have hto := hto.mono e0
   have hav := hav.mono e0
   have hle := hle.trans e0
   rw [hki] at hk1; rw [hki]; refine On rfl (Om rfl (Aa (Ai ?_))); refine Dd ?_; refine Se rfl (Oc rfl rfl rfl (Aa (Ab ?_))); refine Bn rfl (by first | rfl | decide | (simp; done) | omega) ?_; refine Af (Ab (Ai (Se rfl ?_)))
   first | refine Bi rfl rfl _ rfl .free rfl ?_ | refine Bj rfl rfl _ rfl .free rfl ?_
   refine Dl rfl .free rfl ?_; refine Oa rfl (Aa (Se rfl (Om rfl (Om rfl (Oa rfl (Oa rfl (Aa (Ab (Se rfl ?_))))))))); refine Aw rfl .free rfl ?_; refine Om rfl ?_; refine Ca rfl (Bb hf.rep hok0 _ _) ?_; rintro _ J1 _ e1 ⟨o1, k1, rfl, hs1, rfl⟩
   have hf := hf.mono e1
   have hfr := hfr.mono e1
   have hto := hto.mono e1
   have hav := hav.mono e1
   have hle := hle.trans e1
   have hk1 := hk1.mono e1
   refine Oa rfl (Aa (Se rfl (Om rfl (On rfl (Oc rfl rfl rfl (Aa ?_))))))
   first | refine Eu rfl (by simp [Ex.binds]) ?_ | refine Et rfl (by simp [Ex.binds]) ?_ | refine A8 (by simp [Bu, Bo, *]) ?_
   refine Af ?_; refine C0 fun hlr => ?_
   have hpl := a.pl_hits av (f) (t) k
   refine Ge 14 rfl rfl ?_; refine Da 0 rfl (Ae rfl) ?_; refine Dt 1 [13] rfl (A7 rfl) ?_; refine Da 2 rfl (Ac rfl) ?_; refine Da 3 rfl (Ac rfl) ?_; refine Da 4 rfl (Ae rfl) ?_; refine Dt 5 [13] rfl (A7 rfl) ?_; refine Da 6 rfl (Ac rfl) ?_
   first | refine Da 7 rfl (A4 rfl rfl _ rfl) ?_ | refine Da 7 rfl (A5 rfl rfl _ rfl) ?_
   refine Dt 8 [13] rfl (Bz rfl) ?_; refine Da 9 rfl (Ac rfl) ?_; refine Da 10 rfl (Ac rfl) ?_; refine Dc 11 rfl rfl (ihn (f := f) (t := t) (by omega) (hf.as 1 a.tree (by omega) rfl) hok hfr hto (by simp [hft]) hnf (by first | omega | (simp only [List.length_append, List.length_cons, List.length_nil]; omega)) hav bp _ _ (by omega) (by omega) _) ?_; rintro _ J2 _ e2 ⟨cs2, rfl, hr_0, rfl⟩; obtain ⟨o2, k2, _, rfl, -⟩ := hr_0.open
   have hlr := hlr.trans e2
   have hf := hf.mono e2
   have hfr := hfr.mono e2
   have hto := hto.mono e2
   have hav := hav.mono e2
   have hle := hle.trans e2
   have hk1 := hk1.mono e2
   refine Hx ?_
   first | refine Da 12 rfl (A4 rfl rfl _ rfl) ?_ | refine Da 12 rfl (A5 rfl rfl _ rfl) ?_
   refine Dx 13 rfl rfl rfl rfl ?_; refine Au (by kernel_rfl) ?_; refine Ak (Ah rfl ?_); refine Or rfl rfl rfl ?_; refine Om rfl (Aa ?_); refine Bm ?_; refine Se rfl (Oc rfl rfl rfl (Aa (Ab ?_))); refine Co rfl (by first | rfl | decide | (simp; done) | omega) ?_; refine Bq rfl ?_; refine Se rfl ?_; refine Aw rfl .free rfl ?_; refine Bp rfl rfl rfl rfl .free ?_; refine Aa ?_; refine C4 (fun w h => h.f2) (Bx ?_); intro hz
   have hf := hf.mono hz
   refine Ag (.c rfl .nil) ?_
   exact ⟨_, _, hle.trans hz, fun w h => Mem.sub (L' := pn bp ov av cv _ _ :: L) (by repeat (first | exact List.Sublist.refl _ | apply List.Sublist.cons_cons | apply List.Sublist.cons)) h, _, rfl, .mk' rfl (.cons (hf.as 0 (.node o.txt []) (by omega) rfl) (.cons (hr_0.mono hz) (.nil))) (fun y hy => by cases hy; exact Ax (xs := [_, _, _, _])) (by simp) hcc (by simp [Ap]) (by simp [Ap]), by first | rfl | (simp only [Nat.add_assoc]; rfl)⟩
theorem R9 {I : Heap} {e : Ex} {cs : List Value} (h : Rep I e.tree cs) (hfine : e.fine = true) (L : Bc) : Fun Tryz.prog 33 [.agg cs.toArray] I L (fun v I' L' => ∃ ds, v = .tuple #[.agg (List.toArray ds), .bool true] ∧ Rep I' e.plain.tree ds ∧ L = L') := by
 obtain ⟨oa, c, oaf, cf, rfl, hf⟩ := h.at'
 have hpf := Fx hfine
 have hf2 := hfine
 simp only [Ex.fine, Bool.and_eq_true, decide_eq_true_eq, Tree.fits] at hf2
 have hf3 := hpf
 simp only [Ex.fine, Bool.and_eq_true, decide_eq_true_eq, Tree.fits] at hf3
 have hroom := Lt hf2.1.2
 refine Aj (by simp) ?_; refine Se rfl ?_; refine Cc rfl rfl .free rfl ?_; intro b1; refine At .free rfl ?_; intro b2; refine Oa rfl (Aa (Se rfl ?_)); refine Aw rfl .free rfl ?_; refine Ca rfl (My hf.rep hf2.1.1 (by omega) _) ?_; rintro _ J1 _ e1 ⟨ov, cv, rfl, hav, rfl⟩
 have hf := hf.mono e1
 refine Cf rfl rfl rfl .free rfl ?_; refine Cc rfl rfl .free rfl ?_; intro b9; refine Oa rfl (Aa (Se rfl (Om rfl ?_))); refine Aw rfl .free rfl ?_; refine Cz (L' := pn b9 ov e.free cv 0 0 :: _) (fun w h => h) ?_; refine Ca rfl (Pg _ (Nat.lt_succ_self _) hf.rep hf2.1.1 (Jj _) (Jj _) rfl (fun s hs => by cases hs) (by simp; omega) hav b9 0 0 (by omega) (by omega) _) ?_; rintro _ J2 _ e2 ⟨ds, rfl, hr, rfl⟩
 have hr : Rep J2 e.plain.tree ds := hr
 obtain ⟨od, cd, _, rfl, -⟩ := hr.open
 have hle := e1.trans e2
 unfold pn
 refine At .free rfl ?_; intro b5; refine Bp rfl rfl rfl rfl .free ?_; refine Aa (Ab ?_); refine Do 12 rfl rfl ?_; refine Dt 0 [10] rfl (Cd rfl) ?_; refine Da 1 rfl (Ac rfl) ?_; refine Da 2 rfl (Ch rfl) ?_
 first | refine Da 3 rfl (Ae rfl) ?_ | refine Da 3 rfl (Ba rfl) ?_
 refine Dt 4 [5, 6, 8, 10] rfl (Nn rfl) ?_; refine Da 5 rfl (Iu rfl rfl rfl) ?_; refine Da 6 rfl (Ac rfl) ?_
 apply Pa 19 22 rfl
 ·intro g3_7 hk
  try simp only [nb] at g3_7
  refine El 7 [8, 10] rfl (by kernel_rfl) rfl Al (Cd rfl) (.met rfl rfl) rfl ?_; refine Hq 8 rfl (by kernel_rfl) rfl rfl (.met rfl rfl) rfl (X9 hr hf3.1.1 (by omega) _) ?_; rintro _ _ _ _ ⟨rfl, rfl, rfl⟩; refine Hx ?_; refine Da 9 rfl (D3 rfl rfl) ?_
  exact F6 2 rfl rfl hk
 ·intro _ hk; refine Ds 7 rfl rfl rfl ?_; refine Ds 8 rfl rfl rfl ?_; refine Da 9 rfl (C9 rfl rfl) ?_
  exact F6 2 rfl rfl hk
 refine Dx 10 rfl rfl rfl rfl ?_; refine Db 11 rfl (Bh rfl) ?_; refine Au (by kernel_rfl) ?_; refine Ag (.c rfl (.tmp rfl .nil)) ?_; refine ⟨J2, L, hle, Bt, _, ?_, hr, rfl⟩; rw [hpf]; simp [By]; omega
theorem Pr {l r : List Am} {y : Am} : ∀ {n : Nat}, n ≤ l.length → E8 (l ++ r) y n = E8 l y n
 | 0, _ => rfl
 | n + 1, h => by
  simp only [E8]
  rw [show (l ++ r).getD n [] = l.getD n [] by simp [List.getElem?_append_left (show n < l.length by omega)], Pr (by omega)]
theorem Ko (l : List Am) (x y : Am) : Br (l ++ [x]) y = if x = y then some l.length else Br l y := by
 unfold Br
 rw [show (l ++ [x]).length = l.length + 1 by simp]
 simp only [E8]
 rw [show (l ++ [x]).getD l.length [] = x by simp, Pr (Nat.le_refl _)]
end Go.Proofs.YtbohngcdgmjfaaaGreatDoor

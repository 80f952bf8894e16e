/- WireUnlike: of two rows of the same kinds that are unlike the bytes are unlike. -/
import Derived.Test.YtdniiegnaabagaaDoorV8
set_option linter.unusedSimpArgs false
set_option linter.unusedVariables false
namespace Go.Proofs.YtdniiegnaabagaaDoor
open Go Go.RowKit

/-! ### the plain law -/
structure GoodP (p : ItmD × ItmD) : Prop where
  x : ItmI p.1
  y : ItmI p.2
  kind : p.2.kind = p.1.kind
  xn : 0 ≤ p.1.n
  yn : 0 ≤ p.2.n
  xs : p.1.s.size ≤ 100
  ys : p.2.s.size ≤ 100
def sameB (p : ItmD × ItmD) : Bool := if kindI p.1 = 0 then p.1.n == p.2.n else if kindI p.1 = 1 then p.1.s.toList == p.2.s.toList else p.1.b == p.2.b
theorem GoodP.okx {p : ItmD × ItmD} (h : GoodP p) : okI p.1 = true := by unfold okI; simp [h.xn, h.xs]
theorem GoodP.oky {p : ItmD × ItmD} (h : GoodP p) : okI p.2 = true := by unfold okI; simp [h.yn, h.ys]
theorem rowI_all {l : List ItmD} (h : ∀ x, x ∈ l → okI x = true) (hl : l.length ≤ 40) : rowI l = l := by
  unfold rowI
  rw [List.take_of_length_le hl, List.filter_eq_self]
  exact h
theorem enc_split {p : ItmD × ItmD} (h : GoodP p) {t u : List Int} (he : encI p.1 ++ t = encI p.2 ++ u) : sameB p = true ∧ t = u := by
  obtain ⟨x, y⟩ := p
  have hk : kindI y = kindI x := by unfold kindI; rw [h.kind]
  have hx := h.x.n
  have hy := h.y.n
  have h1 := h.xn
  have h2 := h.yn
  have h3 := h.xs
  have h4 := h.ys
  unfold InI at hx hy
  unfold encI at he
  unfold sameB
  dsimp only at *
  rw [hk] at he
  have key : ∀ {n m : Nat} {t u : List Int}, n < 9223372036854775808 → m < 9223372036854775808 → form n ++ t = form m ++ u → n = m ∧ t = u := fun {n m t u} hn hm he => by
    have e1 := rd0_form (most := 9223372036854775807) t hn (by omega)
    have e2 := rd0_form (most := 9223372036854775807) u hm (by omega)
    rw [he, e2] at e1
    have : n = m := by cases e1; rfl
    subst this
    exact ⟨rfl, List.append_cancel_left he⟩
  by_cases h0 : kindI x = 0
  · rw [if_pos h0, if_pos h0] at he
    rw [if_pos h0]
    obtain ⟨e1, e2⟩ := key (by omega) (by omega) he
    refine ⟨?_, e2⟩
    simp only [beq_iff_eq]
    omega
  · rw [if_neg h0, if_neg h0] at he
    rw [if_neg h0]
    by_cases h1 : kindI x = 1
    · rw [if_pos h1, if_pos h1, List.append_assoc, List.append_assoc] at he
      rw [if_pos h1]
      obtain ⟨e1, e2⟩ := key (by omega) (by omega) he
      have h5 := List.append_inj e2 (by rw [ofb_len, ofb_len]; exact e1)
      refine ⟨?_, h5.2⟩
      have : x.s = y.s := by rw [← bts_ofb x.s, h5.1, bts_ofb]
      rw [this]
      simp
    · rw [if_neg h1, if_neg h1, List.singleton_append, List.singleton_append, List.cons.injEq] at he
      rw [if_neg h1]
      exact ⟨by rw [he.1]; simp, he.2⟩
theorem enc_same {p : ItmD × ItmD} (h : GoodP p) (hs : sameB p = true) : encI p.1 = encI p.2 := by
  obtain ⟨x, y⟩ := p
  have hk : kindI y = kindI x := by unfold kindI; rw [h.kind]
  unfold sameB at hs
  unfold encI
  dsimp only at *
  rw [hk]
  split
  · rename_i h0
    rw [if_pos h0] at hs
    simp only [beq_iff_eq] at hs
    rw [hs]
  · rename_i h0
    rw [if_neg h0] at hs
    split
    · rename_i h1
      rw [if_pos h1] at hs
      simp only [beq_iff_eq] at hs
      rw [ba_iff.1 hs]
    · rename_i h1
      rw [if_neg h1] at hs
      simp only [beq_iff_eq] at hs
      rw [hs]
theorem enc_unlike : ∀ {ps : List (ItmD × ItmD)}, (∀ p, p ∈ ps → GoodP p) → (encL (ps.map (·.1)) = encL (ps.map (·.2)) ↔ ps.all sameB = true)
  | [], _ => by simp [encL]
  | p :: ps, h => by
    have hp := h p (List.mem_cons_self ..)
    have ih := enc_unlike (ps := ps) fun q hq => h q (List.mem_cons_of_mem _ hq)
    have e1 : encL ((p :: ps).map (·.1)) = encI p.1 ++ encL (ps.map (·.1)) := by unfold encL; rw [zk, List.flatMap_cons]
    have e2 : encL ((p :: ps).map (·.2)) = encI p.2 ++ encL (ps.map (·.2)) := by unfold encL; rw [zk, List.flatMap_cons]
    rw [e1, e2, List.all_cons, Bool.and_eq_true, ← ih]
    refine ⟨fun he => enc_split hp he, fun ⟨h1, h2⟩ => by rw [enc_same hp h1, h2]⟩
theorem encL_in {l : List ItmD} (h : ∀ x, x ∈ l → ItmI x) : ∀ b, b ∈ encL l → InB b := fun b hb => by
  unfold encL at hb
  obtain ⟨x, hx, hb⟩ := List.mem_flatMap.1 hb
  unfold encI at hb
  split at hb
  · exact form_in _ b hb
  · split at hb
    · rcases List.mem_append.1 hb with hb | hb
      · exact form_in _ b hb
      · exact ofb_in _ b hb
    · rw [List.mem_singleton] at hb
      subst hb
      exact (h x hx).b
theorem unlike_fin {ps : List (ItmD × ItmD)} (h : ∀ p, p ∈ ps → GoodP p) : (ps.all sameB == ((bts (encL (ps.map (·.1)))).toList == (bts (encL (ps.map (·.2)))).toList)) = true := by
  have h1 : ∀ x, x ∈ ps.map (·.1) → ItmI x := fun x hx => by obtain ⟨p, hp, rfl⟩ := List.mem_map.1 hx; exact (h p hp).x
  have h2 : ∀ x, x ∈ ps.map (·.2) → ItmI x := fun x hx => by obtain ⟨p, hp, rfl⟩ := List.mem_map.1 hx; exact (h p hp).y
  rw [beq_iff_eq, Bool.eq_iff_iff, ← enc_unlike h, beq_iff_eq, ba_iff]
  exact ⟨fun e => by rw [e], fun e => bts_inj (encL_in h1) (encL_in h2) e⟩
/-! ### the walk -/
theorem rowA_s (c0 : World) (F : HP) (a : Nat → Addr) (v : Value) (l : List ItmD) : Spec Tryd.prog c0 9 #[v] (pu (ErrB F a ∧ SlR F 4 itm v l ∧ (∀ x, x ∈ l → ItmI x ∧ okI x = true) ∧ l.length ≤ 40) F)
    (fun r => ex fun vm : Value => ex fun gb : Nat => pu (r = .tuple #[vm, .slice (some ⟨gb, 0, none⟩) (encL l).length (encL l).length]) (row 24 4 itm vm l * (row 5 1 bytv (.slice (some ⟨gb, 0, none⟩) (encL l).length (encL l).length) (encL l) * F))) := fun w hs => by
  obtain ⟨⟨h1, h2, h3, h4⟩, hs⟩ := hs.pu
  have := row_s c0 F a v l w (hs.mono (ent_pu ⟨h1, h2, fun x hx => (h3 x hx).1⟩ ent_refl))
  rw [rowI_all (fun x hx => (h3 x hx).2) h4] at this
  exact this
theorem take_all {α : Type} {f : α → Bool} {l : List α} {k : Nat} {x : α} (h : l[k]? = some x) : (l.take (k + 1)).all f = ((l.take k).all f && f x) := by
  rw [List.take_add_one, h, List.all_append]
  simp
set_option maxRecDepth 20000 in
set_option maxHeartbeats 4000000 in
theorem unlike_s (c0 : World) (F : HP) (ad : Nat → Addr) (va vb : Value) (a b : List ItmD) : Spec Tryd.prog c0 3 #[va, vb] (pu (ErrB F ad ∧ SlR F 4 itm va a ∧ SlR F 4 itm vb b ∧ (∀ x, x ∈ a → ItmI x) ∧ ∀ x, x ∈ b → ItmI x) F) (fun r => pu (r = .bool true) F) := by
  intro w hq; obtain ⟨⟨hE, hsl, hsm, hIa, hIb⟩, hs⟩ := hq.pu; clear hq
  obtain ⟨A, c, rfl⟩ := slr_form hsl hs.own
  obtain ⟨B, d, rfl⟩ := slr_form hsm hs.own
  obtain ⟨_, hn1, hn2, _⟩ := slr_len hsl hs.own
  obtain ⟨_, hm1, hm2, _⟩ := slr_len hsm hs.own
  unfold maxLen at hn2 hm2
  generalize hn : a.length = n at *
  generalize hm : b.length = m at *
  replace hn := Lib.hid hn
  replace hm := Lib.hid hm
  go_enter Tryd.func3, Tryd.ntmps3
  go_wp2_with fail
  go_loopw [5, 6, 7] (fun u v i wr => ∃ (k : Nat) (ps : List (ItmD × ItmD)), k ≤ n ∧ k ≤ m ∧ k ≤ 30 ∧ ps.length ≤ k ∧ i = .int .i64 k ∧ Hid (∀ p, p ∈ ps → GoodP p) ∧ Sat c0 (row 24 4 itm u (ps.map (·.1)) * (row 24 4 itm v (ps.map (·.2)) * F)) wr) (fun _ _ i _ => n - (intOf i).toNat)
  case atStart => exact ⟨0, [], by omega, by omega, by omega, by simp, rfl, fun p hp => (by cases hp), hs.mono (show Ent F (row 24 4 itm (.slice none 0 0) [] * (row 24 4 itm (.slice none 0 0) [] * F)) from ent_trans ent_row_nil (star_mono ent_refl ent_row_nil))⟩
  case round =>
    clear hs
    obtain ⟨k, ps, hkn, hkm, hk30, hps, rfl, hgood, hs⟩ := hrel
    obtain ⟨X, cx, rfl, hx1, hx2⟩ := row_slice hs.own
    obtain ⟨Y, cy, rfl, hy1, hy2⟩ := row_slice (hs.own.mono ent_drop)
    simp only [List.length_map] at hs ⊢
    by_cases hlt : k < n ∧ k < m ∧ k < 30
    · obtain ⟨hlt, hltm, hlt30⟩ := hlt
      have hF := hs.own.mono (ent_trans ent_drop ent_drop)
      obtain ⟨ga, oa, x, rfl, hlx, helx⟩ := slr_get hsl hF hlt
      obtain ⟨gb, ob, y, rfl, hly, hely⟩ := slr_get hsm hF hltm
      clear hF
      have hxI := hIa x (List.mem_of_getElem? hlx)
      have hyI := hIb y (List.mem_of_getElem? hly)
      by_cases hbad : 0 ≤ x.n ∧ 0 ≤ y.n ∧ x.s.size ≤ 100 ∧ y.s.size ≤ 100
      · obtain ⟨hb1, hb2, hb3, hb4⟩ := hbad
        have hgp : GoodP (x, { y with kind := x.kind }) := ⟨hxI, ⟨hxI.kind, hyI.n, hyI.s, hyI.b⟩, rfl, hb1, hb2, hb3, hb4⟩
        replace hgp := Lib.hid hgp
        clear hlx hly hxI hyI hIa hIb
        go_wp2_with (first
        | ((with_reducible apply wp_region_al (G := emp) (id := 5) hs 11 [[0, 1, 2, 3, 4, 5, 6, 7, 8, 9, 10], [0, 1, 2, 3, 4, 5, 6, 7, 9, 8, 10]]); (focus (exact ent_emp_l)); (focus kernel_rfl); (focus decide +kernel); clear hs; (try clear w); intro hR w hRR hs; (try simp only [star_assoc] at hs); simp only [zk, zl, opsAlong, List.filterMap_cons, List.filterMap_nil, zd, ze, List.drop_succ_cons, List.drop_zero, List.cons_append, List.nil_append, allAlong])
        | ((with_reducible rewrite [pl_strike_eq]); rotate_left 1; (focus rfl))
        | ((with_reducible apply pl_guard_f); (focus rfl); (focus rfl); all_goals (intro hb; first | (cases hb; done) | ((try simp at hb); first | contradiction | ((have hF : False := (by omega)); (cases hF; done)) | (simp only [Act.put, zg, zh, zi]))))
        | ((with_reducible apply pl_loadN hs); (focus (simp only [Act.eval, za, zb, zc, zd, ze, zf]; (try with_reducible rfl); done)); (with_reducible (first | exact agg_24)); (focus ((repeat (first | (with_reducible (first | assumption | exact hel _ | exact hel2 _ | exact hel3 _)) | ((with_reducible apply reads_whole); (focus (first | (with_reducible rfl) | (simp only [go_sem]; done) | (simp; done)))) | ((with_reducible apply reads_part); (focus (first | (simp [go_sem]; done) | (simp only [go_sem]; omega) | go_size)); (focus (first | (simp only [Nat.reduceAdd, Nat.zero_add, go_sem]; (try with_reducible rfl); done) | (simp [go_sem]; (try with_reducible rfl); done)))) | (with_reducible (first | (apply reads_left; assumption) | refine reads_exh (by assumption) ?_ | refine reads_exh0 (by assumption) ?_ | apply reads_next)))); done)); (focus rfl); simp only [Act.put, zg, zh, zi])
        | ((with_reducible apply pl_load1 hs); (focus (simp only [Act.eval, za, zb, zc, zd, ze, zf]; (try with_reducible rfl); done)); (focus (simp only [go_sem])); (focus ((repeat (first | (with_reducible (first | assumption | exact hec _ | exact hec2 _ | exact hec3 _ | exact hec4 _ _)) | ((with_reducible apply readc_here); (focus (first | (simp only [zc, zd, ze, go_sem]; (try with_reducible rfl); done) | (go_simp; (try with_reducible rfl); done)))) | (with_reducible (first | (apply readc_left; assumption) | refine readc_exh (by assumption) ?_ | refine readc_exh0 (by assumption) ?_ | apply readc_next)))); done)); (focus rfl); simp only [Act.put, zg, zh, zi])
        | ((with_reducible apply pl_bs1 hs); (with_reducible (first | exact bst_22)); (focus (simp only [Act.eval, za, zb, zc, zd, ze, zf]; (try with_reducible rfl); done)); (focus (first | (with_reducible (first | exact cells_intv _ | exact cells_bytv _ | exact cells_agg _ | exact cells_int _ _ | exact cells_bool _ | exact cells_string _ | exact cells_slice _ _ _ | exact cells_pointer _ | exact cells_map _ | exact cells_iface _ _ | exact cells_nilIface | exact cells_func _ _ _)) | (exact cells_one (by assumption)))); (focus (first | (with_reducible rfl) | (simp only [go_sem]; done) | (simp; done))); clear hs; (try clear w); intro g w hs; skip; simp only [Act.put, zg, zh, zi])
        | ((with_reducible apply pl_store1 hs); (focus (simp only [Act.eval, za, zb, zc, zd, ze, zf]; (try with_reducible rfl); done)); (focus (simp only [Act.eval, za, zb, zc, zd, ze, zf]; (try with_reducible rfl); done)); (focus (simp only [go_sem])); (focus with_reducible (repeat (first | exact ent_here | apply ent_next | exact ent_last)); done); (focus (first | (simp [go_sem]; done) | (simp only [go_sem]; omega) | go_size)); (focus (first | (simp only [go_sem]; done) | (simp [go_sem]; done))); clear hs; (try clear w); intro w hs; (try simp only [zg, zh, zi, itm_s0, itm_s1, itm_s2, itm_s3, cal_s0, cal_s1, cal_s2, lnk_s0, lnk_s1, lnk_s2, nov_s0, nov_s1, nov_s2, intv_set, bytv_set] at hs); simp only [Act.put, zg, zh, zi])
        | ((with_reducible apply pl_storeN hs); (focus (simp only [Act.eval, za, zb, zc, zd, ze, zf]; (try with_reducible rfl); done)); (focus (simp only [Act.eval, za, zb, zc, zd, ze, zf]; (try with_reducible rfl); done)); (with_reducible (first | exact agg_24)); (focus with_reducible (repeat (first | exact ent_here | apply ent_next | exact ent_last)); done); (focus (first | (with_reducible rfl) | (simp only [go_sem]; done) | (simp; done))); (focus (first | (simp [go_sem]; done) | (simp only [go_sem]; omega) | go_size)); (focus (first | (simp only [go_sem]; done) | (simp [go_sem]; done))); (focus (first | ((with_reducible apply splice_whole); (focus (first | (with_reducible rfl) | (simp only [go_sem]; done) | (simp; done)))) | (simp [splice, go_sem]; done) | (simp only [go_sem]; (try with_reducible rfl); done))); clear hs; (try clear w); intro w hs; (try simp only [zg, zh, zi, itm_s0, itm_s1, itm_s2, itm_s3, cal_s0, cal_s1, cal_s2, lnk_s0, lnk_s1, lnk_s2, nov_s0, nov_s1, nov_s2, intv_set, bytv_set] at hs); simp only [Act.put, zg, zh, zi])
        | ((with_reducible apply pl_append1 hs); (with_reducible (first | exact app_22 | exact app_25 | exact app_31 | exact app_55 | exact app_65)); (focus (simp only [Act.eval, za, zb, zc, zd, ze, zf]; (try with_reducible rfl); done)); (first | (focus with_reducible (repeat (first | exact ent_here | apply ent_next | exact ent_last)); done) | (focus (with_reducible exact ent_row_nil)) | (focus ((with_reducible apply ent_row_of_blk); (focus with_reducible (repeat (first | exact ent_here | apply ent_next | exact ent_last)); done); (focus (simp only [go_sem]))))); (focus (simp only [Act.eval, za, zb, zc, zd, ze, zf]; (try with_reducible rfl); done)); (focus ((repeat (first | (with_reducible (first | assumption | exact hel _ | exact hel2 _ | exact hel3 _)) | ((with_reducible apply reads_whole); (focus (first | (with_reducible rfl) | (simp only [go_sem]; done) | (simp; done)))) | ((with_reducible apply reads_part); (focus (first | (simp [go_sem]; done) | (simp only [go_sem]; omega) | go_size)); (focus (first | (simp only [Nat.reduceAdd, Nat.zero_add, go_sem]; (try with_reducible rfl); done) | (simp [go_sem]; (try with_reducible rfl); done)))) | (with_reducible (first | (apply reads_left; assumption) | refine reads_exh (by assumption) ?_ | refine reads_exh0 (by assumption) ?_ | apply reads_next)))); done)); (focus (first | (simp only [maxLen] at *; omega) | (simp [maxLen] at *; omega))); (focus (first | (simp only [maxLen] at *; omega) | (simp [maxLen] at *; omega))); clear hs; (try clear w); intro Ap cq w hs; skip; simp only [Act.put, zg, zh, zi])
        | (with_reducible refine And.intro (?_ : wpMix _ _ _ _ _ _ _ _) ?_)
        | ((with_reducible apply mix_thaw hRR hs); (focus with_reducible (repeat (first | exact ent_here | apply ent_next | exact ent_last)); done); clear hs; (try clear w); intro w hs; (try simp only [star_assoc, star_emp, emp_star] at hs); clear hRR hR)
        | ((with_reducible apply mx_loadN hRR); (focus (simp only [Act.eval, za, zb, zc, zd, ze, zf]; (try with_reducible rfl); done)); (with_reducible (first | exact agg_24)); (focus ((repeat (first | (with_reducible (first | assumption | exact hel _ | exact hel2 _ | exact hel3 _)) | ((with_reducible apply reads_whole); (focus (first | (with_reducible rfl) | (simp only [go_sem]; done) | (simp; done)))) | ((with_reducible apply reads_part); (focus (first | (simp [go_sem]; done) | (simp only [go_sem]; omega) | go_size)); (focus (first | (simp only [Nat.reduceAdd, Nat.zero_add, go_sem]; (try with_reducible rfl); done) | (simp [go_sem]; (try with_reducible rfl); done)))) | (with_reducible (first | (apply reads_left; assumption) | refine reads_exh (by assumption) ?_ | refine reads_exh0 (by assumption) ?_ | apply reads_next)))); done)); simp only [Act.put, zg, zh, zi])
        | ((with_reducible apply mx_alloc hs); (with_reducible (first | exact zero_24)); (focus (intros; with_reducible (refine in_of_sat (by assumption) ?_; repeat (first | exact ent_exh_here | exact ent_last | refine ent_pu_l (fun _ => ?_) | refine ent_ex_l (fun _ => ?_) | apply ent_exh_next)); done)); clear hs; (try clear w); intro g w hs; skip; simp only [Act.put, zg, zh, zi])
        | ((with_reducible apply mx_storeN hs); (focus (simp only [Act.eval, za, zb, zc, zd, ze, zf]; (try with_reducible rfl); done)); (focus (simp only [Act.eval, za, zb, zc, zd, ze, zf]; (try with_reducible rfl); done)); (with_reducible (first | exact agg_24)); (focus with_reducible (repeat (first | exact ent_here | apply ent_next | exact ent_last)); done); (focus (first | (with_reducible rfl) | (simp only [go_sem]; done) | (simp; done))); (focus (first | (simp [go_sem]; done) | (simp only [go_sem]; omega) | go_size)); (focus (first | (simp only [go_sem]; done) | (simp [go_sem]; done))); (focus (first | ((with_reducible apply splice_whole); (focus (first | (with_reducible rfl) | (simp only [go_sem]; done) | (simp; done)))) | (simp [splice, go_sem]; done) | (simp only [go_sem]; (try with_reducible rfl); done))); (focus (intros; with_reducible (refine in_of_sat (by assumption) ?_; repeat (first | exact ent_exh_here | exact ent_last | refine ent_pu_l (fun _ => ?_) | refine ent_ex_l (fun _ => ?_) | apply ent_exh_next)); done)); clear hs; (try clear w); intro w hs; (try simp only [zg, zh, zi, itm_s0, itm_s1, itm_s2, itm_s3, cal_s0, cal_s1, cal_s2, lnk_s0, lnk_s1, lnk_s2, nov_s0, nov_s1, nov_s2, intv_set, bytv_set] at hs); simp only [Act.put, zg, zh, zi])
        | ((with_reducible refine mix_float ?_ ?_ ?_ (fun h hk => ?_) ?_); rotate_left 1; (focus rfl); (focus rfl); (focus (go_simp; (try (rw [if_pos (by omega)]; (try go_simp))); (try simp (disch := omega) only [IntWalk.i64_in, IntWalk.i32_in]); (try with_reducible rfl); done)); simp only [Act.put, zg, zh, zi]))
        all_goals exact ⟨⟨k + 1, ps ++ [(x, { y with kind := x.kind })], by omega, by omega, by omega, by simp; omega, by go_num, (fun p hp => by
          rcases List.mem_append.1 hp with hp | hp
          · exact hgood.out p hp
          · rw [List.mem_singleton] at hp
            subst hp
            exact hgp.out), hs.mono (by simp only [List.map_append, zk, zl]; ((repeat (first | (with_reducible (first | exact ent_refl | exact ent_emp)) | ((with_reducible apply ent_front); (focus with_reducible (repeat (first | exact ent_here | apply ent_next | exact ent_last)); done)) | (with_reducible (first | exact ent_keep | apply ent_trans ent_drop)))); done))⟩, by simp [intOf]; omega⟩
      · clear hlx hly hxI hyI hIa hIb
        have hbad4 : ¬ 0 ≤ x.n ∨ (0 ≤ x.n ∧ ¬ 0 ≤ y.n) ∨ (0 ≤ x.n ∧ 0 ≤ y.n ∧ ¬ x.s.size ≤ 100) ∨ (0 ≤ x.n ∧ 0 ≤ y.n ∧ x.s.size ≤ 100 ∧ ¬ y.s.size ≤ 100) := by omega
        clear hbad
        rcases hbad4 with hb1 | ⟨hb1, hb2⟩ | ⟨hb1, hb2, hb3⟩ | ⟨hb1, hb2, hb3, hb4⟩
        all_goals
          go_wp2_with (first
        | ((with_reducible apply wp_region_al (G := emp) (id := 5) hs 11 [[0, 1, 2, 3, 4, 5, 6, 7, 8, 9, 10], [0, 1, 2, 3, 4, 5, 6, 7, 9, 8, 10]]); (focus (exact ent_emp_l)); (focus kernel_rfl); (focus decide +kernel); clear hs; (try clear w); intro hR w hRR hs; (try simp only [star_assoc] at hs); simp only [zk, zl, opsAlong, List.filterMap_cons, List.filterMap_nil, zd, ze, List.drop_succ_cons, List.drop_zero, List.cons_append, List.nil_append, allAlong])
        | ((with_reducible rewrite [pl_strike_eq]); rotate_left 1; (focus rfl))
        | ((with_reducible rewrite [pl_skip_eq]); rotate_left 1; (focus rfl); simp only [Act.put, zg, zh, zi])
        | ((with_reducible apply pl_guard_f); (focus rfl); (focus rfl); all_goals (intro hb; first | (cases hb; done) | ((try simp at hb); first | contradiction | ((have hF : False := (by omega)); (cases hF; done)) | (simp only [Act.put, zg, zh, zi]))))
        | ((with_reducible apply pl_load1 hs); (focus (simp only [Act.eval, za, zb, zc, zd, ze, zf]; (try with_reducible rfl); done)); (focus (simp only [go_sem])); (focus ((repeat (first | (with_reducible (first | assumption | exact hec _ | exact hec2 _ | exact hec3 _ | exact hec4 _ _)) | ((with_reducible apply readc_here); (focus (first | (simp only [zc, zd, ze, go_sem]; (try with_reducible rfl); done) | (go_simp; (try with_reducible rfl); done)))) | (with_reducible (first | (apply readc_left; assumption) | refine readc_exh (by assumption) ?_ | refine readc_exh0 (by assumption) ?_ | apply readc_next)))); done)); (focus rfl); simp only [Act.put, zg, zh, zi])
        | ((with_reducible apply pl_store1 hs); (focus (simp only [Act.eval, za, zb, zc, zd, ze, zf]; (try with_reducible rfl); done)); (focus (simp only [Act.eval, za, zb, zc, zd, ze, zf]; (try with_reducible rfl); done)); (focus (simp only [go_sem])); (focus with_reducible (repeat (first | exact ent_here | apply ent_next | exact ent_last)); done); (focus (first | (simp [go_sem]; done) | (simp only [go_sem]; omega) | go_size)); (focus (first | (simp only [go_sem]; done) | (simp [go_sem]; done))); clear hs; (try clear w); intro w hs; (try simp only [zg, zh, zi, itm_s0, itm_s1, itm_s2, itm_s3, cal_s0, cal_s1, cal_s2, lnk_s0, lnk_s1, lnk_s2, nov_s0, nov_s1, nov_s2, intv_set, bytv_set] at hs); simp only [Act.put, zg, zh, zi])
        | ((with_reducible apply pl_storeN hs); (focus (simp only [Act.eval, za, zb, zc, zd, ze, zf]; (try with_reducible rfl); done)); (focus (simp only [Act.eval, za, zb, zc, zd, ze, zf]; (try with_reducible rfl); done)); (with_reducible (first | exact agg_24)); (focus with_reducible (repeat (first | exact ent_here | apply ent_next | exact ent_last)); done); (focus (first | (with_reducible rfl) | (simp only [go_sem]; done) | (simp; done))); (focus (first | (simp [go_sem]; done) | (simp only [go_sem]; omega) | go_size)); (focus (first | (simp only [go_sem]; done) | (simp [go_sem]; done))); (focus (first | ((with_reducible apply splice_whole); (focus (first | (with_reducible rfl) | (simp only [go_sem]; done) | (simp; done)))) | (simp [splice, go_sem]; done) | (simp only [go_sem]; (try with_reducible rfl); done))); clear hs; (try clear w); intro w hs; (try simp only [zg, zh, zi, itm_s0, itm_s1, itm_s2, itm_s3, cal_s0, cal_s1, cal_s2, lnk_s0, lnk_s1, lnk_s2, nov_s0, nov_s1, nov_s2, intv_set, bytv_set] at hs); simp only [Act.put, zg, zh, zi])
        | (with_reducible refine And.intro (?_ : wpMix _ _ _ _ _ _ _ _) ?_)
        | ((with_reducible apply mix_thaw hRR hs); (focus with_reducible (repeat (first | exact ent_here | apply ent_next | exact ent_last)); done); clear hs; (try clear w); intro w hs; (try simp only [star_assoc, star_emp, emp_star] at hs); clear hRR hR)
        | ((with_reducible apply mx_loadN hRR); (focus (simp only [Act.eval, za, zb, zc, zd, ze, zf]; (try with_reducible rfl); done)); (with_reducible (first | exact agg_24)); (focus ((repeat (first | (with_reducible (first | assumption | exact hel _ | exact hel2 _ | exact hel3 _)) | ((with_reducible apply reads_whole); (focus (first | (with_reducible rfl) | (simp only [go_sem]; done) | (simp; done)))) | ((with_reducible apply reads_part); (focus (first | (simp [go_sem]; done) | (simp only [go_sem]; omega) | go_size)); (focus (first | (simp only [Nat.reduceAdd, Nat.zero_add, go_sem]; (try with_reducible rfl); done) | (simp [go_sem]; (try with_reducible rfl); done)))) | (with_reducible (first | (apply reads_left; assumption) | refine reads_exh (by assumption) ?_ | refine reads_exh0 (by assumption) ?_ | apply reads_next)))); done)); simp only [Act.put, zg, zh, zi])
        | ((with_reducible apply mx_alloc hs); (with_reducible (first | exact zero_24)); (focus (intros; with_reducible (refine in_of_sat (by assumption) ?_; repeat (first | exact ent_exh_here | exact ent_last | refine ent_pu_l (fun _ => ?_) | refine ent_ex_l (fun _ => ?_) | apply ent_exh_next)); done)); clear hs; (try clear w); intro g w hs; skip; simp only [Act.put, zg, zh, zi])
        | ((with_reducible apply mx_storeN hs); (focus (simp only [Act.eval, za, zb, zc, zd, ze, zf]; (try with_reducible rfl); done)); (focus (simp only [Act.eval, za, zb, zc, zd, ze, zf]; (try with_reducible rfl); done)); (with_reducible (first | exact agg_24)); (focus with_reducible (repeat (first | exact ent_here | apply ent_next | exact ent_last)); done); (focus (first | (with_reducible rfl) | (simp only [go_sem]; done) | (simp; done))); (focus (first | (simp [go_sem]; done) | (simp only [go_sem]; omega) | go_size)); (focus (first | (simp only [go_sem]; done) | (simp [go_sem]; done))); (focus (first | ((with_reducible apply splice_whole); (focus (first | (with_reducible rfl) | (simp only [go_sem]; done) | (simp; done)))) | (simp [splice, go_sem]; done) | (simp only [go_sem]; (try with_reducible rfl); done))); (focus (intros; with_reducible (refine in_of_sat (by assumption) ?_; repeat (first | exact ent_exh_here | exact ent_last | refine ent_pu_l (fun _ => ?_) | refine ent_ex_l (fun _ => ?_) | apply ent_exh_next)); done)); clear hs; (try clear w); intro w hs; (try simp only [zg, zh, zi, itm_s0, itm_s1, itm_s2, itm_s3, cal_s0, cal_s1, cal_s2, lnk_s0, lnk_s1, lnk_s2, nov_s0, nov_s1, nov_s2, intv_set, bytv_set] at hs); simp only [Act.put, zg, zh, zi])
        | ((with_reducible refine mix_float ?_ ?_ ?_ (fun h hk => ?_) ?_); rotate_left 1; (focus rfl); (focus rfl); (focus (go_simp; (try (rw [if_pos (by omega)]; (try go_simp))); (try simp (disch := omega) only [IntWalk.i64_in, IntWalk.i32_in]); (try with_reducible rfl); done)); simp only [Act.put, zg, zh, zi]))
          all_goals exact ⟨⟨k + 1, ps, by omega, by omega, by omega, by omega, by go_num, hgood, hs.mono (by ((repeat (first | (with_reducible (first | exact ent_refl | exact ent_emp)) | ((with_reducible apply ent_front); (focus with_reducible (repeat (first | exact ent_here | apply ent_next | exact ent_last)); done)) | (with_reducible (first | exact ent_keep | apply ent_trans ent_drop)))); done))⟩, by simp [intOf]; omega⟩
    · clear hIa hIb hx1 hy1
      have hpl : ps.length ≤ 30 := by omega
      have hax : ∀ x, x ∈ ps.map (·.1) → ItmI x ∧ okI x = true := fun x hx => by obtain ⟨p, hp, rfl⟩ := List.mem_map.1 hx; exact ⟨(hgood.out p hp).x, (hgood.out p hp).okx⟩
      have hay : ∀ x, x ∈ ps.map (·.2) → ItmI x ∧ okI x = true := fun x hx => by obtain ⟨p, hp, rfl⟩ := List.mem_map.1 hx; exact ⟨(hgood.out p hp).y, (hgood.out p hp).oky⟩
      have hlx : (ps.map (·.1)).length ≤ 40 := by rw [List.length_map]; omega
      have hly : (ps.map (·.2)).length ≤ 40 := by rw [List.length_map]; omega
      have hexit : ¬ k < n ∨ (k < n ∧ ¬ k < m) ∨ (k < n ∧ k < m ∧ ¬ (k : Int) < 30) := by omega
      clear hlt
      rcases hexit with hb1 | ⟨hb1, hb2⟩ | ⟨hb1, hb2, hb3⟩
      all_goals
        go_wp2_with (first
        | ((with_reducible rewrite [pl_strike_eq]); rotate_left 1; (focus rfl))
        | ((with_reducible apply pl_call hs (rowA_s _ _ ad _ _)); (go_must (((focus (simp only [zj, zk, zl, List.append_toArray, List.nil_append, List.cons_append, Act.eval, za, zb, zc, zd, ze, zf]; (try with_reducible rfl); done)); (focus ((repeat (first | (with_reducible (first | exact ent_refl | apply ent_puR)) | ((with_reducible apply ent_front); (focus with_reducible (repeat (first | exact ent_here | apply ent_next | exact ent_last)); done)) | (with_reducible (first | exact ent_keep | apply ent_trans ent_drop)) | (focus (first | ((repeat' (first | (with_reducible assumption) | (with_reducible apply And.intro) | (focus (first | ((repeat (first | (with_reducible (first | assumption | exact slr_ro |  exact hsl _ | exact hsl2 _ | exact hsl3 _ _ _ | exact slr_nil | exact slr_row (fun _ => by simp only [go_sem]) | exact slr_one (fun _ => by simp only [go_sem]) | (apply slr_left; assumption))) | (with_reducible apply slr_next))); done) | ((repeat (first | (with_reducible (first | assumption | exact slr_ro |  exact hsl _ | exact hsl2 _ | exact hsl3 _ _ _ | exact slr_nil | exact slr_row (fun _ => by simp only [go_sem]) | exact slr_one (fun _ => by simp only [go_sem]) | (apply slr_left; assumption))) | (with_reducible (first | (apply slr_exh; focus assumption) | (apply slr_exh0; focus assumption) | apply slr_next)))); done))) | (focus (with_reducible (repeat (first | assumption | (apply ErrA.left; assumption) | refine ErrA.exh (by assumption) ?_ | refine ErrA.exh0 (by assumption) ?_ | apply ErrA.next | (apply ErrB.left; assumption) | refine ErrB.exh (by assumption) ?_ | refine ErrB.exh0 (by assumption) ?_ | apply ErrB.next)); done)))); done))))); done)); (focus (simp only [go_sem]))))); clear hs; (try clear w); intro v w hq; (obtain ⟨vm, hq1⟩ := hq.ex; obtain ⟨gq, hq2⟩ := hq1.ex; obtain ⟨rfl, hs⟩ := hq2.pu; clear hq1 hq2); clear hq; (try simp only [star_assoc, star_emp, emp_star] at hs); (try simp only [Act.put, zg, zh, zi])))
        rename_i gq1 _ _
        replace hs := hs.mono (B := row 24 4 itm (.slice X ps.length cx) (ps.map (·.1)) * (row 24 4 itm (.slice Y ps.length cy) (ps.map (·.2)) * (row 5 1 bytv (.slice (some ⟨gq1, 0, none⟩) (encL (ps.map (·.1))).length (encL (ps.map (·.1))).length) (encL (ps.map (·.1))) * (row 5 1 bytv (.slice (some ⟨gq, 0, none⟩) (encL (ps.map (·.2))).length (encL (ps.map (·.2))).length) (encL (ps.map (·.2))) * F)))) (by ((repeat (first | (with_reducible (first | exact ent_refl | exact ent_emp)) | ((with_reducible apply ent_front); (focus with_reducible (repeat (first | exact ent_here | apply ent_next | exact ent_last)); done)) | (with_reducible (first | exact ent_keep | apply ent_trans ent_drop)))); done))
        clear hax hay hlx hly
        go_loopw [14, 15] (fun al i wr => ∃ j : Nat, j ≤ ps.length ∧ i = .int .i64 j ∧ al = .bool ((ps.take j).all sameB) ∧ Sat c0 (row 24 4 itm (.slice X ps.length cx) (ps.map (·.1)) * (row 24 4 itm (.slice Y ps.length cy) (ps.map (·.2)) * (row 5 1 bytv (.slice (some ⟨gq1, 0, none⟩) (encL (ps.map (·.1))).length (encL (ps.map (·.1))).length) (encL (ps.map (·.1))) * (row 5 1 bytv (.slice (some ⟨gq, 0, none⟩) (encL (ps.map (·.2))).length (encL (ps.map (·.2))).length) (encL (ps.map (·.2))) * F)))) wr) (fun _ i _ => ps.length - (intOf i).toNat)
        case atStart => exact ⟨0, by omega, rfl, rfl, hs⟩
        case round =>
          clear hs
          obtain ⟨j, hj, rfl, rfl, hs⟩ := hrel
          by_cases hlt : j < ps.length
          · have hpj := List.getElem?_eq_getElem hlt
            have hgp := hgood.out _ (List.getElem_mem hlt)
            generalize ps[j] = p at hpj hgp
            have hta := take_all (f := sameB) hpj
            have hpx : (ps.map (·.1))[j]? = some p.1 := by rw [List.getElem?_map, hpj]; rfl
            have hpy : (ps.map (·.2))[j]? = some p.2 := by rw [List.getElem?_map, hpj]; rfl
            obtain ⟨gx, x', rfl, hx', hel⟩ := row_at (i := j) hs.own itm_size hlt
            obtain rfl : x' = p.1 := Option.some.inj (hx'.symm.trans hpx)
            obtain ⟨gy, y', rfl, hy', hel2⟩ := row_at (i := j) (hs.own.mono ent_drop) itm_size hlt
            obtain rfl : y' = p.2 := Option.some.inj (hy'.symm.trans hpy)
            have hkI := hgp.x.kind
            have hec : ∀ R, ReadC (row 24 4 itm (.slice (some ⟨gx, 0, none⟩) ps.length cx) (ps.map (·.1)) * R) gx (j * 4) (.int .i64 p.1.kind) := fun R => (hel R).cell (i := 0) (by omega) rfl
            clear hpx hpy hx' hy' hgp hpj
            have hsm : sameB p = if p.1.kind % 3 = 0 then p.1.n == p.2.n else if p.1.kind % 3 = 1 then p.1.s.toList == p.2.s.toList else p.1.b == p.2.b := rfl
            have hkk : p.1.kind % 3 = 0 ∨ p.1.kind % 3 = 1 ∨ p.1.kind % 3 = 2 := by omega
            cases hal : (ps.take j).all sameB
            · rw [hal, Bool.false_and] at hta
              clear hsm
              rcases hkk with hk | hk | hk
              all_goals
                go_wp2_with (first
        | ((with_reducible apply wp_region_sl (G := emp) (id := 19) hs 1000); (focus (exact ent_emp_l)); (focus kernel_rfl); (focus decide +kernel); clear hs; (try clear w); intro hR w hRR hs; (try simp only [star_assoc] at hs))
        | ((with_reducible apply wp_region_sl (G := emp) (id := 21) hs 1000); (focus (exact ent_emp_l)); (focus kernel_rfl); (focus decide +kernel); clear hs; (try clear w); intro hR w hRR hs; (try simp only [star_assoc] at hs))
        | ((with_reducible apply wp_region_sl (G := emp) (id := 17) hs 1000); (focus (exact ent_emp_l)); (focus kernel_rfl); (focus decide +kernel); clear hs; (try clear w); intro hR w hRR hs; (try simp only [star_assoc] at hs))
        | ((with_reducible apply pl_call hs (within_s _ _ _ _)); (go_must (((focus (simp only [zj, zk, zl, List.append_toArray, List.nil_append, List.cons_append, Act.eval, za, zb, zc, zd, ze, zf]; (try with_reducible rfl); done)); (focus ((repeat (first | (with_reducible (first | exact ent_refl | apply ent_puR)) | ((with_reducible apply ent_front); (focus with_reducible (repeat (first | exact ent_here | apply ent_next | exact ent_last)); done)) | (with_reducible (first | exact ent_keep | apply ent_trans ent_drop)) | (focus (first | ((repeat' (first | (with_reducible assumption) | (with_reducible apply And.intro) | omega)); done))))); done)); (focus (simp only [go_sem]))))); clear hs; (try clear w); intro v w hq; (obtain ⟨rfl, hs⟩ := hq.pu); clear hq; (try simp only [star_assoc, star_emp, emp_star] at hs); (try simp only [Act.put, zg, zh, zi]))
        | ((with_reducible apply pl_load1 hs); (focus (simp only [Act.eval, za, zb, zc, zd, ze, zf]; (try with_reducible rfl); done)); (focus (simp only [go_sem])); (focus ((repeat (first | (with_reducible (first | assumption | exact hec _ | exact hec2 _ | exact hec3 _ | exact hec4 _ _)) | ((with_reducible apply readc_here); (focus (first | (simp only [zc, zd, ze, go_sem]; (try with_reducible rfl); done) | (go_simp; (try with_reducible rfl); done)))) | (with_reducible (first | (apply readc_left; assumption) | refine readc_exh (by assumption) ?_ | refine readc_exh0 (by assumption) ?_ | apply readc_next)))); done)); (focus rfl); simp only [Act.put, zg, zh, zi])
        | ((with_reducible apply mix_end hRR hs); (focus with_reducible (repeat (first | exact ent_here | apply ent_next | exact ent_last)); done); clear hs; (try clear w); intro w hs; (try simp only [star_assoc, star_emp, emp_star] at hs); clear hRR hR)
        | ((with_reducible apply mx_skip); (focus rfl); simp only [Act.put, zg, zh, zi])
        | ((with_reducible refine mix_float ?_ ?_ ?_ (fun h hk => ?_) ?_); rotate_left 1; (focus rfl); (focus rfl); (focus (go_simp; (try (rw [if_pos (by omega)]; (try go_simp))); (try simp (disch := omega) only [IntWalk.i64_in, IntWalk.i32_in]); (try with_reducible rfl); done)); simp only [Act.put, zg, zh, zi]))
                exact ⟨⟨j + 1, by omega, by go_num, by rw [hta], hs⟩, by simp [intOf]; omega⟩
            · rw [hal, Bool.true_and] at hta
              rcases hkk with hk | hk | hk
              · rw [if_pos hk] at hsm
                rw [hsm] at hta
                clear hsm
                have hec2 : ∀ R, ReadC (row 24 4 itm (.slice (some ⟨gx, 0, none⟩) ps.length cx) (ps.map (·.1)) * R) gx (j * 4 + 1) (.int .i64 p.1.n) := fun R => (hel R).cell (i := 1) (by omega) rfl
                have hec3 : ∀ R, ReadC (row 24 4 itm (.slice (some ⟨gy, 0, none⟩) ps.length cy) (ps.map (·.2)) * R) gy (j * 4 + 1) (.int .i64 p.2.n) := fun R => (hel2 R).cell (i := 1) (by omega) rfl
                clear hel hel2
                go_wp2_with (first
        | ((with_reducible apply wp_region_sl (G := emp) (id := 19) hs 1000); (focus (exact ent_emp_l)); (focus kernel_rfl); (focus decide +kernel); clear hs; (try clear w); intro hR w hRR hs; (try simp only [star_assoc] at hs))
        | ((with_reducible apply pl_call hs (within_s _ _ _ _)); (go_must (((focus (simp only [zj, zk, zl, List.append_toArray, List.nil_append, List.cons_append, Act.eval, za, zb, zc, zd, ze, zf]; (try with_reducible rfl); done)); (focus ((repeat (first | (with_reducible (first | exact ent_refl | apply ent_puR)) | ((with_reducible apply ent_front); (focus with_reducible (repeat (first | exact ent_here | apply ent_next | exact ent_last)); done)) | (with_reducible (first | exact ent_keep | apply ent_trans ent_drop)) | (focus (first | ((repeat' (first | (with_reducible assumption) | (with_reducible apply And.intro) | omega)); done))))); done)); (focus (simp only [go_sem]))))); clear hs; (try clear w); intro v w hq; (obtain ⟨rfl, hs⟩ := hq.pu); clear hq; (try simp only [star_assoc, star_emp, emp_star] at hs); (try simp only [Act.put, zg, zh, zi]))
        | ((with_reducible apply pl_load1 hs); (focus (simp only [Act.eval, za, zb, zc, zd, ze, zf]; (try with_reducible rfl); done)); (focus (simp only [go_sem])); (focus ((repeat (first | (with_reducible (first | assumption | exact hec _ | exact hec2 _ | exact hec3 _ | exact hec4 _ _)) | ((with_reducible apply readc_here); (focus (first | (simp only [zc, zd, ze, go_sem]; (try with_reducible rfl); done) | (go_simp; (try with_reducible rfl); done)))) | (with_reducible (first | (apply readc_left; assumption) | refine readc_exh (by assumption) ?_ | refine readc_exh0 (by assumption) ?_ | apply readc_next)))); done)); (focus rfl); simp only [Act.put, zg, zh, zi])
        | ((with_reducible apply mix_end hRR hs); (focus with_reducible (repeat (first | exact ent_here | apply ent_next | exact ent_last)); done); clear hs; (try clear w); intro w hs; (try simp only [star_assoc, star_emp, emp_star] at hs); clear hRR hR)
        | ((with_reducible apply mx_strike); (focus rfl))
        | ((with_reducible apply mx_load1 hRR); (focus (simp only [Act.eval, za, zb, zc, zd, ze, zf]; (try with_reducible rfl); done)); (focus (simp only [go_sem])); (focus ((repeat (first | (with_reducible (first | assumption | exact hec _ | exact hec2 _ | exact hec3 _ | exact hec4 _ _)) | ((with_reducible apply readc_here); (focus (first | (simp only [zc, zd, ze, go_sem]; (try with_reducible rfl); done) | (go_simp; (try with_reducible rfl); done)))) | (with_reducible (first | (apply readc_left; assumption) | refine readc_exh (by assumption) ?_ | refine readc_exh0 (by assumption) ?_ | apply readc_next)))); done)); simp only [Act.put, zg, zh, zi])
        | ((with_reducible refine mix_float ?_ ?_ ?_ (fun h hk => ?_) ?_); rotate_left 1; (focus rfl); (focus rfl); (focus (go_simp; (try (rw [if_pos (by omega)]; (try go_simp))); (try simp (disch := omega) only [IntWalk.i64_in, IntWalk.i32_in]); (try with_reducible rfl); done)); simp only [Act.put, zg, zh, zi]))
                exact ⟨⟨j + 1, by omega, by go_num, by rw [hta], hs⟩, by simp [intOf]; omega⟩
              · rw [if_neg (by omega), if_pos hk] at hsm
                rw [hsm] at hta
                clear hsm
                have hec2 : ∀ R, ReadC (row 24 4 itm (.slice (some ⟨gx, 0, none⟩) ps.length cx) (ps.map (·.1)) * R) gx (j * 4 + 2) (.string p.1.s) := fun R => (hel R).cell (i := 2) (by omega) rfl
                have hec3 : ∀ R, ReadC (row 24 4 itm (.slice (some ⟨gy, 0, none⟩) ps.length cy) (ps.map (·.2)) * R) gy (j * 4 + 2) (.string p.2.s) := fun R => (hel2 R).cell (i := 2) (by omega) rfl
                clear hel hel2
                go_wp2_with (first
        | ((with_reducible apply wp_region_sl (G := emp) (id := 21) hs 1000); (focus (exact ent_emp_l)); (focus kernel_rfl); (focus decide +kernel); clear hs; (try clear w); intro hR w hRR hs; (try simp only [star_assoc] at hs))
        | ((with_reducible apply pl_call hs (within_s _ _ _ _)); (go_must (((focus (simp only [zj, zk, zl, List.append_toArray, List.nil_append, List.cons_append, Act.eval, za, zb, zc, zd, ze, zf]; (try with_reducible rfl); done)); (focus ((repeat (first | (with_reducible (first | exact ent_refl | apply ent_puR)) | ((with_reducible apply ent_front); (focus with_reducible (repeat (first | exact ent_here | apply ent_next | exact ent_last)); done)) | (with_reducible (first | exact ent_keep | apply ent_trans ent_drop)) | (focus (first | ((repeat' (first | (with_reducible assumption) | (with_reducible apply And.intro) | omega)); done))))); done)); (focus (simp only [go_sem]))))); clear hs; (try clear w); intro v w hq; (obtain ⟨rfl, hs⟩ := hq.pu); clear hq; (try simp only [star_assoc, star_emp, emp_star] at hs); (try simp only [Act.put, zg, zh, zi]))
        | ((with_reducible apply pl_load1 hs); (focus (simp only [Act.eval, za, zb, zc, zd, ze, zf]; (try with_reducible rfl); done)); (focus (simp only [go_sem])); (focus ((repeat (first | (with_reducible (first | assumption | exact hec _ | exact hec2 _ | exact hec3 _ | exact hec4 _ _)) | ((with_reducible apply readc_here); (focus (first | (simp only [zc, zd, ze, go_sem]; (try with_reducible rfl); done) | (go_simp; (try with_reducible rfl); done)))) | (with_reducible (first | (apply readc_left; assumption) | refine readc_exh (by assumption) ?_ | refine readc_exh0 (by assumption) ?_ | apply readc_next)))); done)); (focus rfl); simp only [Act.put, zg, zh, zi])
        | ((with_reducible apply mix_end hRR hs); (focus with_reducible (repeat (first | exact ent_here | apply ent_next | exact ent_last)); done); clear hs; (try clear w); intro w hs; (try simp only [star_assoc, star_emp, emp_star] at hs); clear hRR hR)
        | ((with_reducible apply mx_strike); (focus rfl))
        | ((with_reducible apply mx_load1 hRR); (focus (simp only [Act.eval, za, zb, zc, zd, ze, zf]; (try with_reducible rfl); done)); (focus (simp only [go_sem])); (focus ((repeat (first | (with_reducible (first | assumption | exact hec _ | exact hec2 _ | exact hec3 _ | exact hec4 _ _)) | ((with_reducible apply readc_here); (focus (first | (simp only [zc, zd, ze, go_sem]; (try with_reducible rfl); done) | (go_simp; (try with_reducible rfl); done)))) | (with_reducible (first | (apply readc_left; assumption) | refine readc_exh (by assumption) ?_ | refine readc_exh0 (by assumption) ?_ | apply readc_next)))); done)); simp only [Act.put, zg, zh, zi])
        | ((with_reducible refine mix_float ?_ ?_ ?_ (fun h hk => ?_) ?_); rotate_left 1; (focus rfl); (focus rfl); (focus (go_simp; (try (rw [if_pos (by omega)]; (try go_simp))); (try simp (disch := omega) only [IntWalk.i64_in, IntWalk.i32_in]); (try with_reducible rfl); done)); simp only [Act.put, zg, zh, zi]))
                exact ⟨⟨j + 1, by omega, by go_num, by rw [hta], hs⟩, by simp [intOf]; omega⟩
              · rw [if_neg (by omega), if_neg (by omega)] at hsm
                rw [hsm] at hta
                clear hsm
                have hec2 : ∀ R, ReadC (row 24 4 itm (.slice (some ⟨gx, 0, none⟩) ps.length cx) (ps.map (·.1)) * R) gx (j * 4 + 3) (.int .u8 p.1.b) := fun R => (hel R).cell (i := 3) (by omega) rfl
                have hec3 : ∀ R, ReadC (row 24 4 itm (.slice (some ⟨gy, 0, none⟩) ps.length cy) (ps.map (·.2)) * R) gy (j * 4 + 3) (.int .u8 p.2.b) := fun R => (hel2 R).cell (i := 3) (by omega) rfl
                clear hel hel2
                go_wp2_with (first
        | ((with_reducible apply wp_region_sl (G := emp) (id := 17) hs 1000); (focus (exact ent_emp_l)); (focus kernel_rfl); (focus decide +kernel); clear hs; (try clear w); intro hR w hRR hs; (try simp only [star_assoc] at hs))
        | ((with_reducible apply pl_call hs (within_s _ _ _ _)); (go_must (((focus (simp only [zj, zk, zl, List.append_toArray, List.nil_append, List.cons_append, Act.eval, za, zb, zc, zd, ze, zf]; (try with_reducible rfl); done)); (focus ((repeat (first | (with_reducible (first | exact ent_refl | apply ent_puR)) | ((with_reducible apply ent_front); (focus with_reducible (repeat (first | exact ent_here | apply ent_next | exact ent_last)); done)) | (with_reducible (first | exact ent_keep | apply ent_trans ent_drop)) | (focus (first | ((repeat' (first | (with_reducible assumption) | (with_reducible apply And.intro) | omega)); done))))); done)); (focus (simp only [go_sem]))))); clear hs; (try clear w); intro v w hq; (obtain ⟨rfl, hs⟩ := hq.pu); clear hq; (try simp only [star_assoc, star_emp, emp_star] at hs); (try simp only [Act.put, zg, zh, zi]))
        | ((with_reducible apply pl_load1 hs); (focus (simp only [Act.eval, za, zb, zc, zd, ze, zf]; (try with_reducible rfl); done)); (focus (simp only [go_sem])); (focus ((repeat (first | (with_reducible (first | assumption | exact hec _ | exact hec2 _ | exact hec3 _ | exact hec4 _ _)) | ((with_reducible apply readc_here); (focus (first | (simp only [zc, zd, ze, go_sem]; (try with_reducible rfl); done) | (go_simp; (try with_reducible rfl); done)))) | (with_reducible (first | (apply readc_left; assumption) | refine readc_exh (by assumption) ?_ | refine readc_exh0 (by assumption) ?_ | apply readc_next)))); done)); (focus rfl); simp only [Act.put, zg, zh, zi])
        | ((with_reducible apply mix_end hRR hs); (focus with_reducible (repeat (first | exact ent_here | apply ent_next | exact ent_last)); done); clear hs; (try clear w); intro w hs; (try simp only [star_assoc, star_emp, emp_star] at hs); clear hRR hR)
        | ((with_reducible apply mx_strike); (focus rfl))
        | ((with_reducible apply mx_load1 hRR); (focus (simp only [Act.eval, za, zb, zc, zd, ze, zf]; (try with_reducible rfl); done)); (focus (simp only [go_sem])); (focus ((repeat (first | (with_reducible (first | assumption | exact hec _ | exact hec2 _ | exact hec3 _ | exact hec4 _ _)) | ((with_reducible apply readc_here); (focus (first | (simp only [zc, zd, ze, go_sem]; (try with_reducible rfl); done) | (go_simp; (try with_reducible rfl); done)))) | (with_reducible (first | (apply readc_left; assumption) | refine readc_exh (by assumption) ?_ | refine readc_exh0 (by assumption) ?_ | apply readc_next)))); done)); simp only [Act.put, zg, zh, zi])
        | ((with_reducible refine mix_float ?_ ?_ ?_ (fun h hk => ?_) ?_); rotate_left 1; (focus rfl); (focus rfl); (focus (go_simp; (try (rw [if_pos (by omega)]; (try go_simp))); (try simp (disch := omega) only [IntWalk.i64_in, IntWalk.i32_in]); (try with_reducible rfl); done)); simp only [Act.put, zg, zh, zi]))
                exact ⟨⟨j + 1, by omega, by go_num, by rw [hta], hs⟩, by simp [intOf]; omega⟩
          · obtain rfl : j = ps.length := by omega
            have hfin := unlike_fin hgood.out
            rw [List.take_length]
            go_wp2_with (first
        | ((with_reducible rewrite [pl_strike_eq]); rotate_left 1; (focus rfl))
        | ((with_reducible apply pl_call hs (wakes_s _ _ ad)); (go_must (((focus (simp only [zj, zk, zl, List.append_toArray, List.nil_append, List.cons_append, Act.eval, za, zb, zc, zd, ze, zf]; (try with_reducible rfl); done)); (focus ((repeat (first | (with_reducible (first | exact ent_refl | apply ent_puR)) | ((with_reducible apply ent_front); (focus with_reducible (repeat (first | exact ent_here | apply ent_next | exact ent_last)); done)) | (with_reducible (first | exact ent_keep | apply ent_trans ent_drop)) | (focus (first | (focus (with_reducible (repeat (first | assumption | (apply ErrA.left; assumption) | refine ErrA.exh (by assumption) ?_ | refine ErrA.exh0 (by assumption) ?_ | apply ErrA.next | (apply ErrB.left; assumption) | refine ErrB.exh (by assumption) ?_ | refine ErrB.exh0 (by assumption) ?_ | apply ErrB.next)); done)))))); done)); (focus (simp only [go_sem]))))); clear hs; (try clear w); intro v w hq; (obtain ⟨rfl, hs⟩ := hq.pu); clear hq; (try simp only [star_assoc, star_emp, emp_star] at hs); (try simp only [Act.put, zg, zh, zi]))
        | ((with_reducible apply pl_cvBS hs); (focus (simp only [Act.eval, za, zb, zc, zd, ze, zf]; (try with_reducible rfl); done)); (first | (with_reducible exact byt_25_9)); (focus (first | ((repeat (first | (with_reducible (first | assumption | exact slr_ro |  exact hsl _ | exact hsl2 _ | exact hsl3 _ _ _ | exact slr_nil | exact slr_row (fun _ => by simp only [go_sem]) | exact slr_one (fun _ => by simp only [go_sem]) | (apply slr_left; assumption))) | (with_reducible apply slr_next))); done) | ((repeat (first | (with_reducible (first | assumption | exact slr_ro |  exact hsl _ | exact hsl2 _ | exact hsl3 _ _ _ | exact slr_nil | exact slr_row (fun _ => by simp only [go_sem]) | exact slr_one (fun _ => by simp only [go_sem]) | (apply slr_left; assumption))) | (with_reducible (first | (apply slr_exh; focus assumption) | (apply slr_exh0; focus assumption) | apply slr_next)))); done))); (focus rfl); simp only [Act.put, zg, zh, zi]))
            (go_ret; simp only [za, zb, zc, zd, ze, zf])
            exact ⟨_, rfl, hs.mono (ent_pu rfl (by ((repeat (first | (with_reducible (first | exact ent_refl | exact ent_emp)) | ((with_reducible apply ent_front); (focus with_reducible (repeat (first | exact ent_here | apply ent_next | exact ent_last)); done)) | (with_reducible (first | exact ent_keep | apply ent_trans ent_drop)))); done)))⟩
end Go.Proofs.YtdniiegnaabagaaDoor

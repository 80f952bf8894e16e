/- The document's bag: its row, New, is, out, Send, Look, Deliver, Drop, Double, Swap, Clear. -/
import Derived.Test.YtlgjippijbepkaaDoorGH
import Derived.Test.YtlgjippijbepkaaDoorH9
set_option linter.unusedSimpArgs false
set_option linter.unusedVariables false
namespace Go.Proofs.YtlgjippijbepkaaDoor
open Go Go.RowKit

/-- A parcel, as it is meant. -/
structure Par where
  s : Int
  f : Int
  t : Int
  l : List Int
structure PR (Z : HP) (p : PclD) (q : Par) : Prop where
  s : p.serial = q.s
  f : p.src = q.f
  t : p.dst = q.t
  l : SlR Z 1 bytv (.slice p.rawp p.rawn p.rawc) q.l
  n : q.l.length ≤ 140737488351232
structure PRs (Z : HP) (ts : List PclD) (L : List Par) : Prop where
  len : ts.length = L.length
  ea : ∀ (i : Nat) (p : PclD) (q : Par), ts[i]? = some p → L[i]? = some q → PR Z p q
section
variable {Z A R H : HP} {p : PclD} {q : Par} {ts : List PclD} {L : List Par} {hR : Hp}
theorem PR.mono (h : PR Z p q) (e : Ent A Z) : PR A p q := ⟨h.s, h.f, h.t, h.l.mono e, h.n⟩
theorem PR.next (h : PR R p q) : PR (A * R) p q := h.mono ent_drop
theorem PR.left (h : PR A p q) : PR (A * R) p q := h.mono ent_keep
theorem PR.exh (hh : H.on hR) (h : PR H p q) : PR (Exh hR * A) p q := h.mono (ent_trans ent_keep (exh_ent hh))
theorem PR.exh0 (hh : H.on hR) (h : PR H p q) : PR (Exh hR) p q := h.mono (exh_ent hh)
theorem PRs.mono (h : PRs Z ts L) (e : Ent A Z) : PRs A ts L := ⟨h.len, fun i p q h1 h2 => (h.ea i p q h1 h2).mono e⟩
theorem PRs.next (h : PRs R ts L) : PRs (A * R) ts L := h.mono ent_drop
theorem PRs.left (h : PRs A ts L) : PRs (A * R) ts L := h.mono ent_keep
theorem PRs.exh (hh : H.on hR) (h : PRs H ts L) : PRs (Exh hR * A) ts L := h.mono (ent_trans ent_keep (exh_ent hh))
theorem PRs.exh0 (hh : H.on hR) (h : PRs H ts L) : PRs (Exh hR) ts L := h.mono (exh_ent hh)
theorem prs_nil : PRs Z [] [] := ⟨rfl, fun i p q h => by simp at h⟩
theorem PR.nil : PR Z pcl0 ⟨0, 0, 0, []⟩ := ⟨rfl, rfl, rfl, slr_nil, by simp⟩
theorem PRs.get (h : PRs Z ts L) {i : Nat} (hi : ts[i]? = some p) : ∃ q, L[i]? = some q ∧ PR Z p q := by
  have hl : i < L.length := by have := (List.getElem?_eq_some_iff.1 hi).1; have := h.len; omega
  exact ⟨L[i], List.getElem?_eq_getElem hl, h.ea i p _ hi (List.getElem?_eq_getElem hl)⟩
theorem PRs.snoc (h : PRs Z ts L) (hp : PR Z p q) : PRs Z (ts ++ [p]) (L ++ [q]) := by
  refine ⟨by simp [h.len], fun i p' q' h1 h2 => ?_⟩
  by_cases hi : i < ts.length
  · rw [List.getElem?_append_left hi] at h1
    rw [List.getElem?_append_left (by have := h.len; omega)] at h2
    exact h.ea i p' q' h1 h2
  · rw [List.getElem?_append_right (by omega)] at h1
    rw [List.getElem?_append_right (by have := h.len; omega), ← h.len] at h2
    cases hk : i - ts.length with
    | zero =>
      rw [hk] at h1 h2
      simp only [zd, Option.some.injEq] at h1 h2
      subst h1
      subst h2
      exact hp
    | succ k =>
      rw [hk] at h1
      simp at h1
theorem PRs.set (h : PRs Z ts L) (hp : PR Z p q) (k : Nat) : PRs Z (ts.set k p) (L.set k q) := by
  refine ⟨by simp [h.len], fun i p' q' h1 h2 => ?_⟩
  rw [List.getElem?_set] at h1 h2
  by_cases hki : k = i
  · subst hki
    rw [if_pos rfl] at h1 h2
    split at h1
    · rw [if_pos (by have := h.len; omega)] at h2
      cases h1
      cases h2
      exact hp
    · cases h1
  · rw [if_neg hki] at h1 h2
    exact h.ea i p' q' h1 h2
theorem PRs.out (h : PRs Z ts L) (k : Nat) : PRs Z (ts.take k ++ ts.drop (k + 1)) (L.take k ++ L.drop (k + 1)) := by
  have hl := h.len
  refine ⟨by simp [hl], fun i p' q' h1 h2 => ?_⟩
  by_cases hi : i < (ts.take k).length
  · have hi2 : i < (L.take k).length := by simp at hi ⊢; omega
    rw [List.getElem?_append_left hi] at h1
    rw [List.getElem?_append_left hi2] at h2
    rw [List.getElem?_take] at h1 h2
    split at h1
    · rw [if_pos (by assumption)] at h2
      exact h.ea i p' q' h1 h2
    · cases h1
  · have hi2 : ¬ i < (L.take k).length := by simp at hi ⊢; omega
    have he : (L.take k).length = (ts.take k).length := by simp [hl]
    rw [List.getElem?_append_right (by omega), List.getElem?_drop] at h1
    rw [List.getElem?_append_right (by omega), List.getElem?_drop, he] at h2
    exact h.ea _ p' q' h1 h2
end
/-! ### what the calls come to -/
def isB (i : Int) (n : Nat) : Prop := 0 ≤ i ∧ i < n
instance (i : Int) (n : Nat) : Decidable (isB i n) := by unfold isB; exact inferInstance
def isO (call : ByteArray) (i : Int) (n : Nat) : Option (List LinkD × Nat) := if isB i n then none else some ([⟨⟨#[98, 97, 103]⟩, call, atV i⟩], 2)
def isC (i : Int) (n : Nat) : Int := if isB i n then 0 else 2
def is1 (i : Int) (n : Nat) : Int := if isB i n then 1 else 0
def outI {α : Type} (i : Int) (l : List α) : List α := if isB i l.length then l.take i.toNat ++ l.drop (i.toNat + 1) else l
def lookQ (L : List Par) (i : Int) : Par := if isB i L.length then (L[i.toNat]?).getD ⟨0, 0, 0, []⟩ else ⟨0, 0, 0, []⟩
def douO (i m : Int) (n : Nat) : Option (List LinkD × Nat) := if isB i n then (if m ≤ n then some ([⟨⟨#[98, 97, 103]⟩, ⟨#[68, 111, 117, 98, 108, 101]⟩, atV i⟩], 13) else none) else some ([⟨⟨#[98, 97, 103]⟩, ⟨#[68, 111, 117, 98, 108, 101]⟩, atV i⟩], 2)
def dou1 (i m : Int) (n : Nat) : Int := if isB i n ∧ (n : Int) < m then 1 else 0
def douL (i m : Int) (L : List Par) : List Par := if isB i L.length ∧ (L.length : Int) < m then L ++ [lookQ L i] else L
def swaO (i j : Int) (n : Nat) : Option (List LinkD × Nat) := if isB i n ∧ isB j n then none else some ([⟨⟨#[98, 97, 103]⟩, ⟨#[83, 119, 97, 112]⟩, atV (if isB i n then j else i)⟩], 2)
def swaI {α : Type} (i j : Int) (l : List α) : List α := if isB i l.length ∧ isB j l.length then (match l[i.toNat]?, l[j.toNat]? with | some p, some q => (l.set i.toNat q).set j.toNat p | _, _ => l) else l
def senO (f t m : Int) (n : Nat) : Option (List LinkD × Nat) := if endsB f t = false then some ([⟨⟨#[98, 97, 103]⟩, ⟨#[83, 101, 110, 100]⟩, atV t⟩], 1) else if m ≤ n then some ([⟨⟨#[98, 97, 103]⟩, ⟨#[83, 101, 110, 100]⟩, atV t⟩], 13) else none
def sen1 (f t m : Int) (n : Nat) : Int := if endsB f t = true ∧ (n : Int) < m then 1 else 0
def senX (f t : Int) : Int := if endsB f t = true then 1 else 0
def senZ (f t m : Int) (n : Nat) : Int := if endsB f t = true ∧ m ≤ n then 1 else 0
def senN (f t m s : Int) (n : Nat) : Int := if endsB f t = true ∧ (n : Int) < m then s + 1 else 0
def senL (f t m s : Int) (l : List Int) (L : List Par) : List Par := if endsB f t = true ∧ (L.length : Int) < m then L ++ [⟨s + 1, f, t, l⟩] else L
theorem PRs.outI {Z : HP} {ts : List PclD} {L : List Par} (h : PRs Z ts L) (i : Int) : PRs Z (outI i ts) (outI i L) := by
  unfold Proofs.YtlgjippijbepkaaDoor.outI
  rw [h.len]
  split
  · exact h.out _
  · exact h
theorem PRs.lookQ {Z : HP} {ts : List PclD} {L : List Par} (h : PRs Z ts L) {i : Nat} {p : PclD} (hi : ts[i]? = some p) : PR Z p (lookQ L i) := by
  obtain ⟨q, hq, hr⟩ := h.get hi
  have : isB i L.length := ⟨by omega, by have := (List.getElem?_eq_some_iff.1 hq).1; omega⟩
  unfold Proofs.YtlgjippijbepkaaDoor.lookQ
  rw [if_pos this, show (i : Int).toNat = i by omega, hq]
  exact hr
theorem PRs.swaI {Z : HP} {ts : List PclD} {L : List Par} (h : PRs Z ts L) (i j : Int) : PRs Z (swaI i j ts) (swaI i j L) := by
  unfold Proofs.YtlgjippijbepkaaDoor.swaI
  rw [h.len]
  split
  · rename_i hij
    obtain ⟨⟨i1, i2⟩, j1, j2⟩ := hij
    have hl := h.len
    have e1 : ts[i.toNat]? = some (ts[i.toNat]'(by omega)) := List.getElem?_eq_getElem _
    have e2 : ts[j.toNat]? = some (ts[j.toNat]'(by omega)) := List.getElem?_eq_getElem _
    obtain ⟨q1, f1, r1⟩ := h.get e1
    obtain ⟨q2, f2, r2⟩ := h.get e2
    rw [e1, e2, f1, f2]
    exact (h.set r2 _).set r1 _
  · exact h

/-! ### returns -/
theorem retP {c0 w : World} {H : HP} {fn : Func} {a : Act} {p : Tmp} {post : Value → HP} {x : PclD} {g : Nat} (hs : Sat c0 H w) (hr : fn.results = #[.cell p 37]) (hp : a.tmps.getD p undef = .pointer (some ⟨g, 0, none⟩)) (hw : Reads H g 0 4 (pcl x)) (hdf : a.defers = []) (h : Ent H (post (.agg (pcl x)))) :
    bodyPost Tryd.prog fn (fun e w' => ∃ v, e = .returned v ∧ Sat c0 (post v) w') .ret a w :=
  ret_cell (n := 4) hr Tryd.underlying37 rfl (by kernel_rfl) g hp _ (hw w hs.own) hdf ⟨_, rfl, hs.mono h⟩
theorem retTN {c0 w : World} {H : HP} {fn : Func} {a : Act} {p u : Tmp} {post : Value → HP} {x : NoD} {g : Nat} (hs : Sat c0 H w) (hr : fn.results = #[.tmp u, .cell p 51]) (hp : a.tmps.getD p undef = .pointer (some ⟨g, 0, none⟩)) (hw : Reads H g 0 3 (nov x)) (hdf : a.defers = [])
    (h : Ent H (post (.tuple #[a.tmps.getD u undef, .agg (nov x)]))) : bodyPost Tryd.prog fn (fun e w' => ∃ v, e = .returned v ∧ Sat c0 (post v) w') .ret a w :=
  ret_tmp_cell (n := 3) hr Tryd.underlying51 rfl (by kernel_rfl) g hp _ (hw w hs.own) hdf ⟨_, rfl, hs.mono h⟩
theorem retPN {c0 w : World} {H : HP} {fn : Func} {a : Act} {p u : Tmp} {post : Value → HP} {x : NoD} {y : PclD} {g g' : Nat} (hs : Sat c0 H w) (hr : fn.results = #[.cell u 37, .cell p 51]) (hu : a.tmps.getD u undef = .pointer (some ⟨g', 0, none⟩)) (hp : a.tmps.getD p undef = .pointer (some ⟨g, 0, none⟩)) (hw' : Reads H g' 0 4 (pcl y)) (hw : Reads H g 0 3 (nov x)) (hdf : a.defers = [])
    (h : Ent H (post (.tuple #[.agg (pcl y), .agg (nov x)]))) : bodyPost Tryd.prog fn (fun e w' => ∃ v, e = .returned v ∧ Sat c0 (post v) w') .ret a w :=
  ret_cell_cell (n := 4) (m := 3) hr Tryd.underlying37 rfl (by kernel_rfl) Tryd.underlying51 rfl (by kernel_rfl) g' hu g hp _ (hw' w hs.own) _ (hw w hs.own) hdf ⟨_, rfl, hs.mono h⟩

/-! ### the row -/
abbrev rbgB (g : Nat) (b : RbgD) : HP := blk g (.cells (rbg b) 66 (0, 0))
/-- The document's bag. -/
def rbgP (g : Nat) (m n : Int) (us : List PclD) (x y z d : Int) : HP := ex fun v : SlD => rbgB g ⟨m, n, v.p, v.n, v.c, x, y, z, d⟩ * row 37 4 pcl (.slice v.p v.n v.c) us
theorem rbg_open {g : Nat} {m n : Int} {us : List PclD} {x y z d : Int} {F : HP} {c0 w : World} (hs : Sat c0 (rbgP g m n us x y z d * F) w) :
    ∃ A c, us.length ≤ c ∧ c ≤ maxLen ∧ Sat c0 (rbgB g ⟨m, n, A, us.length, c, x, y, z, d⟩ * (row 37 4 pcl (.slice A us.length c) us * F)) w := by
  unfold rbgP at hs
  rw [ex_star] at hs
  obtain ⟨v, hs⟩ := hs.ex
  rw [star_assoc] at hs
  obtain ⟨A, c, hv, h1, h2⟩ := row_slice (hs.own.mono ent_left)
  obtain ⟨h5, h6, h7⟩ := sl_inj hv
  rw [h5, h6, h7] at hs
  exact ⟨A, c, h1, h2, hs⟩
theorem rbg_shut {g k : Nat} {m n : Int} {us : List PclD} {x y z d : Int} {F : HP} {A : Option Addr} {c : Nat} : Ent (rbgB g ⟨m, n, A, k, c, x, y, z, d⟩ * (row 37 4 pcl (.slice A k c) us * F)) (rbgP g m n us x y z d * F) := by
  unfold rbgP
  rw [ex_star]
  refine ent_ex ⟨A, k, c⟩ ?_
  rw [star_assoc]
  exact ent_refl
theorem rbg_new {g : Nat} {m n x y z d : Int} {F : HP} : Ent (rbgB g ⟨m, n, none, 0, 0, x, y, z, d⟩ * F) (rbgP g m n [] x y z d * F) := ent_trans (star_mono ent_refl ent_row_nil) rbg_shut
theorem rnew_s (c0 : World) (F : HP) (m : Int) : Spec Tryd.prog c0 26 #[.int .i64 m] (pu (0 ≤ m ∧ m ≤ 4096) F) (fun r => ex fun g => pu (r = .tuple #[.pointer (some ⟨g, 0, none⟩), .agg (nov nov0)]) (rbgP g m 1 [] 0 0 0 0 * F)) := by
  intro w hq; obtain ⟨⟨h0, h1⟩, hs⟩ := hq.pu; clear hq
  go_enter Tryd.func26, Tryd.ntmps26
  go_wp2_with (first
        | ((with_reducible apply pl_guard_f); (focus rfl); (focus rfl); all_goals (intro hb; first | (cases hb; done) | ((try simp at hb); first | contradiction | ((have hF : False := (by omega)); (cases hF; done)) | (simp only [Act.put, zg, zh, zi]))))
        | ((with_reducible apply pl_build hs); (focus (simp only [zj, zk, zl, Act.eval, za, zb, zc, zd, ze, zf]; (try with_reducible rfl); done)); (first | (with_reducible exact bld_3) | (with_reducible exact bld_7 _ _)); (focus rfl); simp only [Act.put, zg, zh, zi])
        | ((with_reducible apply pl_alloc hs); (with_reducible (first | exact zero_51)); clear hs; (try clear w); intro g w hs; skip; simp only [Act.put, zg, zh, zi])
        | ((with_reducible apply pl_box hs); (focus (simp only [Act.eval, za, zb, zc, zd, ze, zf]; (try with_reducible rfl); done)); (focus (first | (with_reducible (first | exact cells_intv _ | exact cells_bytv _ | exact cells_agg _ | exact cells_int _ _ | exact cells_bool _ | exact cells_string _ | exact cells_slice _ _ _ | exact cells_pointer _ | exact cells_map _ | exact cells_iface _ _ | exact cells_nilIface | exact cells_func _ _ _)) | (exact cells_one (by assumption)))); clear hs; (try clear w); intro g w hs; skip; simp only [Act.put, zg, zh, zi])
        | ((with_reducible apply pl_storeN hs); (focus (simp only [Act.eval, za, zb, zc, zd, ze, zf]; (try with_reducible rfl); done)); (focus (simp only [Act.eval, za, zb, zc, zd, ze, zf]; (try with_reducible rfl); done)); (with_reducible (first | exact agg_51)); (focus with_reducible (repeat (first | exact ent_here | apply ent_next | exact ent_last)); done); (focus (first | (with_reducible rfl) | (simp only [go_sem]; done) | (simp; done))); (focus (first | (simp [go_sem]; done) | (simp only [go_sem]; omega) | go_size)); (focus (first | (simp only [go_sem]; done) | (simp [go_sem]; done))); (focus (first | ((with_reducible apply splice_whole); (focus (first | (with_reducible rfl) | (simp only [go_sem]; done) | (simp; done)))) | (simp [splice, go_sem]; done) | (simp only [go_sem]; (try with_reducible rfl); done))); clear hs; (try clear w); intro w hs; (try simp only [zg, zh, zi, pcl_s0, pcl_s1, pcl_s2, pcl_s3, opg_s0, opg_s1, opg_s2, opg_s3, bgv_s0, bgv_s1, bgv_s2, bgv_s3, bgv_s4, bgv_s5, bgv_s6, rbg_s0, rbg_s1, rbg_s2, rbg_s3, rbg_s4, rbg_s5, rbg_s6, prv_s0, prv_s1, lnk_s0, lnk_s1, lnk_s2, nov_s0, nov_s1, nov_s2, intv_set, bytv_set] at hs); simp only [Act.put, zg, zh, zi]))
  exact retTN (x := ⟨0, none, 0, 0, none, 0, 0⟩) hs rfl rfl (by (focus ((repeat (first | (with_reducible (first | assumption | exact hel _ | exact hel2 _ | exact hel3 _)) | ((with_reducible apply reads_whole); (focus (first | (with_reducible rfl) | (simp only [go_sem]; done) | (simp; done)))) | ((with_reducible apply reads_part); (focus (first | (simp [go_sem]; done) | (simp only [go_sem]; omega) | go_size)); (focus (first | (simp only [Nat.reduceAdd, Nat.zero_add, go_sem]; (try with_reducible rfl); done) | (simp [go_sem]; (try with_reducible rfl); done)))) | (with_reducible (first | (apply reads_left; assumption) | refine reads_exh (by assumption) ?_ | refine reads_exh0 (by assumption) ?_ | apply reads_next)))); done))) rfl (ent_ex _ (ent_pu rfl (ent_trans (by ((repeat (first | (with_reducible (first | exact ent_refl | exact ent_emp)) | ((with_reducible apply ent_front); (focus with_reducible (repeat (first | exact ent_here | apply ent_next | exact ent_last)); done)) | (with_reducible (first | exact ent_keep | apply ent_trans ent_drop)))); done)) rbg_new)))
theorem rnewE_s (c0 : World) (F : HP) (m : Int) : Spec Tryd.prog c0 26 #[.int .i64 m] (pu (¬ (0 ≤ m ∧ m ≤ 4096)) F) (fun r => ex fun e : NoD => pu (r = .tuple #[.pointer none, .agg (nov e)]) (NoP (some ([⟨⟨#[98, 97, 103]⟩, ⟨#[78, 101, 119]⟩, atV m⟩], 1)) e * F)) := by
  intro w hq; obtain ⟨hm, hs⟩ := hq.pu; clear hq
  by_cases h0 : m < 0
  · go_enter Tryd.func26, Tryd.ntmps26
    go_wp2_with (first
        | ((with_reducible apply pl_call hs (sayK_s _ _ _ _ _ _ 1)); (go_must (((focus (simp only [zj, zk, zl, List.append_toArray, List.nil_append, List.cons_append, Act.eval, za, zb, zc, zd, ze, zf]; (try with_reducible rfl); done)); (focus ((repeat (first | (with_reducible (first | exact ent_refl | apply ent_puR)) | ((with_reducible apply ent_front); (focus with_reducible (repeat (first | exact ent_here | apply ent_next | exact ent_last)); done)) | (with_reducible (first | exact ent_keep | apply ent_trans ent_drop)) | (focus (first | ((repeat' (first | (with_reducible apply And.intro) | omega)); done))))); done)); (focus (simp only [go_sem]))))); clear hs; (try clear w); intro v w hq; (obtain ⟨e, hq1⟩ := hq.ex; obtain ⟨rfl, hs⟩ := hq1.pu; clear hq1); clear hq; (try simp only [star_assoc, star_emp, emp_star] at hs); (try simp only [Act.put, zg, zh, zi]))
        | ((with_reducible apply pl_alloc hs); (with_reducible (first | exact zero_51)); clear hs; (try clear w); intro g w hs; skip; simp only [Act.put, zg, zh, zi])
        | ((with_reducible apply pl_storeN hs); (focus (simp only [Act.eval, za, zb, zc, zd, ze, zf]; (try with_reducible rfl); done)); (focus (simp only [Act.eval, za, zb, zc, zd, ze, zf]; (try with_reducible rfl); done)); (with_reducible (first | exact agg_51)); (focus with_reducible (repeat (first | exact ent_here | apply ent_next | exact ent_last)); done); (focus (first | (with_reducible rfl) | (simp only [go_sem]; done) | (simp; done))); (focus (first | (simp [go_sem]; done) | (simp only [go_sem]; omega) | go_size)); (focus (first | (simp only [go_sem]; done) | (simp [go_sem]; done))); (focus (first | ((with_reducible apply splice_whole); (focus (first | (with_reducible rfl) | (simp only [go_sem]; done) | (simp; done)))) | (simp [splice, go_sem]; done) | (simp only [go_sem]; (try with_reducible rfl); done))); clear hs; (try clear w); intro w hs; (try simp only [zg, zh, zi, pcl_s0, pcl_s1, pcl_s2, pcl_s3, opg_s0, opg_s1, opg_s2, opg_s3, bgv_s0, bgv_s1, bgv_s2, bgv_s3, bgv_s4, bgv_s5, bgv_s6, rbg_s0, rbg_s1, rbg_s2, rbg_s3, rbg_s4, rbg_s5, rbg_s6, prv_s0, prv_s1, lnk_s0, lnk_s1, lnk_s2, nov_s0, nov_s1, nov_s2, intv_set, bytv_set] at hs); simp only [Act.put, zg, zh, zi]))
    exact retTN hs rfl rfl (by (focus ((repeat (first | (with_reducible (first | assumption | exact hel _ | exact hel2 _ | exact hel3 _)) | ((with_reducible apply reads_whole); (focus (first | (with_reducible rfl) | (simp only [go_sem]; done) | (simp; done)))) | ((with_reducible apply reads_part); (focus (first | (simp [go_sem]; done) | (simp only [go_sem]; omega) | go_size)); (focus (first | (simp only [Nat.reduceAdd, Nat.zero_add, go_sem]; (try with_reducible rfl); done) | (simp [go_sem]; (try with_reducible rfl); done)))) | (with_reducible (first | (apply reads_left; assumption) | refine reads_exh (by assumption) ?_ | refine reads_exh0 (by assumption) ?_ | apply reads_next)))); done))) rfl (ent_ex e (ent_pu rfl (by ((repeat (first | (with_reducible (first | exact ent_refl | exact ent_emp)) | ((with_reducible apply ent_front); (focus with_reducible (repeat (first | exact ent_here | apply ent_next | exact ent_last)); done)) | (with_reducible (first | exact ent_keep | apply ent_trans ent_drop)))); done))))
  · have h1 : 4096 < m := by omega
    go_enter Tryd.func26, Tryd.ntmps26
    go_wp2_with (first
        | ((with_reducible rewrite [pl_strike_eq]); rotate_left 1; (focus rfl))
        | ((with_reducible apply pl_call hs (sayK_s _ _ _ _ _ _ 1)); (go_must (((focus (simp only [zj, zk, zl, List.append_toArray, List.nil_append, List.cons_append, Act.eval, za, zb, zc, zd, ze, zf]; (try with_reducible rfl); done)); (focus ((repeat (first | (with_reducible (first | exact ent_refl | apply ent_puR)) | ((with_reducible apply ent_front); (focus with_reducible (repeat (first | exact ent_here | apply ent_next | exact ent_last)); done)) | (with_reducible (first | exact ent_keep | apply ent_trans ent_drop)) | (focus (first | ((repeat' (first | (with_reducible apply And.intro) | omega)); done))))); done)); (focus (simp only [go_sem]))))); clear hs; (try clear w); intro v w hq; (obtain ⟨e, hq1⟩ := hq.ex; obtain ⟨rfl, hs⟩ := hq1.pu; clear hq1); clear hq; (try simp only [star_assoc, star_emp, emp_star] at hs); (try simp only [Act.put, zg, zh, zi]))
        | ((with_reducible apply pl_alloc hs); (with_reducible (first | exact zero_51)); clear hs; (try clear w); intro g w hs; skip; simp only [Act.put, zg, zh, zi])
        | ((with_reducible apply pl_storeN hs); (focus (simp only [Act.eval, za, zb, zc, zd, ze, zf]; (try with_reducible rfl); done)); (focus (simp only [Act.eval, za, zb, zc, zd, ze, zf]; (try with_reducible rfl); done)); (with_reducible (first | exact agg_51)); (focus with_reducible (repeat (first | exact ent_here | apply ent_next | exact ent_last)); done); (focus (first | (with_reducible rfl) | (simp only [go_sem]; done) | (simp; done))); (focus (first | (simp [go_sem]; done) | (simp only [go_sem]; omega) | go_size)); (focus (first | (simp only [go_sem]; done) | (simp [go_sem]; done))); (focus (first | ((with_reducible apply splice_whole); (focus (first | (with_reducible rfl) | (simp only [go_sem]; done) | (simp; done)))) | (simp [splice, go_sem]; done) | (simp only [go_sem]; (try with_reducible rfl); done))); clear hs; (try clear w); intro w hs; (try simp only [zg, zh, zi, pcl_s0, pcl_s1, pcl_s2, pcl_s3, opg_s0, opg_s1, opg_s2, opg_s3, bgv_s0, bgv_s1, bgv_s2, bgv_s3, bgv_s4, bgv_s5, bgv_s6, rbg_s0, rbg_s1, rbg_s2, rbg_s3, rbg_s4, rbg_s5, rbg_s6, prv_s0, prv_s1, lnk_s0, lnk_s1, lnk_s2, nov_s0, nov_s1, nov_s2, intv_set, bytv_set] at hs); simp only [Act.put, zg, zh, zi]))
    exact retTN hs rfl rfl (by (focus ((repeat (first | (with_reducible (first | assumption | exact hel _ | exact hel2 _ | exact hel3 _)) | ((with_reducible apply reads_whole); (focus (first | (with_reducible rfl) | (simp only [go_sem]; done) | (simp; done)))) | ((with_reducible apply reads_part); (focus (first | (simp [go_sem]; done) | (simp only [go_sem]; omega) | go_size)); (focus (first | (simp only [Nat.reduceAdd, Nat.zero_add, go_sem]; (try with_reducible rfl); done) | (simp [go_sem]; (try with_reducible rfl); done)))) | (with_reducible (first | (apply reads_left; assumption) | refine reads_exh (by assumption) ?_ | refine reads_exh0 (by assumption) ?_ | apply reads_next)))); done))) rfl (ent_ex e (ent_pu rfl (by ((repeat (first | (with_reducible (first | exact ent_refl | exact ent_emp)) | ((with_reducible apply ent_front); (focus with_reducible (repeat (first | exact ent_here | apply ent_next | exact ent_last)); done)) | (with_reducible (first | exact ent_keep | apply ent_trans ent_drop)))); done))))
theorem is_s (c0 : World) (F : HP) (g : Nat) (m n i : Int) (us : List PclD) (x y z d : Int) (call : ByteArray) : Spec Tryd.prog c0 63 #[.pointer (some ⟨g, 0, none⟩), .string call, .int .i64 i] (rbgP g m n us x y z d * F)
    (fun r => ex fun e : NoD => pu (r = .agg (nov e) ∧ e.code = isC i us.length) (NoP (isO call i us.length) e * (rbgP g m n us x y z d * F))) := by
  intro w hs
  obtain ⟨A, c, h1, h2, hs⟩ := rbg_open hs
  unfold isC isO
  by_cases hi : isB i us.length
  · simp only [if_pos hi]
    obtain ⟨i1, i2⟩ := hi
    go_enter Tryd.func63, Tryd.ntmps63
    go_wp2_with (first
        | ((with_reducible rewrite [pl_strike_eq]); rotate_left 1; (focus rfl))
        | ((with_reducible apply pl_guard_f); (focus rfl); (focus rfl); all_goals (intro hb; first | (cases hb; done) | ((try simp at hb); first | contradiction | ((have hF : False := (by omega)); (cases hF; done)) | (simp only [Act.put, zg, zh, zi]))))
        | ((with_reducible apply pl_load1 hs); (focus (simp only [Act.eval, za, zb, zc, zd, ze, zf]; (try with_reducible rfl); done)); (focus (simp only [go_sem])); (focus ((repeat (first | (with_reducible (first | assumption | exact hec _ | exact hec2 _ | exact hec3 _ | exact hec4 _ _)) | ((with_reducible apply readc_here); (focus (first | (simp only [zc, zd, ze, go_sem]; (try with_reducible rfl); done) | (go_simp; (try with_reducible rfl); done)))) | (with_reducible (first | (apply readc_left; assumption) | refine readc_exh (by assumption) ?_ | refine readc_exh0 (by assumption) ?_ | apply readc_next)))); done)); (focus rfl); simp only [Act.put, zg, zh, zi])
        | ((with_reducible apply pl_build hs); (focus (simp only [zj, zk, zl, Act.eval, za, zb, zc, zd, ze, zf]; (try with_reducible rfl); done)); (first | (with_reducible exact bld_3)); (focus rfl); simp only [Act.put, zg, zh, zi])
        | ((with_reducible apply pl_alloc hs); (with_reducible (first | exact zero_51)); clear hs; (try clear w); intro g w hs; skip; simp only [Act.put, zg, zh, zi])
        | ((with_reducible apply pl_storeN hs); (focus (simp only [Act.eval, za, zb, zc, zd, ze, zf]; (try with_reducible rfl); done)); (focus (simp only [Act.eval, za, zb, zc, zd, ze, zf]; (try with_reducible rfl); done)); (with_reducible (first | exact agg_51)); (focus with_reducible (repeat (first | exact ent_here | apply ent_next | exact ent_last)); done); (focus (first | (with_reducible rfl) | (simp only [go_sem]; done) | (simp; done))); (focus (first | (simp [go_sem]; done) | (simp only [go_sem]; omega) | go_size)); (focus (first | (simp only [go_sem]; done) | (simp [go_sem]; done))); (focus (first | ((with_reducible apply splice_whole); (focus (first | (with_reducible rfl) | (simp only [go_sem]; done) | (simp; done)))) | (simp [splice, go_sem]; done) | (simp only [go_sem]; (try with_reducible rfl); done))); clear hs; (try clear w); intro w hs; (try simp only [zg, zh, zi, pcl_s0, pcl_s1, pcl_s2, pcl_s3, opg_s0, opg_s1, opg_s2, opg_s3, bgv_s0, bgv_s1, bgv_s2, bgv_s3, bgv_s4, bgv_s5, bgv_s6, rbg_s0, rbg_s1, rbg_s2, rbg_s3, rbg_s4, rbg_s5, rbg_s6, prv_s0, prv_s1, lnk_s0, lnk_s1, lnk_s2, nov_s0, nov_s1, nov_s2, intv_set, bytv_set] at hs); simp only [Act.put, zg, zh, zi]))
    refine retNo (x := ⟨0, none, 0, 0, none, 0, 0⟩) hs rfl rfl (by (focus ((repeat (first | (with_reducible (first | assumption | exact hel _ | exact hel2 _ | exact hel3 _)) | ((with_reducible apply reads_whole); (focus (first | (with_reducible rfl) | (simp only [go_sem]; done) | (simp; done)))) | ((with_reducible apply reads_part); (focus (first | (simp [go_sem]; done) | (simp only [go_sem]; omega) | go_size)); (focus (first | (simp only [Nat.reduceAdd, Nat.zero_add, go_sem]; (try with_reducible rfl); done) | (simp [go_sem]; (try with_reducible rfl); done)))) | (with_reducible (first | (apply reads_left; assumption) | refine reads_exh (by assumption) ?_ | refine reads_exh0 (by assumption) ?_ | apply reads_next)))); done))) rfl (ent_ex nov0 (ent_pu ⟨rfl, rfl⟩ ?_))
    unfold NoP
    rw [pu_star, emp_star]
    exact ent_pu rfl (ent_trans (by ((repeat (first | (with_reducible (first | exact ent_refl | exact ent_emp)) | ((with_reducible apply ent_front); (focus with_reducible (repeat (first | exact ent_here | apply ent_next | exact ent_last)); done)) | (with_reducible (first | exact ent_keep | apply ent_trans ent_drop)))); done)) rbg_shut)
  · simp only [if_neg hi]
    unfold isB at hi
    by_cases h0 : i < 0
    · go_enter Tryd.func63, Tryd.ntmps63
      go_wp2_with (first
        | ((with_reducible apply pl_call hs (sayK_s _ _ _ _ _ _ 2)); (go_must (((focus (simp only [zj, zk, zl, List.append_toArray, List.nil_append, List.cons_append, Act.eval, za, zb, zc, zd, ze, zf]; (try with_reducible rfl); done)); (focus ((repeat (first | (with_reducible (first | exact ent_refl | apply ent_puR)) | ((with_reducible apply ent_front); (focus with_reducible (repeat (first | exact ent_here | apply ent_next | exact ent_last)); done)) | (with_reducible (first | exact ent_keep | apply ent_trans ent_drop)) | (focus (first | ((repeat' (first | (with_reducible apply And.intro) | omega)); done))))); done)); (focus (simp only [go_sem]))))); clear hs; (try clear w); intro v w hq; (obtain ⟨e, hq1⟩ := hq.ex; obtain ⟨rfl, hs⟩ := hq1.pu; clear hq1; have hcd := (noP_some hs).1); clear hq; (try simp only [star_assoc, star_emp, emp_star] at hs); (try simp only [Act.put, zg, zh, zi]))
        | ((with_reducible apply pl_alloc hs); (with_reducible (first | exact zero_51)); clear hs; (try clear w); intro g w hs; skip; simp only [Act.put, zg, zh, zi])
        | ((with_reducible apply pl_storeN hs); (focus (simp only [Act.eval, za, zb, zc, zd, ze, zf]; (try with_reducible rfl); done)); (focus (simp only [Act.eval, za, zb, zc, zd, ze, zf]; (try with_reducible rfl); done)); (with_reducible (first | exact agg_51)); (focus with_reducible (repeat (first | exact ent_here | apply ent_next | exact ent_last)); done); (focus (first | (with_reducible rfl) | (simp only [go_sem]; done) | (simp; done))); (focus (first | (simp [go_sem]; done) | (simp only [go_sem]; omega) | go_size)); (focus (first | (simp only [go_sem]; done) | (simp [go_sem]; done))); (focus (first | ((with_reducible apply splice_whole); (focus (first | (with_reducible rfl) | (simp only [go_sem]; done) | (simp; done)))) | (simp [splice, go_sem]; done) | (simp only [go_sem]; (try with_reducible rfl); done))); clear hs; (try clear w); intro w hs; (try simp only [zg, zh, zi, pcl_s0, pcl_s1, pcl_s2, pcl_s3, opg_s0, opg_s1, opg_s2, opg_s3, bgv_s0, bgv_s1, bgv_s2, bgv_s3, bgv_s4, bgv_s5, bgv_s6, rbg_s0, rbg_s1, rbg_s2, rbg_s3, rbg_s4, rbg_s5, rbg_s6, prv_s0, prv_s1, lnk_s0, lnk_s1, lnk_s2, nov_s0, nov_s1, nov_s2, intv_set, bytv_set] at hs); simp only [Act.put, zg, zh, zi]))
      exact retNo hs rfl rfl (by (focus ((repeat (first | (with_reducible (first | assumption | exact hel _ | exact hel2 _ | exact hel3 _)) | ((with_reducible apply reads_whole); (focus (first | (with_reducible rfl) | (simp only [go_sem]; done) | (simp; done)))) | ((with_reducible apply reads_part); (focus (first | (simp [go_sem]; done) | (simp only [go_sem]; omega) | go_size)); (focus (first | (simp only [Nat.reduceAdd, Nat.zero_add, go_sem]; (try with_reducible rfl); done) | (simp [go_sem]; (try with_reducible rfl); done)))) | (with_reducible (first | (apply reads_left; assumption) | refine reads_exh (by assumption) ?_ | refine reads_exh0 (by assumption) ?_ | apply reads_next)))); done))) rfl (ent_ex e (ent_pu ⟨rfl, hcd⟩ (ent_trans (by ((repeat (first | (with_reducible (first | exact ent_refl | exact ent_emp)) | ((with_reducible apply ent_front); (focus with_reducible (repeat (first | exact ent_here | apply ent_next | exact ent_last)); done)) | (with_reducible (first | exact ent_keep | apply ent_trans ent_drop)))); done)) (star_mono ent_refl rbg_shut))))
    · have h3 : (us.length : Int) ≤ i := by omega
      go_enter Tryd.func63, Tryd.ntmps63
      go_wp2_with (first
        | ((with_reducible rewrite [pl_strike_eq]); rotate_left 1; (focus rfl))
        | ((with_reducible apply pl_call hs (sayK_s _ _ _ _ _ _ 2)); (go_must (((focus (simp only [zj, zk, zl, List.append_toArray, List.nil_append, List.cons_append, Act.eval, za, zb, zc, zd, ze, zf]; (try with_reducible rfl); done)); (focus ((repeat (first | (with_reducible (first | exact ent_refl | apply ent_puR)) | ((with_reducible apply ent_front); (focus with_reducible (repeat (first | exact ent_here | apply ent_next | exact ent_last)); done)) | (with_reducible (first | exact ent_keep | apply ent_trans ent_drop)) | (focus (first | ((repeat' (first | (with_reducible apply And.intro) | omega)); done))))); done)); (focus (simp only [go_sem]))))); clear hs; (try clear w); intro v w hq; (obtain ⟨e, hq1⟩ := hq.ex; obtain ⟨rfl, hs⟩ := hq1.pu; clear hq1; have hcd := (noP_some hs).1); clear hq; (try simp only [star_assoc, star_emp, emp_star] at hs); (try simp only [Act.put, zg, zh, zi]))
        | ((with_reducible apply pl_load1 hs); (focus (simp only [Act.eval, za, zb, zc, zd, ze, zf]; (try with_reducible rfl); done)); (focus (simp only [go_sem])); (focus ((repeat (first | (with_reducible (first | assumption | exact hec _ | exact hec2 _ | exact hec3 _ | exact hec4 _ _)) | ((with_reducible apply readc_here); (focus (first | (simp only [zc, zd, ze, go_sem]; (try with_reducible rfl); done) | (go_simp; (try with_reducible rfl); done)))) | (with_reducible (first | (apply readc_left; assumption) | refine readc_exh (by assumption) ?_ | refine readc_exh0 (by assumption) ?_ | apply readc_next)))); done)); (focus rfl); simp only [Act.put, zg, zh, zi])
        | ((with_reducible apply pl_alloc hs); (with_reducible (first | exact zero_51)); clear hs; (try clear w); intro g w hs; skip; simp only [Act.put, zg, zh, zi])
        | ((with_reducible apply pl_storeN hs); (focus (simp only [Act.eval, za, zb, zc, zd, ze, zf]; (try with_reducible rfl); done)); (focus (simp only [Act.eval, za, zb, zc, zd, ze, zf]; (try with_reducible rfl); done)); (with_reducible (first | exact agg_51)); (focus with_reducible (repeat (first | exact ent_here | apply ent_next | exact ent_last)); done); (focus (first | (with_reducible rfl) | (simp only [go_sem]; done) | (simp; done))); (focus (first | (simp [go_sem]; done) | (simp only [go_sem]; omega) | go_size)); (focus (first | (simp only [go_sem]; done) | (simp [go_sem]; done))); (focus (first | ((with_reducible apply splice_whole); (focus (first | (with_reducible rfl) | (simp only [go_sem]; done) | (simp; done)))) | (simp [splice, go_sem]; done) | (simp only [go_sem]; (try with_reducible rfl); done))); clear hs; (try clear w); intro w hs; (try simp only [zg, zh, zi, pcl_s0, pcl_s1, pcl_s2, pcl_s3, opg_s0, opg_s1, opg_s2, opg_s3, bgv_s0, bgv_s1, bgv_s2, bgv_s3, bgv_s4, bgv_s5, bgv_s6, rbg_s0, rbg_s1, rbg_s2, rbg_s3, rbg_s4, rbg_s5, rbg_s6, prv_s0, prv_s1, lnk_s0, lnk_s1, lnk_s2, nov_s0, nov_s1, nov_s2, intv_set, bytv_set] at hs); simp only [Act.put, zg, zh, zi]))
      exact retNo hs rfl rfl (by (focus ((repeat (first | (with_reducible (first | assumption | exact hel _ | exact hel2 _ | exact hel3 _)) | ((with_reducible apply reads_whole); (focus (first | (with_reducible rfl) | (simp only [go_sem]; done) | (simp; done)))) | ((with_reducible apply reads_part); (focus (first | (simp [go_sem]; done) | (simp only [go_sem]; omega) | go_size)); (focus (first | (simp only [Nat.reduceAdd, Nat.zero_add, go_sem]; (try with_reducible rfl); done) | (simp [go_sem]; (try with_reducible rfl); done)))) | (with_reducible (first | (apply reads_left; assumption) | refine reads_exh (by assumption) ?_ | refine reads_exh0 (by assumption) ?_ | apply reads_next)))); done))) rfl (ent_ex e (ent_pu ⟨rfl, hcd⟩ (ent_trans (by ((repeat (first | (with_reducible (first | exact ent_refl | exact ent_emp)) | ((with_reducible apply ent_front); (focus with_reducible (repeat (first | exact ent_here | apply ent_next | exact ent_last)); done)) | (with_reducible (first | exact ent_keep | apply ent_trans ent_drop)))); done)) (star_mono ent_refl rbg_shut))))
theorem rcopied_s (c0 : World) (F : HP) (v : Value) (l : List Int) : Spec Tryd.prog c0 41 #[v] (pu (SlR F 1 bytv v l ∧ l.length ≤ 140737488355328) F)
    (fun r => ex fun A : Option Addr => ex fun c => pu (r = .slice A l.length c) (row 5 1 bytv (.slice A l.length c) l * F)) := by
  intro w hq; obtain ⟨⟨hsl, hl⟩, hs⟩ := hq.pu; clear hq
  obtain ⟨A, c, rfl⟩ := slr_form hsl hs.own
  go_enter Tryd.func41, Tryd.ntmps41
  go_wp2_with (first
        | ((with_reducible apply pl_bs0r hs); (with_reducible (first | exact app_31)); clear hs; (try clear w); intro g w hs; skip; simp only [Act.put, zg, zh, zi])
        | ((with_reducible apply pl_appendN hs); (with_reducible (first | exact app_22 | exact app_29 | exact app_30 | exact app_31 | exact app_49)); (focus (simp only [Act.eval, za, zb, zc, zd, ze, zf]; (try with_reducible rfl); done)); (first | (focus with_reducible (repeat (first | exact ent_here | apply ent_next | exact ent_last)); done) | (focus (with_reducible exact ent_row_nil)) | (focus ((with_reducible apply ent_row_of_blk); (focus with_reducible (repeat (first | exact ent_here | apply ent_next | exact ent_last)); done); (focus (simp only [go_sem]))))); (focus (simp only [Act.eval, za, zb, zc, zd, ze, zf]; (try with_reducible rfl); done)); (focus (first | ((repeat (first | (with_reducible (first | assumption | exact slr_ro |  exact hsl _ | exact hsl2 _ | exact hsl3 _ _ _ | exact slr_nil | exact slr_row (fun _ => by simp only [go_sem]) | exact slr_one (fun _ => by simp only [go_sem]) | (apply slr_left; assumption))) | (with_reducible apply slr_next))); done) | ((repeat (first | (with_reducible (first | assumption | exact slr_ro |  exact hsl _ | exact hsl2 _ | exact hsl3 _ _ _ | exact slr_nil | exact slr_row (fun _ => by simp only [go_sem]) | exact slr_one (fun _ => by simp only [go_sem]) | (apply slr_left; assumption))) | (with_reducible (first | (apply slr_exh; focus assumption) | (apply slr_exh0; focus assumption) | apply slr_next)))); done))); (focus (first | (simp only [maxLen] at *; omega) | (simp [maxLen] at *; omega))); (focus (first | (simp only [maxLen] at *; omega) | (simp [maxLen] at *; omega))); clear hs; (try clear w); intro Ap cq w hs; (try simp only [List.length_nil, Nat.zero_add, List.nil_append] at hs ⊢); simp only [Act.put, zg, zh, zi]))
  (go_ret; simp only [za, zb, zc, zd, ze, zf])
  exact ⟨_, rfl, hs.mono (ent_ex _ (ent_ex _ (ent_pu rfl (by ((repeat (first | (with_reducible (first | exact ent_refl | exact ent_emp)) | ((with_reducible apply ent_front); (focus with_reducible (repeat (first | exact ent_here | apply ent_next | exact ent_last)); done)) | (with_reducible (first | exact ent_keep | apply ent_trans ent_drop)))); done)))))⟩
set_option maxRecDepth 20000 in
set_option maxHeartbeats 1000000 in
theorem rout_s (c0 : World) (F : HP) (g i : Nat) (m n : Int) (us : List PclD) (x y z d : Int) (p : PclD) : Spec Tryd.prog c0 64 #[.pointer (some ⟨g, 0, none⟩), .int .i64 i] (pu (us[i]? = some p ∧ us.length ≤ 1000000) (rbgP g m n us x y z d * F))
    (fun r => pu (r = .agg (pcl p)) (rbgP g m n (us.take i ++ us.drop (i + 1)) x y z d * F)) := by
  intro w hq; obtain ⟨⟨hp, hl⟩, hs⟩ := hq.pu; clear hq
  have hi : i < us.length := (List.getElem?_eq_some_iff.1 hp).1
  obtain ⟨A, c, h1, h2, hs⟩ := rbg_open hs
  unfold maxLen at h2
  obtain ⟨ga, q, rfl, hla, hel⟩ := row_at (E := 37) (A := A) (n := us.length) (cap := c) (i := i) (l := us) (hs.own.mono ent_left) pcl_size hi
  obtain rfl : p = q := Option.some.inj (hp.symm.trans hla)
  have hsl : ∀ R, SlR (row 37 4 pcl (.slice (some ⟨ga, 0, none⟩) us.length c) us * R) 4 pcl (.slice (some ⟨ga, 0, none⟩) i c) (us.take i) := fun R => slr_row_take pcl_size (by omega) rfl
  have htl : (us.take i).length ≤ 1000000 := by rw [List.length_take]; omega
  have hdl : (us.drop (i + 1)).length ≤ 1000000 := by rw [List.length_drop]; omega
  have hsl2 : ∀ R, SlR (row 37 4 pcl (.slice (some ⟨ga, 0, none⟩) us.length c) us * R) 4 pcl (.slice (if c = i + 1 then some ⟨ga, 0, none⟩ else some ⟨ga, (i + 1) * 4, none⟩) (us.length - (i + 1)) (c - (i + 1))) (us.drop (i + 1)) := fun R =>
    slr_drop (slr_row (R := R) (E := 37) (v := .slice (some ⟨ga, 0, none⟩) us.length c) (l := us) pcl_size) (i + 1) (by omega)
  by_cases hc : c = i + 1
  · rw [if_pos hc] at hsl2
    have hn : us.length = i + 1 := by omega
    rw [hn] at hs hsl hsl2
    subst hc
    generalize us.take i = m1 at *
    generalize us.drop (i + 1) = m2 at *
    rw [Nat.sub_self] at hsl2
    rw [hn] at hel
    clear hla hp hi h1
    replace hn := Lib.hid hn
    go_enter Tryd.func64, Tryd.ntmps64
    go_wp2_with (first
        | ((with_reducible apply wp_region_sl (G := emp) (id := 2) hs 19); (focus (exact ent_emp_l)); (focus kernel_rfl); (focus decide +kernel); clear hs; (try clear w); intro hR w hRR hs; (try simp only [star_assoc] at hs))
        | ((with_reducible apply pl_loadN hs); (focus (simp only [Act.eval, za, zb, zc, zd, ze, zf]; (try with_reducible rfl); done)); (with_reducible (first | exact agg_37)); (focus ((repeat (first | (with_reducible (first | assumption | exact hel _ | exact hel2 _ | exact hel3 _)) | ((with_reducible apply reads_whole); (focus (first | (with_reducible rfl) | (simp only [go_sem]; done) | (simp; done)))) | ((with_reducible apply reads_part); (focus (first | (simp [go_sem]; done) | (simp only [go_sem]; omega) | go_size)); (focus (first | (simp only [Nat.reduceAdd, Nat.zero_add, go_sem]; (try with_reducible rfl); done) | (simp [go_sem]; (try with_reducible rfl); done)))) | (with_reducible (first | (apply reads_left; assumption) | refine reads_exh (by assumption) ?_ | refine reads_exh0 (by assumption) ?_ | apply reads_next)))); done)); (focus rfl); simp only [Act.put, zg, zh, zi])
        | ((with_reducible apply pl_load1 hs); (focus (simp only [Act.eval, za, zb, zc, zd, ze, zf]; (try with_reducible rfl); done)); (focus (simp only [go_sem])); (focus ((repeat (first | (with_reducible (first | assumption | exact hec _ | exact hec2 _ | exact hec3 _ | exact hec4 _ _)) | ((with_reducible apply readc_here); (focus (first | (simp only [zc, zd, ze, go_sem]; (try with_reducible rfl); done) | (go_simp; (try with_reducible rfl); done)))) | (with_reducible (first | (apply readc_left; assumption) | refine readc_exh (by assumption) ?_ | refine readc_exh0 (by assumption) ?_ | apply readc_next)))); done)); (focus rfl); simp only [Act.put, zg, zh, zi])
        | ((with_reducible apply pl_alloc hs); (with_reducible (first | exact zero_37)); clear hs; (try clear w); intro g w hs; skip; simp only [Act.put, zg, zh, zi])
        | ((with_reducible apply pl_store1 hs); (focus (simp only [Act.eval, za, zb, zc, zd, ze, zf]; (try with_reducible rfl); done)); (focus (simp only [Act.eval, za, zb, zc, zd, ze, zf]; (try with_reducible rfl); done)); (focus (simp only [go_sem])); (focus with_reducible (repeat (first | exact ent_here | apply ent_next | exact ent_last)); done); (focus (first | (simp [go_sem]; done) | (simp only [go_sem]; omega) | go_size)); (focus (first | (simp only [go_sem]; done) | (simp [go_sem]; done))); clear hs; (try clear w); intro w hs; (try simp only [zg, zh, zi, pcl_s0, pcl_s1, pcl_s2, pcl_s3, opg_s0, opg_s1, opg_s2, opg_s3, bgv_s0, bgv_s1, bgv_s2, bgv_s3, bgv_s4, bgv_s5, bgv_s6, rbg_s0, rbg_s1, rbg_s2, rbg_s3, rbg_s4, rbg_s5, rbg_s6, prv_s0, prv_s1, lnk_s0, lnk_s1, lnk_s2, nov_s0, nov_s1, nov_s2, intv_set, bytv_set] at hs); simp only [Act.put, zg, zh, zi])
        | ((with_reducible apply pl_storeN hs); (focus (simp only [Act.eval, za, zb, zc, zd, ze, zf]; (try with_reducible rfl); done)); (focus (simp only [Act.eval, za, zb, zc, zd, ze, zf]; (try with_reducible rfl); done)); (with_reducible (first | exact agg_37)); (focus with_reducible (repeat (first | exact ent_here | apply ent_next | exact ent_last)); done); (focus (first | (with_reducible rfl) | (simp only [go_sem]; done) | (simp; done))); (focus (first | (simp [go_sem]; done) | (simp only [go_sem]; omega) | go_size)); (focus (first | (simp only [go_sem]; done) | (simp [go_sem]; done))); (focus (first | ((with_reducible apply splice_whole); (focus (first | (with_reducible rfl) | (simp only [go_sem]; done) | (simp; done)))) | (simp [splice, go_sem]; done) | (simp only [go_sem]; (try with_reducible rfl); done))); clear hs; (try clear w); intro w hs; (try simp only [zg, zh, zi, pcl_s0, pcl_s1, pcl_s2, pcl_s3, opg_s0, opg_s1, opg_s2, opg_s3, bgv_s0, bgv_s1, bgv_s2, bgv_s3, bgv_s4, bgv_s5, bgv_s6, rbg_s0, rbg_s1, rbg_s2, rbg_s3, rbg_s4, rbg_s5, rbg_s6, prv_s0, prv_s1, lnk_s0, lnk_s1, lnk_s2, nov_s0, nov_s1, nov_s2, intv_set, bytv_set] at hs); simp only [Act.put, zg, zh, zi])
        | ((with_reducible apply mix_thaw hRR hs); (focus with_reducible (repeat (first | exact ent_here | apply ent_next | exact ent_last)); done); clear hs; (try clear w); intro w hs; (try simp only [star_assoc, star_emp, emp_star] at hs); clear hRR hR)
        | ((with_reducible apply mx_load1 hRR); (focus (simp only [Act.eval, za, zb, zc, zd, ze, zf]; (try with_reducible rfl); done)); (focus (simp only [go_sem])); (focus ((repeat (first | (with_reducible (first | assumption | exact hec _ | exact hec2 _ | exact hec3 _ | exact hec4 _ _)) | ((with_reducible apply readc_here); (focus (first | (simp only [zc, zd, ze, go_sem]; (try with_reducible rfl); done) | (go_simp; (try with_reducible rfl); done)))) | (with_reducible (first | (apply readc_left; assumption) | refine readc_exh (by assumption) ?_ | refine readc_exh0 (by assumption) ?_ | apply readc_next)))); done)); simp only [Act.put, zg, zh, zi])
        | ((with_reducible apply mx_bs0r hs); (with_reducible (first | exact app_29)); (focus (intros; with_reducible (refine in_of_sat (by assumption) ?_; repeat (first | exact ent_exh_here | exact ent_last | refine ent_pu_l (fun _ => ?_) | refine ent_ex_l (fun _ => ?_) | apply ent_exh_next)); done)); clear hs; (try clear w); intro g w hs; skip; simp only [Act.put, zg, zh, zi])
        | ((with_reducible apply mx_appendN hs); (with_reducible (first | exact app_22 | exact app_29 | exact app_30 | exact app_31 | exact app_49)); (focus (simp only [Act.eval, za, zb, zc, zd, ze, zf]; (try with_reducible rfl); done)); (first | (focus with_reducible (repeat (first | exact ent_here | apply ent_next | exact ent_last)); done) | (focus (with_reducible exact ent_row_nil)) | (focus ((with_reducible apply ent_row_of_blk); (focus with_reducible (repeat (first | exact ent_here | apply ent_next | exact ent_last)); done); (focus (simp only [go_sem]))))); (focus (simp only [Act.eval, za, zb, zc, zd, ze, zf]; (try with_reducible rfl); done)); (focus (first | ((repeat (first | (with_reducible (first | assumption | exact slr_ro |  exact hsl _ | exact hsl2 _ | exact hsl3 _ _ _ | exact slr_nil | exact slr_row (fun _ => by simp only [go_sem]) | exact slr_one (fun _ => by simp only [go_sem]) | (apply slr_left; assumption))) | (with_reducible apply slr_next))); done) | ((repeat (first | (with_reducible (first | assumption | exact slr_ro |  exact hsl _ | exact hsl2 _ | exact hsl3 _ _ _ | exact slr_nil | exact slr_row (fun _ => by simp only [go_sem]) | exact slr_one (fun _ => by simp only [go_sem]) | (apply slr_left; assumption))) | (with_reducible (first | (apply slr_exh; focus assumption) | (apply slr_exh0; focus assumption) | apply slr_next)))); done))); (focus (first | (simp only [maxLen] at *; omega) | (simp [maxLen] at *; omega))); (focus (first | (simp only [maxLen] at *; omega) | (simp [maxLen] at *; omega))); (focus (intros; with_reducible (refine in_of_sat (by assumption) ?_; repeat (first | exact ent_exh_here | exact ent_last | refine ent_pu_l (fun _ => ?_) | refine ent_ex_l (fun _ => ?_) | apply ent_exh_next)); done)); clear hs; (try clear w); intro Ap cq w hs; (try simp only [List.length_nil, Nat.zero_add, List.nil_append] at hs ⊢); simp only [Act.put, zg, zh, zi])
        | ((with_reducible refine mix_float ?_ ?_ ?_ (fun h hk => ?_) ?_); rotate_left 1; (focus rfl); (focus rfl); (focus (go_simp; (try (rw [if_pos (by omega)]; (try go_simp))); (try simp (disch := omega) only [IntWalk.i64_in, IntWalk.i32_in]); (try with_reducible rfl); done)); simp only [Act.put, zg, zh, zi]))
    exact retP hs rfl rfl (by (focus ((repeat (first | (with_reducible (first | assumption | exact hel _ | exact hel2 _ | exact hel3 _)) | ((with_reducible apply reads_whole); (focus (first | (with_reducible rfl) | (simp only [go_sem]; done) | (simp; done)))) | ((with_reducible apply reads_part); (focus (first | (simp [go_sem]; done) | (simp only [go_sem]; omega) | go_size)); (focus (first | (simp only [Nat.reduceAdd, Nat.zero_add, go_sem]; (try with_reducible rfl); done) | (simp [go_sem]; (try with_reducible rfl); done)))) | (with_reducible (first | (apply reads_left; assumption) | refine reads_exh (by assumption) ?_ | refine reads_exh0 (by assumption) ?_ | apply reads_next)))); done))) rfl (ent_pu rfl (ent_trans (by ((repeat (first | (with_reducible (first | exact ent_refl | exact ent_emp)) | ((with_reducible apply ent_front); (focus with_reducible (repeat (first | exact ent_here | apply ent_next | exact ent_last)); done)) | (with_reducible (first | exact ent_keep | apply ent_trans ent_drop)))); done)) (rbg_shut (A := Ap) (k := m1.length + m2.length) (c := cq))))
  · rw [if_neg hc] at hsl2
    generalize hn : us.length = n' at *
    generalize us.take i = m1 at *
    generalize us.drop (i + 1) = m2 at *
    clear hla hp
    have hc2 : i + 1 < c := by omega
    replace hn := Lib.hid hn
    go_enter Tryd.func64, Tryd.ntmps64
    go_wp2_with (first
        | ((with_reducible apply wp_region_sl (G := emp) (id := 2) hs 19); (focus (exact ent_emp_l)); (focus kernel_rfl); (focus decide +kernel); clear hs; (try clear w); intro hR w hRR hs; (try simp only [star_assoc] at hs))
        | ((with_reducible apply pl_loadN hs); (focus (simp only [Act.eval, za, zb, zc, zd, ze, zf]; (try with_reducible rfl); done)); (with_reducible (first | exact agg_37)); (focus ((repeat (first | (with_reducible (first | assumption | exact hel _ | exact hel2 _ | exact hel3 _)) | ((with_reducible apply reads_whole); (focus (first | (with_reducible rfl) | (simp only [go_sem]; done) | (simp; done)))) | ((with_reducible apply reads_part); (focus (first | (simp [go_sem]; done) | (simp only [go_sem]; omega) | go_size)); (focus (first | (simp only [Nat.reduceAdd, Nat.zero_add, go_sem]; (try with_reducible rfl); done) | (simp [go_sem]; (try with_reducible rfl); done)))) | (with_reducible (first | (apply reads_left; assumption) | refine reads_exh (by assumption) ?_ | refine reads_exh0 (by assumption) ?_ | apply reads_next)))); done)); (focus rfl); simp only [Act.put, zg, zh, zi])
        | ((with_reducible apply pl_load1 hs); (focus (simp only [Act.eval, za, zb, zc, zd, ze, zf]; (try with_reducible rfl); done)); (focus (simp only [go_sem])); (focus ((repeat (first | (with_reducible (first | assumption | exact hec _ | exact hec2 _ | exact hec3 _ | exact hec4 _ _)) | ((with_reducible apply readc_here); (focus (first | (simp only [zc, zd, ze, go_sem]; (try with_reducible rfl); done) | (go_simp; (try with_reducible rfl); done)))) | (with_reducible (first | (apply readc_left; assumption) | refine readc_exh (by assumption) ?_ | refine readc_exh0 (by assumption) ?_ | apply readc_next)))); done)); (focus rfl); simp only [Act.put, zg, zh, zi])
        | ((with_reducible apply pl_alloc hs); (with_reducible (first | exact zero_37)); clear hs; (try clear w); intro g w hs; skip; simp only [Act.put, zg, zh, zi])
        | ((with_reducible apply pl_store1 hs); (focus (simp only [Act.eval, za, zb, zc, zd, ze, zf]; (try with_reducible rfl); done)); (focus (simp only [Act.eval, za, zb, zc, zd, ze, zf]; (try with_reducible rfl); done)); (focus (simp only [go_sem])); (focus with_reducible (repeat (first | exact ent_here | apply ent_next | exact ent_last)); done); (focus (first | (simp [go_sem]; done) | (simp only [go_sem]; omega) | go_size)); (focus (first | (simp only [go_sem]; done) | (simp [go_sem]; done))); clear hs; (try clear w); intro w hs; (try simp only [zg, zh, zi, pcl_s0, pcl_s1, pcl_s2, pcl_s3, opg_s0, opg_s1, opg_s2, opg_s3, bgv_s0, bgv_s1, bgv_s2, bgv_s3, bgv_s4, bgv_s5, bgv_s6, rbg_s0, rbg_s1, rbg_s2, rbg_s3, rbg_s4, rbg_s5, rbg_s6, prv_s0, prv_s1, lnk_s0, lnk_s1, lnk_s2, nov_s0, nov_s1, nov_s2, intv_set, bytv_set] at hs); simp only [Act.put, zg, zh, zi])
        | ((with_reducible apply pl_storeN hs); (focus (simp only [Act.eval, za, zb, zc, zd, ze, zf]; (try with_reducible rfl); done)); (focus (simp only [Act.eval, za, zb, zc, zd, ze, zf]; (try with_reducible rfl); done)); (with_reducible (first | exact agg_37)); (focus with_reducible (repeat (first | exact ent_here | apply ent_next | exact ent_last)); done); (focus (first | (with_reducible rfl) | (simp only [go_sem]; done) | (simp; done))); (focus (first | (simp [go_sem]; done) | (simp only [go_sem]; omega) | go_size)); (focus (first | (simp only [go_sem]; done) | (simp [go_sem]; done))); (focus (first | ((with_reducible apply splice_whole); (focus (first | (with_reducible rfl) | (simp only [go_sem]; done) | (simp; done)))) | (simp [splice, go_sem]; done) | (simp only [go_sem]; (try with_reducible rfl); done))); clear hs; (try clear w); intro w hs; (try simp only [zg, zh, zi, pcl_s0, pcl_s1, pcl_s2, pcl_s3, opg_s0, opg_s1, opg_s2, opg_s3, bgv_s0, bgv_s1, bgv_s2, bgv_s3, bgv_s4, bgv_s5, bgv_s6, rbg_s0, rbg_s1, rbg_s2, rbg_s3, rbg_s4, rbg_s5, rbg_s6, prv_s0, prv_s1, lnk_s0, lnk_s1, lnk_s2, nov_s0, nov_s1, nov_s2, intv_set, bytv_set] at hs); simp only [Act.put, zg, zh, zi])
        | ((with_reducible apply mix_thaw hRR hs); (focus with_reducible (repeat (first | exact ent_here | apply ent_next | exact ent_last)); done); clear hs; (try clear w); intro w hs; (try simp only [star_assoc, star_emp, emp_star] at hs); clear hRR hR)
        | ((with_reducible apply mx_load1 hRR); (focus (simp only [Act.eval, za, zb, zc, zd, ze, zf]; (try with_reducible rfl); done)); (focus (simp only [go_sem])); (focus ((repeat (first | (with_reducible (first | assumption | exact hec _ | exact hec2 _ | exact hec3 _ | exact hec4 _ _)) | ((with_reducible apply readc_here); (focus (first | (simp only [zc, zd, ze, go_sem]; (try with_reducible rfl); done) | (go_simp; (try with_reducible rfl); done)))) | (with_reducible (first | (apply readc_left; assumption) | refine readc_exh (by assumption) ?_ | refine readc_exh0 (by assumption) ?_ | apply readc_next)))); done)); simp only [Act.put, zg, zh, zi])
        | ((with_reducible apply mx_bs0r hs); (with_reducible (first | exact app_29)); (focus (intros; with_reducible (refine in_of_sat (by assumption) ?_; repeat (first | exact ent_exh_here | exact ent_last | refine ent_pu_l (fun _ => ?_) | refine ent_ex_l (fun _ => ?_) | apply ent_exh_next)); done)); clear hs; (try clear w); intro g w hs; skip; simp only [Act.put, zg, zh, zi])
        | ((with_reducible apply mx_appendN hs); (with_reducible (first | exact app_22 | exact app_29 | exact app_30 | exact app_31 | exact app_49)); (focus (simp only [Act.eval, za, zb, zc, zd, ze, zf]; (try with_reducible rfl); done)); (first | (focus with_reducible (repeat (first | exact ent_here | apply ent_next | exact ent_last)); done) | (focus (with_reducible exact ent_row_nil)) | (focus ((with_reducible apply ent_row_of_blk); (focus with_reducible (repeat (first | exact ent_here | apply ent_next | exact ent_last)); done); (focus (simp only [go_sem]))))); (focus (simp only [Act.eval, za, zb, zc, zd, ze, zf]; (try with_reducible rfl); done)); (focus (first | ((repeat (first | (with_reducible (first | assumption | exact slr_ro |  exact hsl _ | exact hsl2 _ | exact hsl3 _ _ _ | exact slr_nil | exact slr_row (fun _ => by simp only [go_sem]) | exact slr_one (fun _ => by simp only [go_sem]) | (apply slr_left; assumption))) | (with_reducible apply slr_next))); done) | ((repeat (first | (with_reducible (first | assumption | exact slr_ro |  exact hsl _ | exact hsl2 _ | exact hsl3 _ _ _ | exact slr_nil | exact slr_row (fun _ => by simp only [go_sem]) | exact slr_one (fun _ => by simp only [go_sem]) | (apply slr_left; assumption))) | (with_reducible (first | (apply slr_exh; focus assumption) | (apply slr_exh0; focus assumption) | apply slr_next)))); done))); (focus (first | (simp only [maxLen] at *; omega) | (simp [maxLen] at *; omega))); (focus (first | (simp only [maxLen] at *; omega) | (simp [maxLen] at *; omega))); (focus (intros; with_reducible (refine in_of_sat (by assumption) ?_; repeat (first | exact ent_exh_here | exact ent_last | refine ent_pu_l (fun _ => ?_) | refine ent_ex_l (fun _ => ?_) | apply ent_exh_next)); done)); clear hs; (try clear w); intro Ap cq w hs; (try simp only [List.length_nil, Nat.zero_add, List.nil_append] at hs ⊢); simp only [Act.put, zg, zh, zi])
        | ((with_reducible refine mix_float ?_ ?_ ?_ (fun h hk => ?_) ?_); rotate_left 1; (focus rfl); (focus rfl); (focus (go_simp; (try (rw [if_pos (by omega)]; (try go_simp))); (try simp (disch := omega) only [IntWalk.i64_in, IntWalk.i32_in]); (try with_reducible rfl); done)); simp only [Act.put, zg, zh, zi]))
    exact retP hs rfl rfl (by (focus ((repeat (first | (with_reducible (first | assumption | exact hel _ | exact hel2 _ | exact hel3 _)) | ((with_reducible apply reads_whole); (focus (first | (with_reducible rfl) | (simp only [go_sem]; done) | (simp; done)))) | ((with_reducible apply reads_part); (focus (first | (simp [go_sem]; done) | (simp only [go_sem]; omega) | go_size)); (focus (first | (simp only [Nat.reduceAdd, Nat.zero_add, go_sem]; (try with_reducible rfl); done) | (simp [go_sem]; (try with_reducible rfl); done)))) | (with_reducible (first | (apply reads_left; assumption) | refine reads_exh (by assumption) ?_ | refine reads_exh0 (by assumption) ?_ | apply reads_next)))); done))) rfl (ent_pu rfl (ent_trans (by ((repeat (first | (with_reducible (first | exact ent_refl | exact ent_emp)) | ((with_reducible apply ent_front); (focus with_reducible (repeat (first | exact ent_here | apply ent_next | exact ent_last)); done)) | (with_reducible (first | exact ent_keep | apply ent_trans ent_drop)))); done)) (rbg_shut (A := Ap) (k := m1.length + m2.length) (c := cq))))
end Go.Proofs.YtlgjippijbepkaaDoor

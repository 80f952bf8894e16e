/- A region that draws, in which one variable is made at any time (a blank's: 'alloc'), ahead of what asks for it. -/
import Derived.Test.YtgoifgockcpnhaaDoorH1
set_option linter.unusedSimpArgs false
set_option linter.unusedVariables false
namespace Go.Proofs.YtgoifgockcpnhaaDoor
open Go Go.RowKit

section
variable {P : Program} {ops : Array Oper} {J : World → Prop} {Q : Exit → Act → World → Prop}

def wpMixF (P : Program) (ops : Array Oper) (J : World → Prop) (Q : Exit → Act → World → Prop) (n : Nat) (of : Oper) (post : List Nat) : List Nat → Act → World → Prop
  | [], a, w => of.wp P a w (fun a' w' => J w' ∧ wpMixI P ops J Q n post a' w') (fun _ _ _ => False)
  | i :: pre, a, w => match ops[i]? with
    | none => wpMixF P ops J Q n of post pre a w
    | some o =>
      if Region.wanted o (yielded ops a.tmps) then
        if chainB o then
          o.wp P a w (fun a' w' => J w' ∧ wpMixF P ops J Q n of post pre a' w') (fun _ _ _ => False) ∧
          of.wp P a w (fun a' w' => J w' ∧ wpMixI P ops J Q n (i :: (pre ++ post)) a' w') (fun _ _ _ => False)
        else ∃ v, (∀ h, J h → floatRun ((execOp a.eval o).run P h) h v) ∧ wpMixF P ops J Q n of post pre (a.put o.dst v) w
      else wpMixF P ops J Q n of post pre (a.put o.dst undef) w

variable {n : Nat} {of : Oper} {post : List Nat}
theorem wpMixF_float {i : Nat} {rest : List Nat} {o : Oper} {v : Value} {a : Act} {w : World} (ho : ops[i]? = some o) (hc : chainB o = false)
    (hy : YieldsK P ops J o v a) (h : wpMixF P ops J Q n of post rest (a.put o.dst v) w) : wpMixF P ops J Q n of post (i :: rest) a w := by
  rw [wpMixF]
  simp only [ho]
  rcases hy with ⟨hw, hv⟩ | ⟨hw, rfl⟩
  · rw [if_pos hw, if_neg (by simp [hc])]
    exact ⟨v, hv, h⟩
  · rw [if_neg (by simp [hw])]
    exact h
theorem wpMixF_float_inv {i : Nat} {rest : List Nat} {o : Oper} {a : Act} {w : World} (ho : ops[i]? = some o) (hc : chainB o = false)
    (h : wpMixF P ops J Q n of post (i :: rest) a w) : ∃ v, YieldsK P ops J o v a ∧ wpMixF P ops J Q n of post rest (a.put o.dst v) w := by
  rw [wpMixF] at h
  simp only [ho] at h
  by_cases hw : Region.wanted o (yielded ops a.tmps) = true
  · rw [if_pos hw, if_neg (by simp [hc])] at h
    obtain ⟨v, h1, h2⟩ := h
    exact ⟨v, .inl ⟨hw, h1⟩, h2⟩
  · rw [if_neg hw] at h
    exact ⟨undef, .inr ⟨by simpa using hw, rfl⟩, h⟩
theorem wpMixI_skip {i : Nat} {rest : List Nat} {o : Oper} {a : Act} {w : World} (hn : i < n) (ho : ops[i]? = some o) (hw : Region.wanted o (yielded ops a.tmps) = false)
    (h : wpMixI P ops J Q n rest (a.put o.dst undef) w) : wpMixI P ops J Q n (i :: rest) a w := by
  rw [wpMixI, if_neg (by omega)]
  simp only [ho]
  rw [if_neg (by simp [hw])]
  exact h

theorem takeF_float {i : Nat} {oi : Oper} {p2 : List Nat} (hn : i < n) (hi : ops[i]? = some oi) (hc : chainB oi = false) (hsel : Region.noSelect ops = true) (hsf : ∀ cs b, of.op ≠ .select cs b) (hof : oi.apart ops of = true) :
    ∀ (p1 : List Nat) (a : Act) (w : World), J w → (∀ p ∈ p1, p < n ∧ ∃ op, ops[p]? = some op ∧ op.apart ops oi = true) →
      wpMixF P ops J Q n of post (p1 ++ i :: p2) a w → ∃ v, YieldsK P ops J oi v a ∧ wpMixF P ops J Q n of post (p1 ++ p2) (a.put oi.dst v) w := by
  have hsi := fun cs b => Region.noSelect_spec hsel i oi cs b hi
  obtain ⟨f1, f2, f3⟩ := Oper.apart_spec hof
  intro p1
  induction p1 with
  | nil => intro a w _ _ h; exact wpMixF_float_inv hi hc h
  | cons p pre ih =>
    intro a w hk hp h
    obtain ⟨hpn, op, hop, hap⟩ := hp p (List.mem_cons_self ..)
    obtain ⟨h1, h2, h3⟩ := Oper.apart_spec hap
    have hsp := fun cs b => Region.noSelect_spec hsel p op cs b hop
    have hrest : ∀ q ∈ pre, q < n ∧ ∃ oq, ops[q]? = some oq ∧ oq.apart ops oi = true := fun q hq => hp q (List.mem_cons_of_mem _ hq)
    have back : ∀ {a' : Act} {v : Value}, Behind a op a' → YieldsK P ops J oi v a' → YieldsK P ops J oi v a := fun hb hy =>
      hy.of_same (execOp_behind hsi hb h1).symm (wanted_behind hb h1).symm
    have backF : ∀ {a' : Act} {v : Value}, Behind a of a' → YieldsK P ops J oi v a' → YieldsK P ops J oi v a := fun hb hy =>
      hy.of_same (execOp_behind hsi hb f3).symm (wanted_behind hb f3).symm
    by_cases hcp : chainB op = true
    · rw [List.cons_append, wpMixF] at h
      simp only [hop] at h
      by_cases hw : Region.wanted op (yielded ops a.tmps) = true
      · rw [if_pos hw, if_pos hcp] at h
        obtain ⟨h, hF⟩ := h
        have hb := Oper.wp_behind h
        obtain ⟨a0, w0, hb0, hk0, h0⟩ := Oper.wp_some hb
        obtain ⟨v, hy0, _⟩ := ih a0 w0 hk0 hrest h0
        have hy := back hb0 hy0
        refine ⟨v, hy, ?_⟩
        rw [List.cons_append, wpMixF]
        simp only [hop]
        rw [wanted_put op a oi.dst v h3, if_pos hw, if_pos hcp, Oper.wp_put hsp h3 (fun d hd => fun e => h2 d e hd), Oper.wp_put hsf f1 (fun d hd => fun e => f2 d hd e)]
        refine ⟨Oper.wp_mono (fun a' w' hh => ?_) hb, Oper.wp_mono (fun a' w' hh => ?_) (Oper.wp_behind hF)⟩
        · obtain ⟨hba, hka, hma⟩ := hh
          obtain ⟨v', hy', hm'⟩ := ih a' w' hka hrest hma
          have : v' = v := YieldsK.uniq hk (back hba hy') hy
          subst this
          exact ⟨hka, hm'⟩
        · obtain ⟨hba, hka, hma⟩ := hh
          have hl : p :: (pre ++ i :: p2 ++ post) = (p :: pre) ++ i :: (p2 ++ post) := by simp
          rw [hl] at hma
          obtain ⟨v', hy', hm'⟩ := take_float (P := P) (Q := Q) hn hi hc hsel (p :: pre) a' w' hka hp hma
          have : v' = v := YieldsK.uniq hk (backF hba hy') hy
          subst this
          refine ⟨hka, ?_⟩
          have hl2 : p :: (pre ++ p2 ++ post) = (p :: pre) ++ (p2 ++ post) := by simp
          rw [hl2]
          exact hm'
      · rw [if_neg hw] at h
        obtain ⟨v, hy, hm⟩ := ih _ _ hk hrest h
        refine ⟨v, back ⟨a.defers, undef, rfl⟩ hy, ?_⟩
        rw [List.cons_append, wpMixF]
        simp only [hop]
        rw [wanted_put op a oi.dst v h3, if_neg hw, Act.put_comm a v undef (fun d hd => fun e => h2 d e hd)]
        exact hm
    · have hcp' : chainB op = false := by simpa using hcp
      rw [List.cons_append] at h
      obtain ⟨u, hyp, hm⟩ := wpMixF_float_inv hop hcp' h
      obtain ⟨v, hy, hm'⟩ := ih _ _ hk hrest hm
      refine ⟨v, back ⟨a.defers, u, rfl⟩ hy, ?_⟩
      rw [List.cons_append]
      refine wpMixF_float hop hcp' (v := u) (hyp.of_same (execOp_put op hsp a oi.dst v h3) (wanted_put op a oi.dst v h3)) ?_
      rw [Act.put_comm a v u (fun d hd => fun e => h2 d e hd)]
      exact hm'

theorem takeF_f (hsel : Region.noSelect ops = true) (hsf : ∀ cs b, of.op ≠ .select cs b) :
    ∀ (pre : List Nat) (a : Act) (w : World), (∀ p ∈ pre, p < n ∧ ∃ op, ops[p]? = some op ∧ op.apart ops of = true) →
      wpMixF P ops J Q n of post pre a w → of.wp P a w (fun a' w' => J w' ∧ wpMixI P ops J Q n (pre ++ post) a' w') (fun _ _ _ => False) := by
  intro pre
  induction pre with
  | nil => intro a w _ h; exact h
  | cons p pre ih =>
    intro a w hp h
    obtain ⟨hpn, op, hop, hap⟩ := hp p (List.mem_cons_self ..)
    obtain ⟨h1, h2, h3⟩ := Oper.apart_spec hap
    have hsp := fun cs b => Region.noSelect_spec hsel p op cs b hop
    have hrest : ∀ q ∈ pre, q < n ∧ ∃ oq, ops[q]? = some oq ∧ oq.apart ops of = true := fun q hq => hp q (List.mem_cons_of_mem _ hq)
    by_cases hcp : chainB op = true
    · rw [wpMixF] at h
      simp only [hop] at h
      by_cases hw : Region.wanted op (yielded ops a.tmps) = true
      · rw [if_pos hw, if_pos hcp] at h
        exact h.2
      · rw [if_neg hw] at h
        have hh := ih _ _ hrest h
        rw [Oper.wp_put hsf h1 (fun d hd => fun e => h2 d hd e)] at hh
        refine Oper.wp_mono (fun a' w' hx => ?_) (Oper.wp_behind hh)
        obtain ⟨hba, hka, hma⟩ := hx
        exact ⟨hka, wpMixI_skip hpn hop (by rw [wanted_behind hba h3]; simpa using hw) hma⟩
    · have hcp' : chainB op = false := by simpa using hcp
      obtain ⟨u, hyp, hm⟩ := wpMixF_float_inv hop hcp' h
      have hh := ih _ _ hrest hm
      rw [Oper.wp_put hsf h1 (fun d hd => fun e => h2 d hd e)] at hh
      refine Oper.wp_mono (fun a' w' hx => ?_) (Oper.wp_behind hh)
      obtain ⟨hba, hka, hma⟩ := hx
      exact ⟨hka, wpMixI_float hpn hop hcp' (hyp.of_same (execOp_behind hsp hba h3) (wanted_behind hba h3)) hma⟩

theorem takeF_chain {i : Nat} {oi : Oper} {p2 : List Nat} (hi : ops[i]? = some oi) (hc : chainB oi = true) (hsel : Region.noSelect ops = true) :
    ∀ (pre : List Nat) (a : Act) (w : World), (∀ p ∈ pre, ∃ op, ops[p]? = some op ∧ op.apart ops oi = true ∧ chainB op = false) →
      wpMixF P ops J Q n of post (pre ++ i :: p2) a w →
      if Region.wanted oi (yielded ops a.tmps) then oi.wp P a w (fun a' w' => J w' ∧ wpMixF P ops J Q n of post (pre ++ p2) a' w') (fun _ _ _ => False)
      else wpMixF P ops J Q n of post (pre ++ p2) (a.put oi.dst undef) w := by
  have hsi := fun cs b => Region.noSelect_spec hsel i oi cs b hi
  intro pre
  induction pre with
  | nil =>
    intro a w _ h
    rw [List.nil_append, wpMixF] at h
    simp only [hi] at h
    split
    · rename_i hw; rw [if_pos hw, if_pos hc] at h; exact h.1
    · rename_i hw; rw [if_neg hw] at h; exact h
  | cons p pre ih =>
    intro a w hp h
    obtain ⟨op, hop, hap, hcp⟩ := hp p (List.mem_cons_self ..)
    obtain ⟨h1, h2, h3⟩ := Oper.apart_spec hap
    have hsp := fun cs b => Region.noSelect_spec hsel p op cs b hop
    have hrest : ∀ q ∈ pre, ∃ oq, ops[q]? = some oq ∧ oq.apart ops oi = true ∧ chainB oq = false := fun q hq => hp q (List.mem_cons_of_mem _ hq)
    rw [List.cons_append] at h
    obtain ⟨u, hyp, hm⟩ := wpMixF_float_inv hop hcp h
    have hh := ih _ _ hrest hm
    rw [wanted_put oi a op.dst u h1] at hh
    split
    · rename_i hw
      rw [if_pos hw, Oper.wp_put hsi h1 (fun d hd => fun e => h2 d hd e)] at hh
      refine Oper.wp_mono (fun a' w' hx => ?_) (Oper.wp_behind hh)
      obtain ⟨hba, hka, hma⟩ := hx
      refine ⟨hka, ?_⟩
      rw [List.cons_append]
      exact wpMixF_float hop hcp (hyp.of_same (execOp_behind hsp hba h3) (wanted_behind hba h3)) hma
    · rename_i hw
      rw [if_neg hw] at hh
      rw [List.cons_append]
      refine wpMixF_float hop hcp (v := u) (hyp.of_same (execOp_put op hsp a oi.dst undef h3) (wanted_put op a oi.dst undef h3)) ?_
      rw [Act.put_comm a undef u (fun d hd => fun e => h2 d e hd)]
      exact hh

theorem ready_nil_false {listed : Array Bool} {f : Nat} (hf : ops[f]? = some of) (hfa : of.after = #[]) (hun : listed.getD f true = false) : f ∈ Region.ready .any ops listed :=
  mem_ready.2 ⟨hun, of, hf, fun e he => by rw [hfa] at he; simp at he⟩

theorem filter_set_off {listed : Array Bool} {i : Nat} (l : List Nat) (h : ∀ j ∈ l, j ≠ i) : l.filter (fun j => !(listed.setIfInBounds i true).getD j true) = l.filter (fun j => !listed.getD j true) :=
  List.filter_congr fun j hj => by rw [getD_set_ne true (Ne.symm (h j hj))]

theorem wpAny_of_mixF {f : Nat} (hs : Region.noSelect ops = true) (hlt : ∀ i oi, ops[i]? = some oi → ∀ e ∈ oi.after, Region.binds .any e = true → e.on < i) (hord : OrdX ops n (fun j => j = f))
    (hf : ops[f]? = some of) (hfn : f < n) (hfg : of.guard = none) (hfa : of.after = #[]) (hfp : ∀ p op, p < f → ops[p]? = some op → op.apart ops of = true)
    (hpost : ∀ i oi, ops[i]? = some oi → f < i → ∀ L : Nat → Prop, (∀ j o, ops[j]? = some o → L j → ∀ e ∈ o.after, Region.binds .any e = true → L e.on) → L i → L f) :
    ∀ (fuel : Nat) (listed : Array Bool) (a : Act) (w : World), listed.getD f true = false → listed.size = ops.size → (remOf ops listed).length = fuel →
    (∀ j o, ops[j]? = some o → listed.getD j false = true → ∀ e ∈ o.after, Region.binds .any e = true → listed.getD e.on false = true) → J w →
    wpMixF P ops J Q n of ((List.range' (f + 1) (ops.size - (f + 1))).filter fun j => !listed.getD j true) ((List.range f).filter fun j => !listed.getD j true) a w → wpAny P .any ops Q fuel listed a w := by
  have hfs : f < ops.size := (Array.getElem?_eq_some_iff.1 hf).1
  have hsf := fun cs b => Region.noSelect_spec hs f of cs b hf
  have hrem : ∀ listed : Array Bool, listed.getD f true = false → remOf ops listed = ((List.range f).filter fun j => !listed.getD j true) ++ f :: ((List.range' (f + 1) (ops.size - (f + 1))).filter fun j => !listed.getD j true) := by
    intro listed h
    unfold remOf
    rw [range_split ops.size f hfs, List.filter_append, List.filter_cons, if_pos (by simp only [h]; rfl)]
  have hwf : ∀ a : Act, Region.wanted of (yielded ops a.tmps) = true := fun a => by simp [Region.wanted, hfg]
  intro fuel
  induction fuel with
  | zero =>
    intro listed a w hun hz hlen _ _ _
    rw [hrem listed hun] at hlen
    simp at hlen
  | succ fuel ih =>
    intro listed a w hun hz hlen hdc hk h
    constructor
    · intro hr
      have := ready_nil_false hf hfa hun
      rw [hr] at this
      cases this
    · intro i hi
      obtain ⟨hui, oi, hoi, hall⟩ := mem_ready.1 hi
      have hisz := (Array.getElem?_eq_some_iff.1 hoi).1
      have hlen' : (remOf ops (listed.setIfInBounds i true)).length = fuel := by
        obtain ⟨p1, p2, he, _, _, hg⟩ := filter_split (fun j => !listed.getD j true) ops.size i hisz (by simp [hui])
        have e1 : remOf ops listed = p1 ++ i :: p2 := he
        have e2 : remOf ops (listed.setIfInBounds i true) = p1 ++ p2 := hg _ (by simp [show i < listed.size by omega]) (fun j hj => by rw [getD_set_ne true (Ne.symm hj)])
        rw [e1] at hlen
        rw [e2]
        simp at hlen ⊢
        omega
      have hdc' : ∀ j o, ops[j]? = some o → (listed.setIfInBounds i true).getD j false = true → ∀ e ∈ o.after, Region.binds .any e = true → (listed.setIfInBounds i true).getD e.on false = true := by
        intro j o ho hj e hee hb
        by_cases hji : j = i
        · subst hji
          have : o = oi := by rw [hoi] at ho; exact (Option.some.inj ho).symm
          subst this
          exact getD_set_true (hall e hee hb)
        · rw [getD_set_ne false (Ne.symm hji)] at hj
          exact getD_set_true (hdc j o ho hj e hee hb)
      have clos : ∀ (L : Nat → Prop), L = (fun j => j = i ∨ listed.getD j false = true) → ∀ j o, ops[j]? = some o → L j → ∀ e ∈ o.after, Region.binds .any e = true → L e.on := by
        intro L hL j o ho hj e hee hb
        subst hL
        rcases hj with rfl | hj
        · have : o = oi := by rw [hoi] at ho; exact (Option.some.inj ho).symm
          subst this
          exact .inr (hall e hee hb)
        · exact .inr (hdc j o ho hj e hee hb)
      by_cases hif : i = f
      · subst hif
        have hoe : oi = of := by rw [hf] at hoi; exact (Option.some.inj hoi).symm
        subst hoe
        have hh := takeF_f hs hsf _ a w (fun p hp => by
          obtain ⟨h1, h2⟩ := List.mem_filter.1 hp
          have hpf := List.mem_range.1 h1
          exact ⟨by omega, _, Array.getElem?_eq_getElem (by omega), hfp p _ hpf (Array.getElem?_eq_getElem (by omega))⟩) h
        unfold wpOp
        simp only [hf]
        rw [if_pos (hwf a)]
        refine .inl (Oper.wp_false (Oper.wp_mono (fun a' w' hx => ?_) hh))
        have hremi : remOf ops (listed.setIfInBounds i true) = ((List.range i).filter fun j => !listed.getD j true) ++ ((List.range' (i + 1) (ops.size - (i + 1))).filter fun j => !listed.getD j true) := by
          unfold remOf
          rw [range_split ops.size i hfs, List.filter_append, List.filter_cons, if_neg (by simp [show i < listed.size by omega]), filter_set_off _ (fun j hj => by have := List.mem_range.1 hj; omega), filter_set_off _ (fun j hj => by have := List.mem_range'_1.1 hj; omega)]
        refine wpAny_of_mixX (fun j => j = i) hs hlt hord fuel _ a' w' (fun x hx hm => ?_) (by simpa using hz) hlen' hdc' (fun _ => hx.1) (by rw [hremi]; exact hx.2)
        subst hx
        have := (List.mem_filter.1 hm).2
        simp [show x < listed.size by omega] at this
      · have hif' : i < f := by
          rcases Nat.lt_or_ge i f with h1 | h1
          · exact h1
          · exfalso
            rcases hpost i oi hoi (by omega) _ (clos _ rfl) (.inl rfl) with h2 | h2
            · exact hif h2.symm
            · have : listed.getD f true = true := by
                simp only [Array.getD_eq_getD_getElem?] at h2 ⊢
                rw [Array.getElem?_eq_getElem (by omega)] at h2 ⊢
                exact h2
              rw [this] at hun; cases hun
        obtain ⟨p1, p2, he, hp1, hp2, hg⟩ := filter_split (fun j => !listed.getD j true) f i hif' (by simp [hui])
        have hfree : ∀ p ∈ p1, i < n ∧ ∃ op, ops[p]? = some op ∧ op.apart ops oi = true ∧ (chainB op = false ∨ chainB oi = false) := by
          intro p hp
          obtain ⟨hpi, hpf⟩ := hp1 p hp
          have hpu : listed.getD p true = false := by simpa using hpf
          have hop : ops[p]? = some ops[p] := Array.getElem?_eq_getElem (by omega)
          rcases hord i oi p _ hoi hop hpi hif (by omega) _ (clos _ rfl) (.inl rfl) with hx | ⟨h1, h2, h3⟩
          · rcases hx with rfl | hx
            · omega
            · have : listed.getD p true = true := by
                simp only [Array.getD_eq_getD_getElem?] at hx ⊢
                rw [Array.getElem?_eq_getElem (by omega)] at hx ⊢
                exact hx
              rw [this] at hpu; cases hpu
          · exact ⟨h1, _, hop, h2, h3⟩
        have next : ∀ a' w', J w' → wpMixF P ops J Q n of ((List.range' (f + 1) (ops.size - (f + 1))).filter fun j => !listed.getD j true) (p1 ++ p2) a' w' → wpAny P .any ops Q fuel (listed.setIfInBounds i true) a' w' := by
          intro a' w' hk' hm
          refine ih _ a' w' (by rw [getD_set_ne true hif]; exact hun) (by simpa using hz) hlen' hdc' hk' ?_
          rw [filter_set_off _ (fun j hj => by have := List.mem_range'_1.1 hj; omega)]
          have e2 : ((List.range f).filter fun j => !(listed.setIfInBounds i true).getD j true) = p1 ++ p2 := hg _ (by simp [show i < listed.size by omega]) (fun j hj => by rw [getD_set_ne true (Ne.symm hj)])
          rw [e2]
          exact hm
        rw [he] at h
        cases hc : chainB oi with
        | false =>
          obtain ⟨v, hy, hm⟩ := takeF_float (by omega) hoi hc hs hsf (hfp i oi hif' hoi) p1 a w hk (fun p hp => by
            obtain ⟨h1, op, h2, h3, _⟩ := hfree p hp
            exact ⟨by have := (hp1 p hp).1; omega, op, h2, h3⟩) h
          have hn := next _ _ hk hm
          unfold wpOp
          simp only [hoi]
          rcases hy with ⟨hw, hv⟩ | ⟨hw, rfl⟩
          · rw [if_pos hw]
            refine .inl ?_
            unfold Oper.wp
            rcases hv w hk with h1 | ⟨h1, rfl⟩
            · rw [h1]; exact hn
            · rw [h1]; exact hn
          · rw [if_neg (by simp [hw])]; exact hn
        | true =>
          have hh := takeF_chain hoi hc hs p1 a w (fun p hp => by
            obtain ⟨h1, op, h2, h3, h4⟩ := hfree p hp
            exact ⟨op, h2, h3, h4.resolve_right (by simp [hc])⟩) h
          unfold wpOp
          simp only [hoi]
          split
          · rename_i hw
            rw [if_pos hw] at hh
            refine .inl (Oper.wp_false (Oper.wp_mono (fun a' w' hx => ?_) hh))
            exact next _ _ hx.1 hx.2
          · rename_i hw
            rw [if_neg hw] at hh
            exact next _ _ hk hh

/-! ### as lists of operations: one call (at c) ahead of f -/
theorem wpOps_list : ∀ (is : List Nat) (os : List Oper), is.map (fun i => ops[i]?) = os.map some → wpOps P ops Q is = wpList P ops Q os
  | [], [], _ => by funext a w; simp [wpOps, wpList]
  | [], _ :: _, h => by simp at h
  | _ :: _, [], h => by simp at h
  | i :: is, o :: os, h => by
    simp only [List.map_cons, List.cons.injEq] at h
    funext a w
    simp only [wpOps, h.1, wpList, wpOps_list is os h.2]
theorem wpMixI_list : ∀ (is : List Nat) (os : List Oper) (k : Nat) (a : Act) (w : World), is.map (fun i => ops[i]?) = os.map some → (∀ j i, is[j]? = some i → (j < k ↔ i < n)) →
    wpMix P ops J Q k os a w → wpMixI P ops J Q n is a w
  | is, os, 0, a, w, h, hk, hm => by
    rw [wpMix] at hm
    rw [wpMixI_all is a w (fun i hi => by
      obtain ⟨j, hj⟩ := List.getElem?_of_mem hi
      have := hk j i hj; omega), wpOps_list is os h]
    exact hm
  | [], [], k + 1, a, w, _, _, hm => by simpa [wpMix, wpMixI] using hm
  | [], _ :: _, _ + 1, _, _, h, _, _ => by simp at h
  | _ :: _, [], _ + 1, _, _, h, _, _ => by simp at h
  | i :: is, o :: os, k + 1, a, w, h, hk, hm => by
    simp only [List.map_cons, List.cons.injEq] at h
    have hin : i < n := (hk 0 i rfl).1 (by omega)
    have ih := fun a w => wpMixI_list is os k a w h.2 (fun j i' hj => by have := hk (j + 1) i' (by simpa using hj); omega)
    rw [wpMix] at hm
    rw [wpMixI, if_neg (by omega)]
    simp only [h.1]
    by_cases hw : Region.wanted o (yielded ops a.tmps) = true
    · rw [if_pos hw] at hm ⊢
      by_cases hc : chainB o = true
      · rw [if_pos hc] at hm ⊢
        exact Oper.wp_mono (fun a w hh => ⟨hh.1, ih a w hh.2⟩) hm
      · rw [if_neg hc] at hm ⊢
        obtain ⟨v, h1, h2⟩ := hm
        exact ⟨v, h1, ih _ _ h2⟩
    · rw [if_neg hw] at hm ⊢
      exact ih _ _ hm

/-- Floats ahead of a fork. -/
theorem wpMixF_pre {rest : List Nat} : ∀ (l : List Nat) (a : Act) (w : World), (∀ i ∈ l, i < n ∧ ∃ o, ops[i]? = some o ∧ chainB o = false) → wpMixI P ops J (fun _ a w => wpMixF P ops J Q n of post rest a w) n l a w → wpMixF P ops J Q n of post (l ++ rest) a w
  | [], a, w, _, h => by simpa [wpMixI] using h
  | i :: l, a, w, hl, h => by
    obtain ⟨hin, o, ho, hc⟩ := hl i (List.mem_cons_self ..)
    obtain ⟨v, hy, hm⟩ := wpMixI_float_inv hin ho hc h
    exact wpMixF_float ho hc hy (wpMixF_pre l _ _ (fun j hj => hl j (List.mem_cons_of_mem _ hj)) hm)
theorem wpMixI_floats_mono {Q1 Q2 : Exit → Act → World → Prop} (hq : ∀ a w, Q1 .normal a w → Q2 .normal a w) : ∀ (l : List Nat) (a : Act) (w : World), (∀ i ∈ l, i < n ∧ ∃ o, ops[i]? = some o ∧ chainB o = false) → wpMixI P ops J Q1 n l a w → wpMixI P ops J Q2 n l a w
  | [], a, w, _, h => by rw [wpMixI] at h ⊢; exact hq a w h
  | i :: l, a, w, hl, h => by
    obtain ⟨hin, o, ho, hc⟩ := hl i (List.mem_cons_self ..)
    obtain ⟨v, hy, hm⟩ := wpMixI_float_inv hin ho hc h
    exact wpMixI_float hin ho hc hy (wpMixI_floats_mono hq l _ _ (fun j hj => hl j (List.mem_cons_of_mem _ hj)) hm)
theorem wpMixF_last {f : Nat} (hfn : f < n) (hf : ops[f]? = some of) (hfg : of.guard = none) (hfc : chainB of = true) : ∀ (l : List Nat) (a : Act) (w : World), (∀ i ∈ l, i < n ∧ ∃ o, ops[i]? = some o ∧ chainB o = false) →
    wpMixI P ops J Q n (l ++ f :: post) a w → wpMixF P ops J Q n of post l a w
  | [], a, w, _, h => by
    rw [List.nil_append, wpMixI, if_neg (by omega)] at h
    simp only [hf] at h
    rw [if_pos (by simp [Region.wanted, hfg]), if_pos hfc] at h
    rw [wpMixF]
    exact h
  | i :: l, a, w, hl, h => by
    obtain ⟨hin, o, ho, hc⟩ := hl i (List.mem_cons_self ..)
    obtain ⟨v, hy, hm⟩ := wpMixI_float_inv hin ho hc h
    exact wpMixF_float ho hc hy (wpMixF_last hfn hf hfg hfc l _ _ (fun j hj => hl j (List.mem_cons_of_mem _ hj)) hm)
theorem wpMixF_fork {f c : Nat} {oc : Oper} (hfn : f < n) (hcn : c < n) (hf : ops[f]? = some of) (hfg : of.guard = none) (hfc : chainB of = true) (hc : ops[c]? = some oc) (hcc : chainB oc = true) (l : List Nat) (a : Act) (w : World)
    (hl : ∀ i ∈ l, i < n ∧ ∃ o, ops[i]? = some o ∧ chainB o = false) (h1 : wpMixI P ops J Q n (c :: (l ++ f :: post)) a w) (h2 : wpMixI P ops J Q n (f :: c :: (l ++ post)) a w) : wpMixF P ops J Q n of post (c :: l) a w := by
  rw [wpMixI, if_neg (by omega)] at h1 h2
  simp only [hf, hc] at h1 h2
  rw [if_pos (by simp [Region.wanted, hfg]), if_pos hfc] at h2
  rw [wpMixF]
  simp only [hc]
  by_cases hw : Region.wanted oc (yielded ops a.tmps) = true
  · rw [if_pos hw, if_pos hcc] at h1 ⊢
    exact ⟨Oper.wp_mono (fun a w hh => ⟨hh.1, wpMixF_last hfn hf hfg hfc l a w hl hh.2⟩) h1, h2⟩
  · rw [if_neg hw] at h1 ⊢
    exact wpMixF_last hfn hf hfg hfc l _ w hl h1

def mixOkF (ops : Array Oper) (n c f : Nat) : Bool :=
  let b := closGo ops.toList #[]
  Region.noSelect ops && decide (c < f) && decide (f < n) && decide (n ≤ ops.size) &&
  (match ops[f]? with | none => false | some of => of.guard.isNone && of.after.size == 0 && chainB of && (List.range f).all fun p => match ops[p]? with | none => true | some op => op.apart ops of && (if p = c then chainB op else !chainB op)) &&
  (List.range ops.size).all fun i => match ops[i]? with
    | none => true
    | some oi => oi.after.all (fun e => !Region.binds .any e || decide (e.on < i)) &&
      (i == f || (List.range i).all fun p => (b.getD i 0).testBit p || (p != f && decide (i < n) && match ops[p]? with
        | none => true
        | some op => op.apart ops oi && !(chainB op && chainB oi)))

theorem filter_none {listed : Array Bool} (l : List Nat) (h : ∀ j ∈ l, listed.getD j true = false) : l.filter (fun j => !listed.getD j true) = l :=
  List.filter_eq_self.2 fun j hj => by rw [h j hj]; rfl
theorem range'_at {s m j i : Nat} (h : (List.range' s m)[j]? = some i) : i = s + j ∧ j < m := by
  obtain ⟨hb, he⟩ := List.getElem?_eq_some_iff.1 h
  simp at hb he
  omega
theorem range_map (l : List Oper) (k m : Nat) (h : k + m ≤ l.length) : (List.range' k m).map (fun i => l.toArray[i]?) = ((l.drop k).take m).map some := by
  apply List.ext_getElem?
  intro j
  by_cases hj : j < m
  · simp [hj, List.getElem?_take, List.getElem?_drop]
    rw [List.getElem?_eq_getElem (by omega)]; simp
  · simp [hj, List.getElem?_take]

/-- A REGION THAT DRAWS, WITH A VARIABLE THAT IS MADE AHEAD OF ITS ONE CALL OR BEHIND IT: two walks from the call on. -/
theorem wp_region_fork {id : Nat} {a : Act} {w : World} {l : List Oper} {oc of : Oper} (J : World → Prop) (n c f : Nat) (hm : P.follows .mixedOrders = true) (hB : mixOkF l.toArray n c f = true) (hJ : J w.drew) (hoc : l[c]? = some oc) (hof : l[f]? = some of)
    (h : wpMix P l.toArray J (fun _ a' w' => wpMix P l.toArray J Q (n - c) (oc :: ((l.take f).drop (c + 1) ++ of :: l.drop (f + 1))) a' w' ∧
      wpMix P l.toArray J Q (n - c) (of :: oc :: ((l.take f).drop (c + 1) ++ l.drop (f + 1))) a' w') c (l.take c) a w.drew) : (Code.region id l.toArray true).wp P Q a w := by
  simp only [mixOkF, Bool.and_eq_true, decide_eq_true_eq, List.all_eq_true, List.mem_range] at hB
  obtain ⟨⟨⟨⟨⟨hs, hcf⟩, hfn⟩, hns⟩, hF⟩, hO⟩ := hB
  have hof' : l.toArray[f]? = some of := by simpa using hof
  have hoc' : l.toArray[c]? = some oc := by simpa using hoc
  simp only [hof', Bool.and_eq_true, List.all_eq_true, List.mem_range] at hF
  obtain ⟨⟨⟨hg, hz⟩, hfc⟩, hp⟩ := hF
  have hfg : of.guard = none := by simpa using hg
  have hfa : of.after = #[] := Array.eq_empty_of_size_eq_zero (by simpa using hz)
  have hsz : l.toArray.size = l.length := by simp
  have hfp : ∀ p op, p < f → l.toArray[p]? = some op → op.apart l.toArray of = true := fun p op h1 h2 => by
    have := hp p h1
    simp only [h2, Bool.and_eq_true] at this
    exact this.1
  have hch : ∀ p op, p < f → l.toArray[p]? = some op → p ≠ c → chainB op = false := fun p op h1 h2 h3 => by
    have := hp p h1
    simp only [h2, Bool.and_eq_true, if_neg h3] at this
    simpa using this.2
  have hcc : chainB oc = true := by
    have := hp c hcf
    simp only [hoc', Bool.and_eq_true, if_true] at this
    exact this.2
  have hlt : ∀ i oi, l.toArray[i]? = some oi → ∀ e ∈ oi.after, Region.binds .any e = true → e.on < i := fun i oi hi e he hb => by
    have h1 := hO i (Array.getElem?_eq_some_iff.1 hi).1
    simp only [hi, Bool.and_eq_true, Array.all_eq_true_iff_forall_mem] at h1
    simpa [hb] using h1.1 e he
  have hall : ∀ i oi p op, l.toArray[i]? = some oi → l.toArray[p]? = some op → p < i → i ≠ f → ∀ L : Nat → Prop, (∀ j o, l.toArray[j]? = some o → L j → ∀ e ∈ o.after, Region.binds .any e = true → L e.on) → L i → L p ∨
      (p ≠ f ∧ i < n ∧ op.apart l.toArray oi = true ∧ (chainB op = false ∨ chainB oi = false)) := by
    intro i oi p op hi hpp hlt' hif L hL hLi
    have h1 := hO i (Array.getElem?_eq_some_iff.1 hi).1
    simp only [hi, Bool.and_eq_true, Bool.or_eq_true, beq_iff_eq, List.all_eq_true, List.mem_range] at h1
    have h2 := h1.2.resolve_left hif p hlt'
    simp only [hpp, Bool.or_eq_true, Bool.and_eq_true, decide_eq_true_eq, bne_iff_ne, ne_eq, Bool.not_eq_true', Bool.and_eq_false_iff] at h2
    rcases h2 with h2 | ⟨⟨h2, h3⟩, h4, h5⟩
    · exact .inl (clos_good L hL l.toArray.toList #[] (by simp) (by simp) i p h2 hLi)
    · exact .inr ⟨h2, h3, h4, h5⟩
  refine wp_region_any hm ?_
  have hmapA : ∀ k m, k + m ≤ l.length → (List.range' k m).map (fun i => l.toArray[i]?) = ((l.drop k).take m).map some := range_map l
  have hfr : ∀ (r : List Nat), (∀ j ∈ r, j < l.length) → r.filter (fun j => !(Array.replicate l.toArray.size false).getD j true) = r := fun r hr => filter_none r fun j hj => by
    have := hr j hj
    simp [Array.getD_eq_getD_getElem?, Array.getElem?_replicate, this]
  refine wpAny_of_mixF (J := J) (n := n) (of := of) (f := f) hs hlt (fun i oi p op h1 h2 h3 h4 h5 L hL hLi => (hall i oi p op h1 h2 h3 h4 L hL hLi).imp (fun h => h) (fun h => h.2)) hof' hfn hfg hfa hfp
    (fun i oi hi hfi L hL hLi => (hall i oi f of hi hof' hfi (by omega) L hL hLi).resolve_right (fun h => h.1 rfl)) _ _ _ _ ?_ (by simp) ?_ ?_ hJ ?_
  · have : f < l.length := by omega
    simp [Array.getD_eq_getD_getElem?, Array.getElem?_replicate, this]
  · unfold remOf
    rw [hfr _ (fun j hj => by simpa using hj)]
    simp
  · intro j o _ hj
    have : (Array.replicate l.toArray.size false).getD j false = false := by
      simp only [Array.getD_eq_getD_getElem?, Array.getElem?_replicate]
      split <;> rfl
    rw [this] at hj; cases hj
  · rw [hfr _ (fun j hj => by have := List.mem_range'_1.1 hj; omega), hfr _ (fun j hj => by have := List.mem_range.1 hj; omega)]
    have e1 : List.range f = List.range' 0 c ++ c :: List.range' (c + 1) (f - (c + 1)) := by rw [range_split f c hcf, List.range_eq_range']
    rw [e1]
    refine wpMixF_pre _ _ _ (fun i hi => ?_) ?_
    · have := List.mem_range'_1.1 hi
      have hil : l.toArray[i]? = some l.toArray[i] := Array.getElem?_eq_getElem (by omega)
      exact ⟨by omega, _, hil, hch i _ (by omega) hil (by omega)⟩
    · have key : ∀ a' w', (wpMix P l.toArray J Q (n - c) (oc :: ((l.take f).drop (c + 1) ++ of :: l.drop (f + 1))) a' w' ∧
          wpMix P l.toArray J Q (n - c) (of :: oc :: ((l.take f).drop (c + 1) ++ l.drop (f + 1))) a' w') → wpMixF P l.toArray J Q n of (List.range' (f + 1) (l.toArray.size - (f + 1))) (c :: List.range' (c + 1) (f - (c + 1))) a' w' := by
        rintro a' w' ⟨h1, h2⟩
        have hm1 : (List.range' (c + 1) (f - (c + 1))).map (fun i => l.toArray[i]?) = ((l.take f).drop (c + 1)).map some := by
          rw [hmapA _ _ (by omega), List.drop_take]
        have hm2 : (List.range' (f + 1) (l.toArray.size - (f + 1))).map (fun i => l.toArray[i]?) = (l.drop (f + 1)).map some := by
          rw [hmapA _ _ (by omega), List.take_of_length_le (by simp)]
        refine wpMixF_fork hfn (by omega) hof' hfg hfc hoc' hcc _ _ _ (fun i hi => ?_) ?_ ?_
        · have := List.mem_range'_1.1 hi
          have hil : l.toArray[i]? = some l.toArray[i] := Array.getElem?_eq_getElem (by omega)
          exact ⟨by omega, _, hil, hch i _ (by omega) hil (by omega)⟩
        · refine wpMixI_list _ _ (n - c) a' w' ?_ ?_ h1
          · simp only [List.map_cons, List.map_append, hoc', hof', hm1, hm2]
          · intro j i hj
            have : i = c + j := by
              have e : c :: (List.range' (c + 1) (f - (c + 1)) ++ f :: List.range' (f + 1) (l.toArray.size - (f + 1))) = List.range' c (l.length - c) := by
                rw [show l.length - c = (f - (c + 1)) + ((l.toArray.size - (f + 1)) + 1) + 1 from by omega, List.range'_succ]
                congr 1
                rw [← List.range'_append_1, List.range'_succ, show c + 1 + (f - (c + 1)) = f from by omega]
              rw [e] at hj
              exact (range'_at hj).1
            omega
        · refine wpMixI_list _ _ (n - c) a' w' ?_ ?_ h2
          · simp only [List.map_cons, List.map_append, hoc', hof', hm1, hm2]
          · intro j i hj
            match j with
            | 0 => simp at hj; omega
            | 1 => simp at hj; omega
            | j + 2 =>
              simp only [List.getElem?_cons_succ] at hj
              rw [List.getElem?_append] at hj
              have hlr : (List.range' (c + 1) (f - (c + 1))).length = f - (c + 1) := by simp
              split at hj
              · rename_i hlt'
                simp at hlt'
                have := range'_at hj
                omega
              · rename_i hlt'
                simp at hlt'
                have := range'_at hj
                omega
      refine wpMixI_floats_mono (Q1 := fun _ a' w' => wpMix P l.toArray J Q (n - c) (oc :: ((l.take f).drop (c + 1) ++ of :: l.drop (f + 1))) a' w' ∧
          wpMix P l.toArray J Q (n - c) (of :: oc :: ((l.take f).drop (c + 1) ++ l.drop (f + 1))) a' w') key _ _ _ (fun i hi => ?_) ?_
      · have := List.mem_range'_1.1 hi
        have hil : l.toArray[i]? = some l.toArray[i] := Array.getElem?_eq_getElem (by omega)
        exact ⟨by omega, _, hil, hch i _ (by omega) hil (by omega)⟩
      · refine wpMixI_list _ _ c _ _ ?_ ?_ h
        · rw [hmapA _ _ (by omega), List.drop_zero]
        · intro j i hj
          have := range'_at hj
          omega
theorem wp_region_fork_std {id : Nat} {a : Act} {w : World} {l : List Oper} (J : World → Prop) (n c f : Nat) (hm : P.follows .mixedOrders = true) (hB : mixOkF l.toArray n c f = true) (hJ : J w.drew)
    (h : wpMix P l.toArray J (fun _ a' w' => wpMix P l.toArray J Q (n - c) (l.drop c) a' w' ∧
      wpMix P l.toArray J Q (n - c) ((l.drop f).take 1 ++ ((l.take f).drop c ++ l.drop (f + 1))) a' w') c (l.take c) a w.drew) : (Code.region id l.toArray true).wp P Q a w := by
  have hcf : c < f ∧ f < l.length := by
    have h := hB
    simp only [mixOkF, Bool.and_eq_true, decide_eq_true_eq] at h
    have hsz : l.toArray.size = l.length := by simp
    omega
  have e1 : l.drop f = l[f] :: l.drop (f + 1) := List.drop_eq_getElem_cons hcf.2
  have e2 : (l.take f).drop c = l[c] :: (l.take f).drop (c + 1) := by
    rw [List.drop_eq_getElem_cons (by simp; omega)]
    simp
  have e3 : l.drop c = (l.take f).drop c ++ l.drop f := by
    have h1 : l = l.take f ++ l.drop f := (List.take_append_drop f l).symm
    have h2 := congrArg (List.drop c) h1
    rw [List.drop_append_of_le_length (by simp; omega)] at h2
    exact h2
  refine wp_region_fork (oc := l[c]) (of := l[f]) J n c f hm hB hJ (List.getElem?_eq_getElem (by omega)) (List.getElem?_eq_getElem (by omega)) ?_
  rw [e3, e2, e1] at h
  simp only [List.cons_append, List.take_succ_cons, List.take_zero, List.nil_append] at h
  exact h
end
end Go.Proofs.YtgoifgockcpnhaaDoor

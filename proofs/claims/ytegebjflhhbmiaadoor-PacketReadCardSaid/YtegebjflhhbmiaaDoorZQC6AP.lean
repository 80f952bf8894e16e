/- Refusals: how they are made. -/
import Derived.Test.YtegebjflhhbmiaaDoorZQC6AM
import Derived.LaidLaws
set_option linter.unusedSimpArgs false
set_option linter.unusedVariables false
namespace Go.Proofs.YtegebjflhhbmiaaDoor
open Go Go.RowKit

theorem laidVars_mem {P : Program} {w : World} : ∀ {l : List (String × DataW Unit)} {ps : List MemPlace}, DataW.LaidVars P w l ps → ∀ {n : String} {d : DataW Unit}, (n, d) ∈ l →
    ∃ g t cs fuel p, P.globalNamed n = some g ∧ (P.globals[g]?).map (·.type) = some t ∧ w.var? P n = some cs ∧ DataW.trod (fun _ => ()) P w 0 (fun _ => true) false fuel t cs.toList = some (d, p) ∧ (∀ x, x ∈ MemPlace.row ⟨g, 0, none⟩ cs.size → x ∈ ps) ∧ ∀ x, x ∈ p → x ∈ ps
  | (m, e) :: r, ps, ⟨g, t, cs, fuel, p, q, h1, h2, h3, h4, h5, h6⟩, n, d, hm => by
    rcases List.mem_cons.1 hm with hx | hx
    · cases hx
      exact ⟨g, t, cs, fuel, p, h1, h2, h3, h4, (fun x hx => by rw [h6]; simp [hx]), fun x hx => by rw [h6]; simp [hx]⟩
    · obtain ⟨g', t', cs', fuel', p', k1, k2, k3, k4, k5, k6⟩ := laidVars_mem h5 hx
      exact ⟨g', t', cs', fuel', p', k1, k2, k3, k4, (fun x hx => by rw [h6]; simp [k5 x hx]), fun x hx => by rw [h6]; simp [k6 x hx]⟩
theorem cell_of_own {W w : World} (h : Own (Exh (fun b => W.heap[b]?)) w) {a : Addr} {v : Value} (hc : W.cell? a = some v) : w.cell? a = some v := by
  obtain ⟨x, hx, hi⟩ := h
  unfold World.cell? at hc ⊢
  split at hc
  · rename_i h2
    rw [hi _ _ (hx _ _ h2)]
    exact hc
  · cases hc
theorem block_of_own {W w : World} (h : Own (Exh (fun b => W.heap[b]?)) w) {b : Nat} {o : Obj} (hb : W.heap[b]? = some o) : w.heap[b]? = some o := by
  obtain ⟨x, hx, hi⟩ := h
  exact hi _ _ (hx _ _ hb)
theorem row_err (u : TypeId) (h : Tryd.prog.typeName? 3 u = some "*errors.errorString") : u = 162 :=
  typeName_ptr_named (nm := "errors.errorString") (by rw [show "*" ++ "errors.errorString" = "*errors.errorString" by decide]; kernel_rfl) (by kernel_rfl) (by decide) u (by rw [show "*" ++ "errors.errorString" = "*errors.errorString" by decide]; exact h)
/-- A variable holds a reason of that text. -/
def ErrAt (F : HP) (g : Nat) (bs : List UInt8) : Prop := ∃ a : Addr, ReadC F g 0 (.iface 162 (.pointer (some a))) ∧ ∀ w, Own F w → (∃ s, w.cell? a = some (.string s) ∧ s.data.toList = bs) ∧ ∃ c t, w.heap[a.block]? = some (.cells c t (0, 0))
set_option maxRecDepth 100000 in
theorem errAt_of_laid {W : World} {l : List (String × DataW Unit)} (h : laidMetH Tryd.prog l W) (hh : (l.all fun x => x.2.handleName?.isNone) = true) {n : String} {bs : List UInt8} {g : Nat}
    (hm : (n, DataW.iface "*errors.errorString" (.ptr (.agg [.lit (.string bs)]))) ∈ l) (hg : Tryd.prog.globalNamed n = some g) (ht : (Tryd.prog.globals[g]?).map (·.type) = some 34) : ErrAt (Exh (fun b => W.heap[b]?)) g bs := by
  have he : (l.filter fun x => x.2.handleName?.isSome) = [] := List.filter_eq_nil_iff.2 fun x hx hs => by
    have := List.all_eq_true.1 hh x hx
    revert hs this
    cases x.2.handleName? <;> simp
  unfold laidMetH at h
  rw [he] at h
  obtain ⟨ps, hv, hnd, hrows⟩ := h
  obtain ⟨g', t', cs, fuel, p, h1, h2, h3, h4, h5, h6⟩ := laidVars_mem hv hm
  obtain rfl := Option.some.inj (hg.symm.trans h1)
  obtain rfl := Option.some.inj (ht.symm.trans h2)
  obtain ⟨l0⟩ := cs
  have ok0 : ∀ u v, l0 = [.iface u v] → Value.okWide Tryd.prog W .any 0 u v := fun u v e => by
    subst e
    exact (hrows g 0 (h5 _ (by simp [MemPlace.row]))).2 u v (by simpa using World.var?_cell hg h3 0)
  obtain ⟨a, s, rfl, hc, hs, _, hp⟩ := errorString_of_trod Tryd.underlying34 row_err Tryd.underlying162 Tryd.underlying179 rfl rfl Tryd.underlying9 (by kernel_rfl) (by kernel_rfl) h4 ok0
  refine ⟨a, fun w hw => cell_of_own hw (by simpa using World.var?_cell hg h3 0), fun w hw => ⟨⟨s, cell_of_own hw hc, hs⟩, ?_⟩⟩
  obtain ⟨c, t, hb⟩ := (hrows a.block a.off (h6 _ (by rw [hp]; simp [MemPlace.row]))).1
  exact ⟨c, t, block_of_own hw hb⟩
end Go.Proofs.YtegebjflhhbmiaaDoor

set_option linter.unusedSimpArgs false
set_option linter.unusedVariables false
namespace Go.Proofs.YtegebjflhhbmiaaDoor
open Go Go.RowKit

/-- A refusal in memory: where, and why. -/
def fltv (a b : ByteArray) (n : Int) (t : TypeId) (p : Option Addr) : Array Value := #[.string a, .string b, .int .i64 n, .iface t (.pointer p)]
def atV (n : Int) : Int := if n < -1 then -1 else n
theorem fnew_s (c0 : World) (F : HP) (a b : ByteArray) (n : Int) (t : TypeId) (p : Option Addr) : Spec Tryd.prog c0 28 #[.string a, .string b, .int .i64 n, .iface t (.pointer p)] F
    (fun r => ex fun g => pu (r = .iface 116 (.pointer (some ⟨g, 0, none⟩))) (blk g (.cells (fltv a b (atV n) t p) 118 (0, 0)) * F)) := by
  intro w hs
  by_cases hn : n < -1
  · have hv : atV n = -1 := if_pos hn
    go_enter Tryd.func28, Tryd.ntmps28
    go_wp2_with (first
        | ((with_reducible apply pl_build hs); (focus (simp only [zj, zk, zl, Act.eval, za, zb, zc, zd, ze, zf]; (try with_reducible rfl); done)); (first | (with_reducible exact bld_15 _ _ _ _ _)); (focus rfl); simp only [Act.put, zg, zh, zi])
        | ((with_reducible apply pl_box hs); (focus (simp only [Act.eval, za, zb, zc, zd, ze, zf]; (try with_reducible rfl); done)); (focus (first | (with_reducible (first | exact cells_intv _ | exact cells_bytv _ | exact cells_agg _ | exact cells_int _ _ | exact cells_bool _ | exact cells_string _ | exact cells_slice _ _ _ | exact cells_pointer _ | exact cells_map _ | exact cells_iface _ _ | exact cells_nilIface | exact cells_func _ _ _)) | (exact cells_one (by assumption)))); clear hs; (try clear w); intro g w hs; skip; simp only [Act.put, zg, zh, zi]))
    (go_ret; simp only [za, zb, zc, zd, ze, zf])
    exact ⟨_, rfl, hs.mono (ent_ex _ (ent_pu rfl (by (try rw [hv]); unfold fltv; ((repeat (first | (with_reducible (first | exact ent_refl | exact ent_emp)) | ((with_reducible apply ent_front); (focus with_reducible (repeat (first | exact ent_here | apply ent_next | exact ent_last)); done)) | (with_reducible (first | exact ent_keep | apply ent_trans ent_drop)))); done))))⟩
  · have hv : atV n = n := if_neg hn
    go_enter Tryd.func28, Tryd.ntmps28
    go_wp2_with (first
        | ((with_reducible apply pl_build hs); (focus (simp only [zj, zk, zl, Act.eval, za, zb, zc, zd, ze, zf]; (try with_reducible rfl); done)); (first | (with_reducible exact bld_15 _ _ _ _ _)); (focus rfl); simp only [Act.put, zg, zh, zi])
        | ((with_reducible apply pl_box hs); (focus (simp only [Act.eval, za, zb, zc, zd, ze, zf]; (try with_reducible rfl); done)); (focus (first | (with_reducible (first | exact cells_intv _ | exact cells_bytv _ | exact cells_agg _ | exact cells_int _ _ | exact cells_bool _ | exact cells_string _ | exact cells_slice _ _ _ | exact cells_pointer _ | exact cells_map _ | exact cells_iface _ _ | exact cells_nilIface | exact cells_func _ _ _)) | (exact cells_one (by assumption)))); clear hs; (try clear w); intro g w hs; skip; simp only [Act.put, zg, zh, zi]))
    (go_ret; simp only [za, zb, zc, zd, ze, zf])
    exact ⟨_, rfl, hs.mono (ent_ex _ (ent_pu rfl (by (try rw [hv]); unfold fltv; ((repeat (first | (with_reducible (first | exact ent_refl | exact ent_emp)) | ((with_reducible apply ent_front); (focus with_reducible (repeat (first | exact ent_here | apply ent_next | exact ent_last)); done)) | (with_reducible (first | exact ent_keep | apply ent_trans ent_drop)))); done))))⟩
end Go.Proofs.YtegebjflhhbmiaaDoor

/- The money's package-level variables. -/
import Derived.Test.YtchbobndobpocaaDoorRows
import Derived.Test.YtchbobndobpocaaDoorA23
import Derived.Test.YtchbobndobpocaaDoorTdM
import Derived.Lib.LaidTab
import Derived.Lib.ItoaNum
import Derived.Stop.LaidErr
import Derived.LaidByTextLater
namespace Go.Proofs.YtchbobndobpocaaDoor
open Go.Abs
theorem gn4 : Tryd.prog.globalNamed "internal/strconv.uint64pow10" = some 4 := by kernel_rfl
theorem gn2 : Tryd.prog.globalNamed "strconv.ErrSyntax" = some 2 := by kernel_rfl
theorem gn3 : Tryd.prog.globalNamed "strconv.ErrRange" = some 3 := by kernel_rfl
theorem gt4 : (Tryd.prog.globals[4]?).map (·.type) = some 105 := by kernel_rfl
theorem gt2 : (Tryd.prog.globals[2]?).map (·.type) = some 56 := by kernel_rfl
theorem gt3 : (Tryd.prog.globals[3]?).map (·.type) = some 56 := by kernel_rfl
theorem star : "*" ++ "errors.errorString" = "*errors.errorString" := by decide
theorem row116 (u : TypeId) (h : Tryd.prog.typeName? 3 u = some "*errors.errorString") : u = 116 :=
  typeName_ptr_named (nm := "errors.errorString") (by rw [star]; kernel_rfl) (by kernel_rfl) (by decide) u (by rw [star]; exact h)

def GlobOk (w : World) : Prop := Lib.TabIs Tryd.prog w "internal/strconv.uint64pow10" .u64 Lib.pow10Tab ∧ (∃ tp p, w.var? Tryd.prog "strconv.ErrSyntax" = some #[.iface tp p]) ∧ (∃ tp p, w.var? Tryd.prog "strconv.ErrRange" = some #[.iface tp p])

theorem var_same {w w' : World} {n : String} {g : Nat} (hg : Tryd.prog.globalNamed n = some g) (h : w'.heap[g]? = w.heap[g]?) : w'.var? Tryd.prog n = w.var? Tryd.prog n := by
  unfold World.var?; rw [hg]; simp only [Option.bind_some]; rw [h]

instance gl : Gl where
  n := 5
  ok := GlobOk
  stable h hb := by
    refine ⟨?_, ?_, ?_⟩
    · unfold Lib.TabIs; rw [var_same gn4 (hb 4 (by decide))]; exact h.1
    · rw [var_same gn2 (hb 2 (by decide))]; exact h.2.1
    · rw [var_same gn3 (hb 3 (by decide))]; exact h.2.2

theorem gls_of {W : World} (h : GlobOk W) : Gls W (fun _ => False) := by
  refine ⟨fun b hb => ⟨?_, fun h => h⟩, h⟩
  have h4 : 4 < W.heap.size := by
    have := h.1
    unfold Lib.TabIs World.var? at this
    rw [gn4] at this
    simp only [Option.bind_some] at this
    rcases Nat.lt_or_ge 4 W.heap.size with h | h
    · exact h
    · rw [Array.getElem?_eq_none h] at this; cases this
  have : b < 5 := hb
  omega

theorem tab_eq : (Rows.laid_internal_strconv_uint64pow10 : DataW Unit) = Lib.tabData .u64 Lib.pow10Tab := by kernel_rfl

theorem hgl {L : List (String × DataW Unit)} (hL : L = Rows.moneySharesRow.laid) (W : World) (h : laidMetH Tryd.prog L W) (_ : W.ShapedOpen Tryd.prog) : Gls W (fun _ => False) := by
  subst hL
  rw [MakeChecks.laidMetH_plain _ _ _ (by kernel_rfl)] at h
  have h3 := h.tail.tail
  have h5 := h3.tail.tail
  have h6 := h5.tail
  refine gls_of ⟨?_, ?_, ?_⟩
  · have h3' : laidMet Tryd.prog (("internal/strconv.uint64pow10", Rows.laid_internal_strconv_uint64pow10) :: (Rows.moneySharesRow.laid.drop 3)) W := h3
    rw [tab_eq] at h3'
    exact Lib.tabIs_of_head gn4 gt4 (n := 20) (e := 45) (by kernel_rfl) (by kernel_rfl) (by kernel_rfl) (by kernel_rfl) h3'
  · obtain ⟨a, s, hv, _⟩ := laid_sentinel h6 gn2 gt2 Tryd.underlying56 row116 Tryd.underlying116 Tryd.underlying118 rfl rfl Tryd.underlying9 (by kernel_rfl) (by kernel_rfl)
    exact ⟨_, _, hv⟩
  · obtain ⟨a, s, hv, _⟩ := laid_sentinel h5 gn3 gt3 Tryd.underlying56 row116 Tryd.underlying116 Tryd.underlying118 rfl rfl Tryd.underlying9 (by kernel_rfl) (by kernel_rfl)
    exact ⟨_, _, hv⟩
end Go.Proofs.YtchbobndobpocaaDoor

/- What the closed calls lean on of Go's library, out of the row's own condition. -/
import Derived.Test.YtnfcjgfaecihbaaGreatDoorLinkD
import Derived.Test.YtnfcjgfaecihbaaGreatDoorRows
import Derived.Lib.LaidCase
import Derived.Lib.LaidTab
import Derived.LaidMore
set_option linter.all false
set_option linter.all false
namespace Go.Proofs.YtnfcjgfaecihbaaGreatDoor
open Go.RowKit Go.Lib Go.Shelf Go.Sort
theorem tabIs_of_readsD {P : Program} {W : World} {name : String} {k : IntKind} {zs : List Int} {g : Nat} {t e : TypeId} {n : Nat}
    (hg : P.globalNamed name = some g) (hty : (P.globals[g]?).map (·.type) = some t) (ht : P.underlying t = some (.array n e)) (he : P.underlying e = some (.int k)) (hce : P.cellsOf e = 1) (hct : P.cellsOf t = n)
    (h : VarReads P W name (tabData k zs)) : TabIs P W name k zs := by
  obtain ⟨g', t', cs, fuel, p, hg', ht', hvar, hd⟩ := h
  obtain rfl := Option.some.inj (hg.symm.trans hg')
  obtain rfl := Option.some.inj (hty.symm.trans ht')
  unfold TabIs
  rw [hvar, ← cells_of_tab ht he hce hct hd]
set_option maxRecDepth 100000 in
theorem tab_of_laid {W : World} (h : laidMetH Tryz.prog Rows.dependNothingRow.laid W) : Tab3 W := by
  rw [MakeChecks.laidMetH_plain _ _ _ (by kernel_rfl)] at h
  have r2 : VarReads Tryz.prog W "internal/strconv.uint64pow10" (tabData .u64 Lib.pow10Tab) := by
    first
      | exact Lib.laidMet.reads h (.head _)
      | exact Lib.laidMet.reads h (.tail _ (.head _))
      | exact Lib.laidMet.reads h (.tail _ (.tail _ (.head _)))
      | exact Lib.laidMet.reads h (.tail _ (.tail _ (.tail _ (.head _))))
      | exact Lib.laidMet.reads h (.tail _ (.tail _ (.tail _ (.tail _ (.head _)))))
      | exact Lib.laidMet.reads h (.tail _ (.tail _ (.tail _ (.tail _ (.tail _ (.head _))))))
      | exact Lib.laidMet.reads h (.tail _ (.tail _ (.tail _ (.tail _ (.tail _ (.tail _ (.head _)))))))
      | exact Lib.laidMet.reads h (.tail _ (.tail _ (.tail _ (.tail _ (.tail _ (.tail _ (.tail _ (.head _))))))))
  exact .of_tab (tabIs_of_readsD (g := 3) (by kernel_rfl) rfl rfl rfl (by kernel_rfl) (by kernel_rfl) r2)
end Go.Proofs.YtnfcjgfaecihbaaGreatDoor

/- Folds: what a row of cells comes to; what is handed in. -/
import Derived.Test.YtahgfebdjjfkhaaAtomC
import Derived.Test.YtahgfebdjjfkhaaArr5
import Derived.Test.YtahgfebdjjfkhaaArr9
import Derived.Test.YtahgfebdjjfkhaaPx2
import Derived.Test.YtahgfebdjjfkhaaPx5
import Derived.Test.YtahgfebdjjfkhaaPx7
namespace Go.Proofs.Ytahgfebdjjfkhaa.Pure
open Go.RowKit Go.Proofs.Ytahgfebdjjfkhaa.P Go.Proofs.Ytahgfebdjjfkhaa.Nest Go.Proofs.YtahgfebdjjfkhaaW.PrintWords Go.Proofs.YtahgfebdjjfkhaaW.PrintLast Go.Proofs.YtahgfebdjjfkhaaW.PrintMore
set_option linter.unusedVariables false
set_option linter.unusedSimpArgs false
def ofS (op : Int) (t : Bool) (x y : S43) : Int × Int := if t = true then celS op y x else celS op x y
theorem of_eq {op : Int} {t : Bool} {x y : S43} (hx : I64 x.f1) (hy : I64 y.f1) {k : Nat} (hk : 8 ≤ k) : fold_F_of.f k op t x.f0 x.f1 x.f2 y.f0 y.f1 y.f2 = some (0, (ofS op t x y).1, [], (ofS op t x y).2) := by
  unfold fold_F_of.f ofS
  cases t with
  | false => rw [if_neg (by decide), if_neg (by decide), acel_eq hx hy hk]; rfl
  | true => rw [if_pos rfl, if_pos rfl, acel_eq hy hx hk]; rfl
theorem ofS_i64 {op : Int} {t : Bool} {x y : S43} (hx : I64 x.f1) (hy : I64 y.f1) : I64 (ofS op t x y).1 := by
  unfold ofS
  split
  · exact celS_i64 hy hx
  · exact celS_i64 hx hy
theorem getD_mem {l : List S43} {i : Nat} (h : i < l.length) : l.getD i z43 ∈ l := by
  rw [List.getD_eq_getElem?_getD, List.getElem?_eq_getElem h]
  exact List.getElem_mem h
theorem rdC_nat (l : List S43) (i : Nat) : rd_T43 l (i : Int) = l.getD i z43 := by unfold rd_T43; rw [Int.toNat_natCast]
theorem is_eq (op : Int) : atomic_Is.f op = some (decide (21 ≤ op ∧ op ≤ 32)) := by
  unfold atomic_Is.f
  by_cases h : op ≥ 21
  · rw [if_pos h]
    congr 1
    apply Bool.eq_iff_iff.2
    simp
    omega
  · rw [if_neg h]
    congr 1
    apply Bool.eq_iff_iff.2
    simp
    omega
def chkS (op : Int) (a : S25) : Int := if chA a 0 = 0 then (if 21 ≤ op ∧ op ≤ 32 then 0 else 1) else chA a 0
end Go.Proofs.Ytahgfebdjjfkhaa.Pure

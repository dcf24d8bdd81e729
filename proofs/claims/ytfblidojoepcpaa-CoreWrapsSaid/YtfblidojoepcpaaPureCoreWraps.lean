/- CoreWraps: what it computes is yes, for every number of a function and every two programs. -/
import Derived.Test.YtfblidojoepcpaaStaCoreWraps
import Derived.Test.YtfblidojoepcpaaCoreEq2
import Derived.Test.YtfblidojoepcpaaCoreWorks
import Derived.Test.YtfblidojoepcpaaPx13
import Derived.Test.YtfblidojoepcpaaPx4
import Derived.Test.YtfblidojoepcpaaPx5
import Derived.Test.YtfblidojoepcpaaPx6
namespace Go.Proofs.Ytfblidojoepcpaa.Pure
open Go.RowKit Go.Proofs.Ytfblidojoepcpaa.P Go.Proofs.Ytfblidojoepcpaa.Nest Go.Proofs.YtfblidojoepcpaaW.PrintWords Go.Proofs.YtfblidojoepcpaaW.PrintLast Go.Proofs.YtfblidojoepcpaaW.PrintMore
set_option linter.unusedVariables false
set_option linter.unusedSimpArgs false
def wrPrim (op : Int) : S34 := ⟨21, op, ⟨#[]⟩, ⟨[], []⟩, [], 0⟩
def wrOne (f x : S34) : S34 := ⟨5, 0, ⟨#[]⟩, ⟨[], []⟩, [f, x], 0⟩
def wrTwo (f x y : S34) : S34 := ⟨6, 0, ⟨#[]⟩, ⟨[], []⟩, [f, x, y], 0⟩
def wrWith (k : Int) (f : S34) : S34 := ⟨k, 0, ⟨#[]⟩, ⟨[], []⟩, [f], 0⟩
theorem wr_emp : (⟨#[]⟩ : ByteArray).toList.isEmpty = true := by kernel_rfl
theorem wr_sh (a b : Int) (l : List S34) (n : Nat) (h : l.length = n) (hb : b = 0) (z : Bool) : rfSh ⟨a, b, ⟨#[]⟩, ⟨[], []⟩, l, 0⟩ n z false false = true := by
  subst hb h
  unfold rfSh rfB
  simp only [wr_emp]
  simp
theorem wr_p (op lo hi : Int) : rfP (wrPrim op) lo hi = (decide (op ≥ lo) && decide (op ≤ hi)) := by
  unfold rfP rfSh rfB wrPrim
  simp only [wr_emp]
  simp
theorem wr_kid0 (a b : Int) (n : ByteArray) (l : S25) (x : S34) (xs : List S34) (p : Int) : rfKid ⟨a, b, n, l, x :: xs, p⟩ 0 = x := rfl
theorem wr_kid1 (a b : Int) (n : ByteArray) (l : S25) (x y : S34) (xs : List S34) (p : Int) : rfKid ⟨a, b, n, l, x :: y :: xs, p⟩ 1 = y := rfl
theorem wr_kid2 (a b : Int) (n : ByteArray) (l : S25) (x y z : S34) (xs : List S34) (p : Int) : rfKid ⟨a, b, n, l, x :: y :: z :: xs, p⟩ 2 = z := rfl
theorem wr_mo (op : Int) (k : Nat) : rmoF (k + 1) (wrPrim op) = some (decide (op ≥ 1) && decide (op ≤ 19)) := by
  rw [rmoF, if_pos (show (wrPrim op).f0 = 21 from rfl), wr_p]
theorem wr_dy (op : Int) (k : Nat) : rdyF (k + 2) (wrPrim op) = some ((decide (op ≥ 21) && decide (op ≤ 32)) || (decide (op ≥ 41) && decide (op ≤ 54))) := by
  rw [rdyF, if_neg (show ¬ (wrPrim op).f0 = 25 from fun h_ => absurd (show (21 : Int) = 25 from h_) (by decide)), if_neg (show ¬ (wrPrim op).f0 = 35 from fun h_ => absurd (show (21 : Int) = 35 from h_) (by decide)), rtwF, if_neg (show ¬ (wrPrim op).f0 = 23 from fun h_ => absurd (show (21 : Int) = 23 from h_) (by decide)), wr_p, wr_p]
theorem wr_red (op : Int) (k : Nat) : rmoF (k + 1) (wrWith 31 (wrPrim op)) = some (decide (op ≥ 21) && decide (op ≤ 32)) := by
  rw [rmoF, if_neg (show ¬ (wrWith 31 (wrPrim op)).f0 = 21 from fun h_ => absurd (show (31 : Int) = 21 from h_) (by decide)), if_neg (show ¬ (wrWith 31 (wrPrim op)).f0 = 22 from fun h_ => absurd (show (31 : Int) = 22 from h_) (by decide)), if_pos (.inl rfl)]
  unfold wrWith
  rw [wr_kid0, show ((1 : Int)) = ((1 : Nat) : Int) from rfl, wr_sh _ _ _ 1 rfl rfl, rfT, if_neg (show ¬ (wrPrim op).f0 = 35 from fun h_ => absurd (show (21 : Int) = 35 from h_) (by decide)), wr_p]
  rfl
theorem wr_one_ex (f x : S34) (b : Bool) (h : ∃ K, ∀ k, K ≤ k → rmoF k f = some b) (hx : ∃ K, ∀ k, K ≤ k → rexF k x false = some true) : ∃ K, ∀ k, K ≤ k → rexF k (wrOne f x) false = some b := by
  obtain ⟨K1, h1⟩ := h
  obtain ⟨K2, h2⟩ := hx
  refine ⟨K1 + K2 + 1, fun k hk => ?_⟩
  obtain ⟨k, rfl, hk2⟩ := succ_of hk
  unfold wrOne
  rw [rexF, if_neg (by simp), if_neg (by simp), if_neg (by simp), if_pos rfl, show ((2 : Int)) = ((2 : Nat) : Int) from rfl, wr_sh _ _ _ 2 rfl rfl, if_pos rfl, wr_kid0, wr_kid1, h1 k (by omega), Option.bind_some, h2 k (by omega)]
  cases b <;> rfl
theorem wr_two_ex (f x y : S34) (b : Bool) (h : ∃ K, ∀ k, K ≤ k → rdyF k f = some b) (hx : ∃ K, ∀ k, K ≤ k → rexF k x false = some true) (hy : ∃ K, ∀ k, K ≤ k → rexF k y false = some true) : ∃ K, ∀ k, K ≤ k → rexF k (wrTwo f x y) false = some b := by
  obtain ⟨K1, h1⟩ := h
  obtain ⟨K2, h2⟩ := hx
  obtain ⟨K3, h3⟩ := hy
  refine ⟨K1 + K2 + K3 + 1, fun k hk => ?_⟩
  obtain ⟨k, rfl, hk2⟩ := succ_of hk
  unfold wrTwo
  rw [rexF, if_neg (by simp), if_neg (by simp), if_neg (by simp), if_neg (by simp), if_pos rfl, show ((3 : Int)) = ((3 : Nat) : Int) from rfl, wr_sh _ _ _ 3 rfl rfl, if_pos rfl, wr_kid0, wr_kid1, wr_kid2, h1 k (by omega), Option.bind_some, h2 k (by omega), Option.bind_some, h3 k (by omega)]
  cases b <;> rfl
theorem okA_none : okA ⟨[], []⟩ := by
  rw [okA]
  exact ⟨⟨by simp, by simp⟩, by simp, by rw [okCs]; trivial⟩
theorem okN_made {a b : Int} {l : List S34} (ha : (Lit.int .i64 a).wf = true) (hb : (Lit.int .i64 b).wf = true) (hl : l.length ≤ 3) (h : ∀ y ∈ l, okN y) : okN ⟨a, b, ⟨#[]⟩, ⟨[], []⟩, l, 0⟩ := by
  rw [okN]
  refine ⟨ha, hb, Nat.zero_le _, okA_none, ⟨?_, okNs_iff.2 h⟩, by decide⟩
  unfold reachBytes
  omega
theorem okN_prim {op : Int} (h : (Lit.int .i64 op).wf = true) : okN (wrPrim op) := okN_made (by decide) h (by simp) (by simp)
theorem okN_one {f x : S34} (hf : okN f) (hx : okN x) : okN (wrOne f x) := okN_made (by decide) (by decide) (by simp) (by simp [hf, hx])
theorem okN_two {f x y : S34} (hf : okN f) (hx : okN x) (hy : okN y) : okN (wrTwo f x y) := okN_made (by decide) (by decide) (by simp) (by simp [hf, hx, hy])
theorem okN_with {f : S34} (hf : okN f) : okN (wrWith 31 f) := okN_made (by decide) (by decide) (by simp) (by simp [hf])
theorem wr_szP (op : Int) : szN (wrPrim op) = 1 ∧ dpN (wrPrim op) = 0 := by
  unfold wrPrim
  rw [szN, dpN, szNs, dpNs]
  omega
theorem wr_sz1 (f x : S34) : szN (wrOne f x) = 1 + (szN f + szN x) ∧ dpN (wrOne f x) = max (1 + dpN f) (1 + dpN x) := by
  unfold wrOne
  have := dpN_pos x
  rw [szN, dpN, szNs, szNs, szNs, dpNs, dpNs, dpNs]
  omega
theorem wr_sz2 (f x y : S34) : szN (wrTwo f x y) = 1 + (szN f + szN x + szN y) ∧ dpN (wrTwo f x y) = max (1 + dpN f) (max (1 + dpN x) (1 + dpN y)) := by
  unfold wrTwo
  have := dpN_pos y
  rw [szN, dpN, szNs, szNs, szNs, szNs, dpNs, dpNs, dpNs, dpNs]
  omega
theorem wr_szW (f : S34) : szN (wrWith 31 f) = 1 + szN f ∧ dpN (wrWith 31 f) = 1 + dpN f := by
  unfold wrWith
  have := dpN_pos f
  rw [szN, dpN, szNs, szNs, dpNs, dpNs]
  omega
/-- A program that is checked: it may be, just if as an expression it may be and is not too great. -/
theorem wr_chk {x : S34} {b : Bool} (h : okN x) (hz : szN x ≤ 2048) (hd : dpN x ≤ 24) (hb : ∃ K, ∀ k, K ≤ k → rexF k x false = some b) : ∃ K, ∀ k, K ≤ k → core_Check.f k x.f0 x.f1 x.f2 x.f3.f0 x.f3.f1 x.f4 x.f5 = some (if b = true then 0 else 1) := by
  obtain ⟨K1, b2, h1, h2⟩ := chkN_eq x h (by omega)
  obtain ⟨K2, h3⟩ := hb
  have e := h1 (K1 + K2) (by omega)
  rw [h3 (K1 + K2) (by omega)] at e
  obtain rfl := Option.some.inj e
  refine ⟨K1, fun k hk => ?_⟩
  rw [(h2 k hk).1]
  by_cases c : b = true
  · rw [if_pos ⟨c, hz, hd⟩, if_pos c]
  · rw [if_neg (fun q => c q.1), if_neg c]
theorem wr_vt (op : Int) (h : op ≥ 1 ∧ op ≤ 19) : (if (decide (op ≥ 1) && decide (op ≤ 19)) = true then (0 : Int) else 1) = 0 := if_pos (by simp; omega)
theorem wr_vf (op : Int) (h : ¬ (op ≥ 1 ∧ op ≤ 19)) : (if (decide (op ≥ 1) && decide (op ≤ 19)) = true then (0 : Int) else 1) = 1 := if_neg (by simp; omega)
theorem wr_ut (op : Int) (h : op ≥ 21 ∧ op ≤ 32) : (if (decide (op ≥ 21) && decide (op ≤ 32)) = true then (0 : Int) else 1) = 0 := if_pos (by simp; omega)
theorem wr_uf (op : Int) (h : ¬ (op ≥ 21 ∧ op ≤ 32)) : (if (decide (op ≥ 21) && decide (op ≤ 32)) = true then (0 : Int) else 1) = 1 := if_neg (by simp; omega)
theorem wr_wt (op : Int) (h : (op ≥ 21 ∧ op ≤ 32) ∨ (op ≥ 41 ∧ op ≤ 54)) : (if ((decide (op ≥ 21) && decide (op ≤ 32)) || (decide (op ≥ 41) && decide (op ≤ 54))) = true then (0 : Int) else 1) = 0 := if_pos (by simp; omega)
theorem wr_wf (op : Int) (h : ¬ ((op ≥ 21 ∧ op ≤ 32) ∨ (op ≥ 41 ∧ op ≤ 54))) : (if ((decide (op ≥ 21) && decide (op ≤ 32)) || (decide (op ≥ 41) && decide (op ≤ 54))) = true then (0 : Int) else 1) = 1 := if_neg (by simp; omega)
def wrTail (k : Nat) (op : Int) (x y : S34) : Option Bool :=
  (triglyphref10_Size.f k (wrTwo (wrPrim op) x y).f0 (wrTwo (wrPrim op) x y).f1 (wrTwo (wrPrim op) x y).f2 (wrTwo (wrPrim op) x y).f3.f0 (wrTwo (wrPrim op) x y).f3.f1 (wrTwo (wrPrim op) x y).f4 (wrTwo (wrPrim op) x y).f5).bind fun t126 => (if t126 ≤ 2048 then ((triglyphref10_Deep.f k (wrTwo (wrPrim op) x y).f0 (wrTwo (wrPrim op) x y).f1 (wrTwo (wrPrim op) x y).f2 (wrTwo (wrPrim op) x y).f3.f0 (wrTwo (wrPrim op) x y).f3.f1 (wrTwo (wrPrim op) x y).f4 (wrTwo (wrPrim op) x y).f5).bind fun t130 => (if t130 ≤ 24 then ((triglyphref10_Deep.f k (wrOne (wrWith 31 (wrPrim op)) y).f0 (wrOne (wrWith 31 (wrPrim op)) y).f1 (wrOne (wrWith 31 (wrPrim op)) y).f2 (wrOne (wrWith 31 (wrPrim op)) y).f3.f0 (wrOne (wrWith 31 (wrPrim op)) y).f3.f1 (wrOne (wrWith 31 (wrPrim op)) y).f4 (wrOne (wrWith 31 (wrPrim op)) y).f5).bind fun t134 => (if t134 ≤ 24 then (if op ≥ 1 then (if op ≤ 19 then ((core_Check.f k (wrOne (wrPrim op) x).f0 (wrOne (wrPrim op) x).f1 (wrOne (wrPrim op) x).f2 (wrOne (wrPrim op) x).f3.f0 (wrOne (wrPrim op) x).f3.f1 (wrOne (wrPrim op) x).f4 (wrOne (wrPrim op) x).f5).bind fun t142 => (if t142 = 0 then ((core_Check.f k (wrTwo (wrPrim op) x y).f0 (wrTwo (wrPrim op) x y).f1 (wrTwo (wrPrim op) x y).f2 (wrTwo (wrPrim op) x y).f3.f0 (wrTwo (wrPrim op) x y).f3.f1 (wrTwo (wrPrim op) x y).f4 (wrTwo (wrPrim op) x y).f5).bind fun t146 => (if t146 = 0 then (none) else ((core_Check.f k (wrOne (wrWith 31 (wrPrim op)) y).f0 (wrOne (wrWith 31 (wrPrim op)) y).f1 (wrOne (wrWith 31 (wrPrim op)) y).f2 (wrOne (wrWith 31 (wrPrim op)) y).f3.f0 (wrOne (wrWith 31 (wrPrim op)) y).f3.f1 (wrOne (wrWith 31 (wrPrim op)) y).f4 (wrOne (wrWith 31 (wrPrim op)) y).f5).bind fun t150 => (if t150 = 0 then (none) else ((triglyphlaw10_works.f k).bind fun t154 => (some t154)))))) else (none))) else (if op ≥ 21 then (if op ≤ 32 then ((core_Check.f k (wrOne (wrPrim op) x).f0 (wrOne (wrPrim op) x).f1 (wrOne (wrPrim op) x).f2 (wrOne (wrPrim op) x).f3.f0 (wrOne (wrPrim op) x).f3.f1 (wrOne (wrPrim op) x).f4 (wrOne (wrPrim op) x).f5).bind fun t159 => (if t159 = 0 then (none) else ((core_Check.f k (wrTwo (wrPrim op) x y).f0 (wrTwo (wrPrim op) x y).f1 (wrTwo (wrPrim op) x y).f2 (wrTwo (wrPrim op) x y).f3.f0 (wrTwo (wrPrim op) x y).f3.f1 (wrTwo (wrPrim op) x y).f4 (wrTwo (wrPrim op) x y).f5).bind fun t163 => (if t163 = 0 then ((core_Check.f k (wrOne (wrWith 31 (wrPrim op)) y).f0 (wrOne (wrWith 31 (wrPrim op)) y).f1 (wrOne (wrWith 31 (wrPrim op)) y).f2 (wrOne (wrWith 31 (wrPrim op)) y).f3.f0 (wrOne (wrWith 31 (wrPrim op)) y).f3.f1 (wrOne (wrWith 31 (wrPrim op)) y).f4 (wrOne (wrWith 31 (wrPrim op)) y).f5).bind fun t167 => (if t167 = 0 then ((triglyphlaw10_works.f k).bind fun t171 => (some t171)) else (none))) else (none))))) else (if op ≥ 41 then (if op ≤ 54 then ((core_Check.f k (wrOne (wrPrim op) x).f0 (wrOne (wrPrim op) x).f1 (wrOne (wrPrim op) x).f2 (wrOne (wrPrim op) x).f3.f0 (wrOne (wrPrim op) x).f3.f1 (wrOne (wrPrim op) x).f4 (wrOne (wrPrim op) x).f5).bind fun t176 => (if t176 = 0 then (none) else ((core_Check.f k (wrTwo (wrPrim op) x y).f0 (wrTwo (wrPrim op) x y).f1 (wrTwo (wrPrim op) x y).f2 (wrTwo (wrPrim op) x y).f3.f0 (wrTwo (wrPrim op) x y).f3.f1 (wrTwo (wrPrim op) x y).f4 (wrTwo (wrPrim op) x y).f5).bind fun t180 => (if t180 = 0 then ((core_Check.f k (wrOne (wrWith 31 (wrPrim op)) y).f0 (wrOne (wrWith 31 (wrPrim op)) y).f1 (wrOne (wrWith 31 (wrPrim op)) y).f2 (wrOne (wrWith 31 (wrPrim op)) y).f3.f0 (wrOne (wrWith 31 (wrPrim op)) y).f3.f1 (wrOne (wrWith 31 (wrPrim op)) y).f4 (wrOne (wrWith 31 (wrPrim op)) y).f5).bind fun t184 => (if t184 = 0 then (none) else ((triglyphlaw10_works.f k).bind fun t188 => (some t188)))) else (none))))) else ((core_Check.f k (wrOne (wrPrim op) x).f0 (wrOne (wrPrim op) x).f1 (wrOne (wrPrim op) x).f2 (wrOne (wrPrim op) x).f3.f0 (wrOne (wrPrim op) x).f3.f1 (wrOne (wrPrim op) x).f4 (wrOne (wrPrim op) x).f5).bind fun t191 => (if t191 = 0 then (none) else ((core_Check.f k (wrTwo (wrPrim op) x y).f0 (wrTwo (wrPrim op) x y).f1 (wrTwo (wrPrim op) x y).f2 (wrTwo (wrPrim op) x y).f3.f0 (wrTwo (wrPrim op) x y).f3.f1 (wrTwo (wrPrim op) x y).f4 (wrTwo (wrPrim op) x y).f5).bind fun t195 => (if t195 = 0 then (none) else ((core_Check.f k (wrOne (wrWith 31 (wrPrim op)) y).f0 (wrOne (wrWith 31 (wrPrim op)) y).f1 (wrOne (wrWith 31 (wrPrim op)) y).f2 (wrOne (wrWith 31 (wrPrim op)) y).f3.f0 (wrOne (wrWith 31 (wrPrim op)) y).f3.f1 (wrOne (wrWith 31 (wrPrim op)) y).f4 (wrOne (wrWith 31 (wrPrim op)) y).f5).bind fun t199 => (if t199 = 0 then (none) else ((triglyphlaw10_works.f k).bind fun t203 => (some t203))))))))) else ((core_Check.f k (wrOne (wrPrim op) x).f0 (wrOne (wrPrim op) x).f1 (wrOne (wrPrim op) x).f2 (wrOne (wrPrim op) x).f3.f0 (wrOne (wrPrim op) x).f3.f1 (wrOne (wrPrim op) x).f4 (wrOne (wrPrim op) x).f5).bind fun t206 => (if t206 = 0 then (none) else ((core_Check.f k (wrTwo (wrPrim op) x y).f0 (wrTwo (wrPrim op) x y).f1 (wrTwo (wrPrim op) x y).f2 (wrTwo (wrPrim op) x y).f3.f0 (wrTwo (wrPrim op) x y).f3.f1 (wrTwo (wrPrim op) x y).f4 (wrTwo (wrPrim op) x y).f5).bind fun t210 => (if t210 = 0 then (none) else ((core_Check.f k (wrOne (wrWith 31 (wrPrim op)) y).f0 (wrOne (wrWith 31 (wrPrim op)) y).f1 (wrOne (wrWith 31 (wrPrim op)) y).f2 (wrOne (wrWith 31 (wrPrim op)) y).f3.f0 (wrOne (wrWith 31 (wrPrim op)) y).f3.f1 (wrOne (wrWith 31 (wrPrim op)) y).f4 (wrOne (wrWith 31 (wrPrim op)) y).f5).bind fun t214 => (if t214 = 0 then (none) else ((triglyphlaw10_works.f k).bind fun t218 => (some t218)))))))))) else ((core_Check.f k (wrOne (wrPrim op) x).f0 (wrOne (wrPrim op) x).f1 (wrOne (wrPrim op) x).f2 (wrOne (wrPrim op) x).f3.f0 (wrOne (wrPrim op) x).f3.f1 (wrOne (wrPrim op) x).f4 (wrOne (wrPrim op) x).f5).bind fun t222 => (if t222 = 0 then (none) else ((core_Check.f k (wrTwo (wrPrim op) x y).f0 (wrTwo (wrPrim op) x y).f1 (wrTwo (wrPrim op) x y).f2 (wrTwo (wrPrim op) x y).f3.f0 (wrTwo (wrPrim op) x y).f3.f1 (wrTwo (wrPrim op) x y).f4 (wrTwo (wrPrim op) x y).f5).bind fun t226 => (if t226 = 0 then (none) else ((core_Check.f k (wrOne (wrWith 31 (wrPrim op)) y).f0 (wrOne (wrWith 31 (wrPrim op)) y).f1 (wrOne (wrWith 31 (wrPrim op)) y).f2 (wrOne (wrWith 31 (wrPrim op)) y).f3.f0 (wrOne (wrWith 31 (wrPrim op)) y).f3.f1 (wrOne (wrWith 31 (wrPrim op)) y).f4 (wrOne (wrWith 31 (wrPrim op)) y).f5).bind fun t230 => (if t230 = 0 then (none) else ((triglyphlaw10_works.f k).bind fun t234 => (some t234)))))))))) else ((core_Check.f k (wrOne (wrPrim op) x).f0 (wrOne (wrPrim op) x).f1 (wrOne (wrPrim op) x).f2 (wrOne (wrPrim op) x).f3.f0 (wrOne (wrPrim op) x).f3.f1 (wrOne (wrPrim op) x).f4 (wrOne (wrPrim op) x).f5).bind fun t239 => (if t239 = 0 then (none) else ((core_Check.f k (wrTwo (wrPrim op) x y).f0 (wrTwo (wrPrim op) x y).f1 (wrTwo (wrPrim op) x y).f2 (wrTwo (wrPrim op) x y).f3.f0 (wrTwo (wrPrim op) x y).f3.f1 (wrTwo (wrPrim op) x y).f4 (wrTwo (wrPrim op) x y).f5).bind fun t243 => (if t243 = 0 then (none) else ((core_Check.f k (wrOne (wrWith 31 (wrPrim op)) y).f0 (wrOne (wrWith 31 (wrPrim op)) y).f1 (wrOne (wrWith 31 (wrPrim op)) y).f2 (wrOne (wrWith 31 (wrPrim op)) y).f3.f0 (wrOne (wrWith 31 (wrPrim op)) y).f3.f1 (wrOne (wrWith 31 (wrPrim op)) y).f4 (wrOne (wrWith 31 (wrPrim op)) y).f5).bind fun t247 => (if t247 = 0 then (none) else ((triglyphlaw10_works.f k).bind fun t251 => (some t251))))))))) else ((triglyphlaw10_works.f k).bind fun t254 => (some t254)))) else ((triglyphlaw10_works.f k).bind fun t257 => (some t257)))) else ((triglyphlaw10_works.f k).bind fun t260 => (some t260)))
theorem CoreWraps : CoreWraps.Pure := by
  intro a0 a1 a2 a3 s1 b1 ks1 p1 d1 d2 d3 s2 b2 ks2 p2 hop hx hy
  obtain ⟨L1, l1, n1, k1⟩ := light_eq ⟨a1, a2, a3, ⟨s1, b1⟩, ks1, p1⟩ hx
  obtain ⟨L2, l2, n2, k2⟩ := light_eq ⟨d1, d2, d3, ⟨s2, b2⟩, ks2, p2⟩ hy
  dsimp only at k1 k2
  cases l1 with
  | false =>
    refine ⟨L1 + 40, ?_⟩
    unfold triglyphlaw10_CoreWraps.f
    rw [k1 _ (by omega), Option.bind_some, if_neg (by decide), works_eq _ (by omega)]; rfl
  | true =>
  cases l2 with
  | false =>
    refine ⟨L1 + L2 + 40, ?_⟩
    unfold triglyphlaw10_CoreWraps.f
    rw [k1 _ (by omega), Option.bind_some, if_pos rfl, k2 _ (by omega), Option.bind_some, if_neg (by decide), works_eq _ (by omega)]; rfl
  | true =>
  obtain ⟨M1, m1, q1, c1⟩ := chkN_eq ⟨a1, a2, a3, ⟨s1, b1⟩, ks1, p1⟩ hx (by have := n1 rfl; omega)
  obtain ⟨M2, m2, q2, c2⟩ := chkN_eq ⟨d1, d2, d3, ⟨s2, b2⟩, ks2, p2⟩ hy (by have := n2 rfl; omega)
  by_cases g1 : m1 = true ∧ szN ⟨a1, a2, a3, ⟨s1, b1⟩, ks1, p1⟩ ≤ 2048 ∧ dpN ⟨a1, a2, a3, ⟨s1, b1⟩, ks1, p1⟩ ≤ 24
  rotate_left
  · refine ⟨L1 + L2 + M1 + 40, ?_⟩
    have f1 := (c1 (L1 + L2 + M1 + 40) (by omega)).2
    rw [if_neg g1] at f1
    dsimp only at f1
    unfold triglyphlaw10_CoreWraps.f
    rw [k1 _ (by omega), Option.bind_some, if_pos rfl, k2 _ (by omega), Option.bind_some, if_pos rfl, f1, Option.bind_some, if_neg (by decide), works_eq _ (by omega)]; rfl
  by_cases g2 : m2 = true ∧ szN ⟨d1, d2, d3, ⟨s2, b2⟩, ks2, p2⟩ ≤ 2048 ∧ dpN ⟨d1, d2, d3, ⟨s2, b2⟩, ks2, p2⟩ ≤ 24
  rotate_left
  · refine ⟨L1 + L2 + M1 + M2 + 40, ?_⟩
    have f1 := (c1 (L1 + L2 + M1 + M2 + 40) (by omega)).2
    have f2 := (c2 (L1 + L2 + M1 + M2 + 40) (by omega)).2
    rw [if_pos g1] at f1
    rw [if_neg g2] at f2
    dsimp only at f1 f2
    unfold triglyphlaw10_CoreWraps.f
    rw [k1 _ (by omega), Option.bind_some, if_pos rfl, k2 _ (by omega), Option.bind_some, if_pos rfl, f1, Option.bind_some, if_pos rfl, f2, Option.bind_some, if_neg (by decide), works_eq _ (by omega)]; rfl
  have ex : ∃ K, ∀ k, K ≤ k → rexF k ⟨a1, a2, a3, ⟨s1, b1⟩, ks1, p1⟩ false = some true := ⟨M1, fun k hk => by rw [q1 k hk, g1.1]⟩
  have ey : ∃ K, ∀ k, K ≤ k → rexF k ⟨d1, d2, d3, ⟨s2, b2⟩, ks2, p2⟩ false = some true := ⟨M2, fun k hk => by rw [q2 k hk, g2.1]⟩
  have zx := g1.2.1
  have zy := g2.2.1
  have okB := okN_two (okN_prim hop) hx hy
  have okC := okN_one (okN_with (okN_prim hop)) hy
  have okA := okN_one (okN_prim hop) hx
  obtain ⟨r1, r2⟩ := wr_szP a0
  obtain ⟨u1, u2⟩ := wr_sz1 (wrPrim a0) ⟨a1, a2, a3, ⟨s1, b1⟩, ks1, p1⟩
  obtain ⟨v1, v2⟩ := wr_sz2 (wrPrim a0) ⟨a1, a2, a3, ⟨s1, b1⟩, ks1, p1⟩ ⟨d1, d2, d3, ⟨s2, b2⟩, ks2, p2⟩
  obtain ⟨w1, w2⟩ := wr_szW (wrPrim a0)
  obtain ⟨x1, x2⟩ := wr_sz1 (wrWith 31 (wrPrim a0)) ⟨d1, d2, d3, ⟨s2, b2⟩, ks2, p2⟩
  have px := szN_pos ⟨a1, a2, a3, ⟨s1, b1⟩, ks1, p1⟩
  have py := szN_pos ⟨d1, d2, d3, ⟨s2, b2⟩, ks2, p2⟩
  obtain ⟨K1, h1⟩ := sz_ev (wrTwo (wrPrim a0) ⟨a1, a2, a3, ⟨s1, b1⟩, ks1, p1⟩ ⟨d1, d2, d3, ⟨s2, b2⟩, ks2, p2⟩) (by omega)
  obtain ⟨K2, h2⟩ := sz_ev (wrOne (wrWith 31 (wrPrim a0)) ⟨d1, d2, d3, ⟨s2, b2⟩, ks2, p2⟩) (by omega)
  have front : ∀ k, L1 + L2 + M1 + M2 + K1 + K2 ≤ k → triglyphlaw10_CoreWraps.f k a0 a1 a2 a3 s1 b1 ks1 p1 d1 d2 d3 s2 b2 ks2 p2 = wrTail k a0 ⟨a1, a2, a3, ⟨s1, b1⟩, ks1, p1⟩ ⟨d1, d2, d3, ⟨s2, b2⟩, ks2, p2⟩ := by
    intro k hk
    have f1 := (c1 k (by omega)).2
    have f2 := (c2 k (by omega)).2
    rw [if_pos g1] at f1
    rw [if_pos g2] at f2
    dsimp only at f1 f2
    unfold triglyphlaw10_CoreWraps.f
    rw [k1 _ (by omega), Option.bind_some, if_pos rfl, k2 _ (by omega), Option.bind_some, if_pos rfl, f1, Option.bind_some, if_pos rfl, f2, Option.bind_some, if_pos rfl]
    rfl
  by_cases t1 : szN (wrTwo (wrPrim a0) ⟨a1, a2, a3, ⟨s1, b1⟩, ks1, p1⟩ ⟨d1, d2, d3, ⟨s2, b2⟩, ks2, p2⟩) ≤ 2048
  rotate_left
  · refine ⟨L1 + L2 + M1 + M2 + K1 + K2 + 40, ?_⟩
    rw [front _ (by omega)]
    unfold wrTail
    rw [(h1 _ (by omega)).1, Option.bind_some, if_neg t1, works_eq _ (by omega)]; rfl
  by_cases t2 : dpN (wrTwo (wrPrim a0) ⟨a1, a2, a3, ⟨s1, b1⟩, ks1, p1⟩ ⟨d1, d2, d3, ⟨s2, b2⟩, ks2, p2⟩) ≤ 24
  rotate_left
  · refine ⟨L1 + L2 + M1 + M2 + K1 + K2 + 40, ?_⟩
    rw [front _ (by omega)]
    unfold wrTail
    rw [(h1 _ (by omega)).1, Option.bind_some, if_pos t1, (h1 _ (by omega)).2, Option.bind_some, if_neg t2, works_eq _ (by omega)]; rfl
  by_cases t3 : dpN (wrOne (wrWith 31 (wrPrim a0)) ⟨d1, d2, d3, ⟨s2, b2⟩, ks2, p2⟩) ≤ 24
  rotate_left
  · refine ⟨L1 + L2 + M1 + M2 + K1 + K2 + 40, ?_⟩
    rw [front _ (by omega)]
    unfold wrTail
    rw [(h1 _ (by omega)).1, Option.bind_some, if_pos t1, (h1 _ (by omega)).2, Option.bind_some, if_pos t2, (h2 _ (by omega)).2, Option.bind_some, if_neg t3, works_eq _ (by omega)]; rfl
  obtain ⟨K3, h3⟩ := wr_chk okA (by omega) (by omega) (wr_one_ex _ _ _ ⟨1, fun k hk => by obtain ⟨k, rfl, _⟩ := succ_of hk; exact wr_mo a0 k⟩ ex)
  obtain ⟨K4, h4⟩ := wr_chk okB (by omega) (by omega) (wr_two_ex _ _ _ _ ⟨2, fun k hk => by obtain ⟨j, rfl, hk9⟩ := succ_of hk; obtain ⟨i, rfl, _⟩ := succ_of hk9; exact wr_dy a0 i⟩ ex ey)
  obtain ⟨K5, h5⟩ := wr_chk okC (by omega) (by omega) (wr_one_ex _ _ _ ⟨1, fun k hk => by obtain ⟨k, rfl, _⟩ := succ_of hk; exact wr_red a0 k⟩ ey)
  refine ⟨L1 + L2 + M1 + M2 + K1 + K2 + K3 + K4 + K5 + 40, ?_⟩
  rw [front _ (by omega)]
  unfold wrTail
  rw [(h1 _ (by omega)).1, Option.bind_some, if_pos t1, (h1 _ (by omega)).2, Option.bind_some, if_pos t2, (h2 _ (by omega)).2, Option.bind_some, if_pos t3]
  have e6 := h3 (L1 + L2 + M1 + M2 + K1 + K2 + K3 + K4 + K5 + 40) (by omega)
  have e7 := h4 (L1 + L2 + M1 + M2 + K1 + K2 + K3 + K4 + K5 + 40) (by omega)
  have e8 := h5 (L1 + L2 + M1 + M2 + K1 + K2 + K3 + K4 + K5 + 40) (by omega)
  have wk := works_eq (L1 + L2 + M1 + M2 + K1 + K2 + K3 + K4 + K5 + 40) (by omega)
  rcases (by omega : a0 < 1 ∨ (1 ≤ a0 ∧ a0 ≤ 19) ∨ a0 = 20 ∨ (21 ≤ a0 ∧ a0 ≤ 32) ∨ (33 ≤ a0 ∧ a0 ≤ 40) ∨ (41 ≤ a0 ∧ a0 ≤ 54) ∨ 55 ≤ a0) with c | c | c | c | c | c | c
  · rw [wr_vf a0 (by omega)] at e6; rw [wr_wf a0 (by omega)] at e7; rw [wr_uf a0 (by omega)] at e8
    rw [if_neg (by omega), e6, Option.bind_some, if_neg (by decide), e7, Option.bind_some, if_neg (by decide), e8, Option.bind_some, if_neg (by decide), wk, Option.bind_some]
  · rw [wr_vt a0 (by omega)] at e6; rw [wr_wf a0 (by omega)] at e7; rw [wr_uf a0 (by omega)] at e8
    rw [if_pos (by omega), if_pos (by omega), e6, Option.bind_some, if_pos rfl, e7, Option.bind_some, if_neg (by decide), e8, Option.bind_some, if_neg (by decide), wk, Option.bind_some]
  · rw [wr_vf a0 (by omega)] at e6; rw [wr_wf a0 (by omega)] at e7; rw [wr_uf a0 (by omega)] at e8
    rw [if_pos (by omega), if_neg (by omega), if_neg (by omega), e6, Option.bind_some, if_neg (by decide), e7, Option.bind_some, if_neg (by decide), e8, Option.bind_some, if_neg (by decide), wk, Option.bind_some]
  · rw [wr_vf a0 (by omega)] at e6; rw [wr_wt a0 (by omega)] at e7; rw [wr_ut a0 (by omega)] at e8
    rw [if_pos (by omega), if_neg (by omega), if_pos (by omega), if_pos (by omega), e6, Option.bind_some, if_neg (by decide), e7, Option.bind_some, if_pos rfl, e8, Option.bind_some, if_pos rfl, wk, Option.bind_some]
  · rw [wr_vf a0 (by omega)] at e6; rw [wr_wf a0 (by omega)] at e7; rw [wr_uf a0 (by omega)] at e8
    rw [if_pos (by omega), if_neg (by omega), if_pos (by omega), if_neg (by omega), if_neg (by omega), e6, Option.bind_some, if_neg (by decide), e7, Option.bind_some, if_neg (by decide), e8, Option.bind_some, if_neg (by decide), wk, Option.bind_some]
  · rw [wr_vf a0 (by omega)] at e6; rw [wr_wt a0 (by omega)] at e7; rw [wr_uf a0 (by omega)] at e8
    rw [if_pos (by omega), if_neg (by omega), if_pos (by omega), if_neg (by omega), if_pos (by omega), if_pos (by omega), e6, Option.bind_some, if_neg (by decide), e7, Option.bind_some, if_pos rfl, e8, Option.bind_some, if_neg (by decide), wk, Option.bind_some]
  · rw [wr_vf a0 (by omega)] at e6; rw [wr_wf a0 (by omega)] at e7; rw [wr_uf a0 (by omega)] at e8
    rw [if_pos (by omega), if_neg (by omega), if_pos (by omega), if_neg (by omega), if_pos (by omega), if_neg (by omega), e6, Option.bind_some, if_neg (by decide), e7, Option.bind_some, if_neg (by decide), e8, Option.bind_some, if_neg (by decide), wk, Option.bind_some]
end Go.Proofs.Ytfblidojoepcpaa.Pure

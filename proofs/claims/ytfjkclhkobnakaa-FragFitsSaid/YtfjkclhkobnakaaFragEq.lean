/- (Over frag_Fits, triglyphref10_Check.) What a dialect can say of a program: the first fault on the way through it; a program that may be has the parts that are looked at. Plain facts about trees. -/
import Derived.Test.YtfjkclhkobnakaaCoreEq2
import Derived.Test.YtfjkclhkobnakaaPx14
import Derived.Test.YtfjkclhkobnakaaPx7
import Derived.Test.YtfjkclhkobnakaaPx8
import Derived.Test.YtfjkclhkobnakaaPx9
namespace Go.Proofs.Ytfjkclhkobnakaa.Pure
open Go.RowKit Go.Proofs.Ytfjkclhkobnakaa.P Go.Proofs.Ytfjkclhkobnakaa.Nest Go.Proofs.YtfjkclhkobnakaaW.PrintWords Go.Proofs.YtfjkclhkobnakaaW.PrintLast Go.Proofs.YtfjkclhkobnakaaW.PrintMore
set_option linter.unusedVariables false
set_option linter.unusedSimpArgs false
mutual
def wfN : S28 → Prop
  | ⟨a, b, _, _, ks, _⟩ => (a = 6 → ks.length = 3) ∧ (a = 5 → ks.length = 2) ∧ (a = 25 ∨ a = 31 ∨ a = 32 ∨ a = 33 ∨ a = 34 ∨ a = 35 → ks.length = 1) ∧ (a = 21 → 1 ≤ b ∧ b ≤ 54) ∧ wfNs ks
def wfNs : List S28 → Prop
  | [] => True
  | x :: xs => wfN x ∧ wfNs xs
end
theorem wfNs_iff : ∀ {l : List S28}, wfNs l ↔ ∀ x ∈ l, wfN x
  | [] => by simp [wfNs]
  | x :: l => by rw [wfNs, wfNs_iff]; simp
theorem wf_mk {x : S28} (h6 : x.f0 = 6 → x.f4.length = 3) (h5 : x.f0 = 5 → x.f4.length = 2) (h1 : x.f0 = 25 ∨ x.f0 = 31 ∨ x.f0 = 32 ∨ x.f0 = 33 ∨ x.f0 = 34 ∨ x.f0 = 35 → x.f4.length = 1) (hp : x.f0 = 21 → 1 ≤ x.f1 ∧ x.f1 ≤ 54) (hk : ∀ y ∈ x.f4, wfN y) : wfN x := by
  obtain ⟨a, b, n, l, ks, p⟩ := x
  rw [wfN, wfNs_iff]
  exact ⟨h6, h5, h1, hp, hk⟩
theorem wf_of {x : S28} (h : wfN x) : (x.f0 = 6 → x.f4.length = 3) ∧ (x.f0 = 5 → x.f4.length = 2) ∧ (x.f0 = 25 ∨ x.f0 = 31 ∨ x.f0 = 32 ∨ x.f0 = 33 ∨ x.f0 = 34 ∨ x.f0 = 35 → x.f4.length = 1) ∧ (x.f0 = 21 → 1 ≤ x.f1 ∧ x.f1 ≤ 54) ∧ ∀ y ∈ x.f4, wfN y := by
  obtain ⟨a, b, n, l, ks, p⟩ := x
  rw [wfN, wfNs_iff] at h
  exact h
theorem fsh_none {x : S28} {a b c : Bool} (h : rfSh x 0 a b c = true) : x.f4 = [] := by
  unfold rfSh at h
  exact List.eq_nil_of_length_eq_zero (rf_len (m := 0) h)
theorem wf_leaf {x : S28} (h0 : x.f4 = []) (h6 : x.f0 ≠ 6) (h5 : x.f0 ≠ 5) (h1 : ¬ (x.f0 = 25 ∨ x.f0 = 31 ∨ x.f0 = 32 ∨ x.f0 = 33 ∨ x.f0 = 34 ∨ x.f0 = 35)) (hp : x.f0 = 21 → 1 ≤ x.f1 ∧ x.f1 ≤ 54) : wfN x :=
  wf_mk (fun h => absurd h h6) (fun h => absurd h h5) (fun h => absurd h h1) hp (fun y hy => by rw [h0] at hy; cases hy)
theorem wf_one {x : S28} {a b c : Bool} (hs : rfSh x 1 a b c = true) (h6 : x.f0 ≠ 6) (h5 : x.f0 ≠ 5) (hp : x.f0 ≠ 21) (hk : wfN (rfKid x 0)) : wfN x := by
  have e := sh_one hs
  refine wf_mk (fun h => absurd h h6) (fun h => absurd h h5) (fun _ => by rw [e]; rfl) (fun h => absurd h hp) (fun y hy => ?_)
  rw [e, List.mem_singleton] at hy
  rw [hy]
  exact hk
theorem wf_prim {x : S28} {lo hi : Int} (h1 : 1 ≤ lo) (h2 : hi ≤ 54) (h : rfP x lo hi = true) : wfN x := by
  have e := prim_len h
  unfold rfP at h
  simp only [Bool.and_eq_true, beq_iff_eq, decide_eq_true_eq] at h
  refine wf_leaf e (by omega) (by omega) (by omega) (fun _ => by omega)
theorem wf_T {x : S28} (h : rfT x = true) : wfN x := by
  unfold rfT at h
  by_cases c : x.f0 = 35
  · rw [if_pos c] at h
    simp only [Bool.and_eq_true] at h
    exact wf_one h.1 (by omega) (by omega) (by omega) (wf_prim (by omega) (by omega) h.2)
  · rw [if_neg c] at h
    exact wf_prim (by omega) (by omega) h
theorem wf_all : ∀ k : Nat, (∀ x i, rexF k x i = some true → wfN x) ∧ (∀ x, (x.f0 = 22 ∨ x.f0 = 23) → rlaF k x = some true → wfN x) ∧ (∀ x, rtwF k x = some true → wfN x) ∧ (∀ x, x.f0 = 35 → rtuF k x = some true → wfN x) ∧ (∀ x, rmoF k x = some true → wfN x) ∧ (∀ x, rdyF k x = some true → wfN x)
  | 0 => ⟨fun x i h => (by rw [rexF] at h; cases h), fun x _ h => (by rw [rlaF] at h; cases h), fun x h => (by rw [rtwF] at h; cases h), fun x _ h => (by rw [rtuF] at h; cases h), fun x h => (by rw [rmoF] at h; cases h), fun x h => (by rw [rdyF] at h; cases h)⟩
  | k + 1 => by
    obtain ⟨hex, hla, htw, htu, hmo, hdy⟩ := wf_all k
    refine ⟨fun x i h => ?_, fun x h0 h => ?_, fun x h => ?_, fun x h0 h => ?_, fun x h => ?_, fun x h => ?_⟩
    · rw [rexF] at h
      by_cases c1 : x.f0 = 1
      · rw [if_pos c1] at h
        by_cases c : rfSh x 0 false false true = true
        · exact wf_leaf (fsh_none c) (by omega) (by omega) (by omega) (fun _ => by omega)
        · rw [if_neg c] at h; cases h
      rw [if_neg c1] at h
      by_cases c2 : x.f0 = 2
      · rw [if_pos c2] at h
        by_cases c : rfSh x 0 false true false = true
        · exact wf_leaf (fsh_none c) (by omega) (by omega) (by omega) (fun _ => by omega)
        · rw [if_neg c] at h; cases h
      rw [if_neg c2] at h
      by_cases c3 : x.f0 = 3 ∨ x.f0 = 4
      · rw [if_pos c3] at h
        have h := Option.some.inj h
        simp only [Bool.and_eq_true] at h
        exact wf_leaf (fsh_none h.2) (by omega) (by omega) (by omega) (fun _ => by omega)
      rw [if_neg c3] at h
      by_cases c5 : x.f0 = 5
      · rw [if_pos c5] at h
        by_cases c : rfSh x 2 false false false = true
        · rw [if_pos c] at h
          obtain ⟨b, q1, q2⟩ := Option.bind_eq_some_iff.1 h
          cases b with
          | false => rw [if_neg (by decide)] at q2; cases q2
          | true =>
            rw [if_pos rfl] at q2
            have e := sh_two c
            refine wf_mk (fun h => by omega) (fun _ => by rw [e]; rfl) (fun h => by omega) (fun h => by omega) (fun y hy => ?_)
            rw [e] at hy
            rcases List.mem_cons.1 hy with r | hy
            · rw [r]; exact hmo _ q1
            · rw [List.mem_singleton] at hy
              rw [hy]; exact hex _ _ q2
        · rw [if_neg c] at h; cases h
      rw [if_neg c5] at h
      by_cases c6 : x.f0 = 6
      · rw [if_pos c6] at h
        by_cases c : rfSh x 3 false false false = true
        · rw [if_pos c] at h
          obtain ⟨b, q1, q2⟩ := Option.bind_eq_some_iff.1 h
          cases b with
          | false => rw [if_neg (by decide)] at q2; cases q2
          | true =>
            rw [if_pos rfl] at q2
            obtain ⟨b2, q3, q4⟩ := Option.bind_eq_some_iff.1 q2
            cases b2 with
            | false => rw [if_neg (by decide)] at q4; cases q4
            | true =>
              rw [if_pos rfl] at q4
              have e := sh_three c
              refine wf_mk (fun _ => by rw [e]; rfl) (fun h => by omega) (fun h => by omega) (fun h => by omega) (fun y hy => ?_)
              rw [e] at hy
              rcases List.mem_cons.1 hy with r | hy
              · rw [r]; exact hdy _ q1
              · rcases List.mem_cons.1 hy with r | hy
                · rw [r]; exact hex _ _ q3
                · rw [List.mem_singleton] at hy
                  rw [hy]; exact hex _ _ q4
        · rw [if_neg c] at h; cases h
      rw [if_neg c6] at h
      cases h
    · rw [rlaF] at h
      by_cases c : rfSh x 1 false false false = false
      · rw [if_pos c] at h; cases h
      rw [if_neg c] at h
      obtain ⟨b, q1, q2⟩ := Option.bind_eq_some_iff.1 h
      cases b with
      | false => rw [if_pos rfl] at q2; cases q2
      | true => exact wf_one (by simpa using c) (by omega) (by omega) (by omega) (hex _ _ q1)
    · rw [rtwF] at h
      by_cases c : x.f0 = 23
      · rw [if_pos c] at h
        exact hla x (.inr c) h
      · rw [if_neg c] at h
        have h := Option.some.inj h
        simp only [Bool.or_eq_true] at h
        rcases h with h | h
        · exact wf_prim (by omega) (by omega) h
        · exact wf_prim (by omega) (by omega) h
    · rw [rtuF] at h
      by_cases c : rfSh x 1 false false false = false
      · rw [if_pos c] at h; cases h
      rw [if_neg c] at h
      obtain ⟨b, q1, q2⟩ := Option.bind_eq_some_iff.1 h
      cases b with
      | false => rw [if_pos rfl] at q2; cases q2
      | true => exact wf_one (by simpa using c) (by omega) (by omega) (by omega) (htw _ q1)
    · rw [rmoF] at h
      by_cases c1 : x.f0 = 21
      · rw [if_pos c1] at h
        exact wf_prim (by omega) (by omega) (Option.some.inj h)
      rw [if_neg c1] at h
      by_cases c2 : x.f0 = 22
      · rw [if_pos c2] at h
        exact hla x (.inl c2) h
      rw [if_neg c2] at h
      by_cases c3 : x.f0 = 31 ∨ x.f0 = 32 ∨ x.f0 = 33 ∨ x.f0 = 34
      · rw [if_pos c3] at h
        have h := Option.some.inj h
        simp only [Bool.and_eq_true] at h
        exact wf_one h.1 (by omega) (by omega) (by omega) (wf_T h.2)
      rw [if_neg c3] at h
      by_cases c4 : x.f0 = 35
      · rw [if_pos c4] at h
        exact htu x c4 h
      rw [if_neg c4] at h
      by_cases c5 : x.f0 = 26
      · rw [if_pos c5] at h
        by_cases c : rfSh x 1 true false false = true
        · rw [if_pos c] at h
          by_cases cc : (decide (x.f1 ≥ 0) && (decide (x.f1 ≤ 4096) && ((rfKid x 0).f0 == 22))) = true
          · rw [if_pos cc] at h
            simp only [Bool.and_eq_true, beq_iff_eq] at cc
            exact wf_one c (by omega) (by omega) (by omega) (hla _ (.inl cc.2.2) h)
          · rw [if_neg cc] at h; cases h
        · rw [if_neg c] at h; cases h
      rw [if_neg c5] at h
      cases h
    · rw [rdyF] at h
      by_cases c1 : x.f0 = 25
      · rw [if_pos c1] at h
        have h := Option.some.inj h
        simp only [Bool.and_eq_true] at h
        exact wf_one h.1 (by omega) (by omega) (by omega) (wf_T h.2)
      rw [if_neg c1] at h
      by_cases c4 : x.f0 = 35
      · rw [if_pos c4] at h
        exact htu x c4 h
      rw [if_neg c4] at h
      exact htw x h
def z3 : FgT := (0, 0, 0)
def comb (a b : FgT) : FgT := if a.1 = 0 then b else a
def good (a : FgT) : Prop := a.1 = 0 → a = z3
theorem good_z : good z3 := fun _ => rfl
theorem good_rej (p w : Int) : good (13, p, w) := fun h => by cases h
theorem comb_z (b : FgT) : comb z3 b = b := rfl
theorem comb_good {a b : FgT} (ha : good a) (hb : good b) : good (comb a b) := by
  unfold comb
  by_cases c : a.1 = 0
  · rw [if_pos c]; exact hb
  · rw [if_neg c]; exact ha
theorem comb_assoc {a : FgT} (b c : FgT) : comb (comb a b) c = comb a (comb b c) := by
  unfold comb
  by_cases h : a.1 = 0
  · rw [if_pos h, if_pos h]
  · rw [if_neg h, if_neg h, if_neg h]
theorem fworks_eq : ∀ k, 60 ≤ k → triglyphlaw24_works.f k = some true := by
  intro k hk
  have h : triglyphlaw24_works.f 60 = some true := by kernel_rfl
  exact at_rounds triglyphlaw24_works.mono hk h
theorem fsays_low (d op : Int) (h : op < 1 ∨ 54 < op) : frag_Says.f 2 d op = some false := by
  unfold frag_Says.f
  simp only [frag_Says.j0]
  rcases h with h | h
  · rw [if_neg (by omega), if_neg (by omega), if_pos h]
    rfl
  · rw [if_neg (by omega), if_neg (by omega), if_neg (by omega), if_pos (by omega)]
    rfl
theorem says_tab (d : Int) (h : (List.range 54).all (fun i => (frag_Says.f 2 d ((i : Int) + 1)).isSome) = true) (op : Int) : ∃ b, frag_Says.f 2 d op = some b := by
  by_cases c : op < 1 ∨ 54 < op
  · exact ⟨false, fsays_low d op c⟩
  · have := List.all_eq_true.1 h (op.toNat - 1) (List.mem_range.2 (by omega))
    rw [show ((op.toNat - 1 : Nat) : Int) + 1 = op by omega] at this
    exact Option.isSome_iff_exists.1 this
theorem says_some (d : Int) (hd : d = 0 ∨ d = 1 ∨ d = 2) (op : Int) : ∃ b, ∀ k, 2 ≤ k → frag_Says.f k d op = some b := by
  have : ∃ b, frag_Says.f 2 d op = some b := by
    rcases hd with rfl | rfl | rfl
    · exact says_tab 0 (by kernel_rfl) op
    · exact says_tab 1 (by kernel_rfl) op
    · exact says_tab 2 (by kernel_rfl) op
  obtain ⟨b, hb⟩ := this
  exact ⟨b, fun k hk => at_rounds (frag_Says.mono d op) hk hb⟩
/-- What one step of the way adds to what was found. -/
def Adds (g : FgT → Option FgT) : Prop := ∃ a : FgT, good a ∧ ∀ fs, good fs → g fs = some (comb fs a)
theorem adds_no {g : FgT → Option FgT} (h : ∀ fs, g fs = some fs) : Adds g := ⟨z3, good_z, fun fs hf => by
  rw [h]
  unfold comb
  by_cases c : fs.1 = 0
  · rw [if_pos c, hf c]
  · rw [if_neg c]⟩
theorem adds_rej {g : FgT → Option FgT} (p w : Int) (h : ∀ fs, g fs = some (fgRej fs p w)) : Adds g := ⟨(13, p, w), good_rej p w, fun fs hf => by
  rw [h]
  rfl⟩
theorem adds_if {g1 g2 : FgT → Option FgT} {c : Prop} [Decidable c] (h1 : c → Adds g1) (h2 : ¬ c → Adds g2) : Adds (fun fs => if c then g1 fs else g2 fs) := by
  by_cases h : c
  · simp only [if_pos h]; exact h1 h
  · simp only [if_neg h]; exact h2 h
theorem adds_some_if {c : Prop} [Decidable c] (p w : Int) : Adds (fun fs => some (if c then fgRej fs p w else fs)) := by
  by_cases h : c
  · simp only [if_pos h]; exact adds_rej p w (fun _ => rfl)
  · simp only [if_neg h]; exact adds_no (fun _ => rfl)
theorem plain_adds (d : Int) {x : S28} (hw : wfN x) : Adds (plainV d x) := by
  obtain ⟨h6, h5, h1, _, hk⟩ := wf_of hw
  show Adds (fun fs => plainV d x fs)
  unfold plainV
  refine adds_if (fun _ => ?_) (fun _ => adds_if (fun _ => ?_) (fun _ => adds_no (fun _ => rfl)))
  · unfold behindV
    refine adds_if (fun c => ?_) (fun _ => adds_no (fun _ => rfl))
    have e := h5 c
    refine adds_if (fun _ => adds_if (fun c2 => ?_) (fun _ => adds_no (fun _ => rfl))) (fun c2 => by omega)
    have hm : rd_T28 x.f4 0 ∈ x.f4 := by
      match hx : x.f4, e with
      | [y, z], _ => exact List.mem_cons_self
    have e2 := (wf_of (hk _ hm)).2.2.1 (by omega)
    exact adds_if (fun _ => adds_some_if _ _) (fun c3 => by omega)
  · refine adds_if (fun _ => adds_rej _ _ (fun _ => rfl)) (fun _ => adds_if (fun _ => adds_rej _ _ (fun _ => rfl)) (fun _ => adds_if (fun _ => adds_rej _ _ (fun _ => rfl)) (fun _ => adds_if (fun c => ?_) (fun _ => adds_if (fun c => ?_) (fun _ => adds_no (fun _ => rfl))))))
    · have := h1 (by omega)
      exact adds_if (fun _ => adds_some_if _ _) (fun c3 => by omega)
    · have := h6 c
      exact adds_if (fun _ => adds_some_if _ _) (fun c3 => by omega)
/-- From so many rounds on. -/
def AddsK (g : Nat → FgT → Option FgT) : Prop := ∃ (K : Nat) (a : FgT), good a ∧ ∀ k, K ≤ k → ∀ fs, good fs → g k fs = some (comb fs a)
theorem prim_adds (d : Int) (hd : d = 0 ∨ d = 1 ∨ d = 2) (x : S28) : AddsK (fun k fs => if x.f0 = 21 then primF k d x fs else some fs) := by
  by_cases c : x.f0 = 21
  · obtain ⟨b, hb⟩ := says_some d hd x.f1
    by_cases c1 : x.f1 = 19 ∨ x.f1 = 54
    · obtain ⟨a, ha, h⟩ := adds_rej (g := fun fs => some (fgRej fs x.f5 1)) x.f5 1 (fun _ => rfl)
      exact ⟨0, a, ha, fun k _ fs hf => by simp only [if_pos c]; unfold primF; rw [if_pos c1]; exact h fs hf⟩
    by_cases c2 : x.f1 = 53 ∧ d ≠ 2
    · obtain ⟨a, ha, h⟩ := adds_no (g := fun fs => some fs) (fun _ => rfl)
      exact ⟨0, a, ha, fun k _ fs hf => by simp only [if_pos c]; unfold primF; rw [if_neg c1, if_pos c2]; exact h fs hf⟩
    cases b with
    | true =>
      obtain ⟨a, ha, h⟩ := adds_no (g := fun fs => some fs) (fun _ => rfl)
      exact ⟨2, a, ha, fun k hk fs hf => by simp only [if_pos c]; unfold primF; rw [if_neg c1, if_neg c2, hb k hk, Option.bind_some, if_pos rfl]; exact h fs hf⟩
    | false =>
      obtain ⟨a, ha, h⟩ := adds_rej (g := fun fs => some (fgRej fs x.f5 2)) x.f5 2 (fun _ => rfl)
      exact ⟨2, a, ha, fun k hk fs hf => by simp only [if_pos c]; unfold primF; rw [if_neg c1, if_neg c2, hb k hk, Option.bind_some, if_neg (by decide)]; exact h fs hf⟩
  · obtain ⟨a, ha, h⟩ := adds_no (g := fun fs => some fs) (fun _ => rfl)
    exact ⟨0, a, ha, fun k _ fs hf => by simp only [if_neg c]; exact h fs hf⟩
/-- A program that may be, and its parts: each adds the first fault that it has by itself. -/
def NdA (d : Int) (x : S28) (a : FgT) : Prop := good a ∧ ∃ K, ∀ k, K ≤ k → ∀ fs, good fs → nodeV k d x fs = some (comb fs a)
def NdsA (d : Int) (l : List S28) (a : FgT) : Prop := good a ∧ ∃ K, ∀ k, K ≤ k → ∀ fs, good fs → nodesV k d l fs = some (comb fs a)
theorem nodes_nil (d : Int) : NdsA d [] z3 := ⟨good_z, 0, fun k _ fs hf => by
  rw [nodesV]
  unfold comb
  by_cases c : fs.1 = 0
  · rw [if_pos c, hf c]
  · rw [if_neg c]⟩
theorem nodes_cons {d : Int} {x : S28} {l : List S28} {a b : FgT} (h1 : NdA d x a) (h2 : NdsA d l b) : NdsA d (x :: l) (comb a b) := by
  obtain ⟨ga, K1, h1⟩ := h1
  obtain ⟨gb, K2, h2⟩ := h2
  refine ⟨comb_good ga gb, K1 + K2, fun k hk fs hf => ?_⟩
  rw [nodesV, h1 k (by omega) fs hf, Option.bind_some, h2 k (by omega) _ (comb_good hf ga), comb_assoc]
theorem node_mk {d : Int} (hd : d = 0 ∨ d = 1 ∨ d = 2) {x : S28} (hw : wfN x) {b : FgT} (h : NdsA d x.f4 b) : ∃ p q, good p ∧ good q ∧ NdA d x (comb (comb p q) b) ∧ (∀ fs, good fs → plainV d x fs = some (comb fs q)) ∧ ∃ K, ∀ k, K ≤ k → ∀ fs, good fs → (if x.f0 = 21 then primF k d x fs else some fs) = some (comb fs p) := by
  obtain ⟨K1, p, gp, h1⟩ := prim_adds d hd x
  obtain ⟨q, gq, h2⟩ := plain_adds d hw
  obtain ⟨gb, K2, h3⟩ := h
  refine ⟨p, q, gp, gq, ⟨comb_good (comb_good gp gq) gb, K1 + K2, fun k hk fs hf => ?_⟩, h2, K1, h1⟩
  obtain ⟨x0, x1, x2, x3, x4, x5⟩ := x
  have e1 := h1 k (by omega) fs hf
  dsimp only at e1
  rw [nodeV, e1, Option.bind_some, h2 _ (comb_good hf gp), Option.bind_some]
  have e3 := h3 k (by omega) _ (comb_good (comb_good hf gp) gq)
  dsimp only at e3
  rw [e3, comb_assoc, comb_assoc, comb_assoc]
mutual
theorem node_ev {d : Int} (hd : d = 0 ∨ d = 1 ∨ d = 2) : ∀ x : S28, wfN x → ∃ a, NdA d x a
  | ⟨x0, x1, x2, x3, ks, x5⟩, hw => by
    obtain ⟨b, hb⟩ := nodes_ev hd ks (by rw [wfN] at hw; exact hw.2.2.2.2)
    obtain ⟨p, q, _, _, h, _⟩ := node_mk hd hw (b := b) hb
    exact ⟨_, h⟩
theorem nodes_ev {d : Int} (hd : d = 0 ∨ d = 1 ∨ d = 2) : ∀ l : List S28, wfNs l → ∃ b, NdsA d l b
  | [], _ => ⟨_, nodes_nil d⟩
  | x :: xs, h => by
    rw [wfNs] at h
    obtain ⟨a, ha⟩ := node_ev hd x h.1
    obtain ⟨b, hb⟩ := nodes_ev hd xs h.2
    exact ⟨_, nodes_cons ha hb⟩
end
end Go.Proofs.Ytfjkclhkobnakaa.Pure

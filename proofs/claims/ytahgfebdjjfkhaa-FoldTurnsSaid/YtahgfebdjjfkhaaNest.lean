/- How a law's arguments read: what the form hands over as data reads as lists of cells, and is of its kind and size. -/
import Derived.Test.YtahgfebdjjfkhaaRows
import Derived.Test.YtahgfebdjjfkhaaPx0
import Derived.WalkKit
import Derived.ProofKit
import Derived.SizedLaws
import Derived.ChangeArms
import Derived.ChangeSame
import Derived.Deep.Slices
namespace Go.Proofs.Ytahgfebdjjfkhaa.Nest
open Go.RowKit Go.WideShapes Go.ChangeShapes Go.Proofs.Ytahgfebdjjfkhaa.P Go.Proofs.YtahgfebdjjfkhaaW.PrintWords Go.Proofs.YtahgfebdjjfkhaaW.PrintLast
set_option linter.unusedVariables false
set_option linter.unusedSimpArgs false
section
variable {H : Type} {enc : TypeId × Value → H} {P : Program} {w : World} {α β : Type}
def RDn (enc : TypeId × Value → H) (P : Program) (w : World) (m : Nat) (t : TypeId) (d : Kd α) (ok : α → Prop) : Prop :=
  ∀ fuel, fuel ≤ m → ∀ cs x, DataW.trod enc P w 0 (fun _ => true) true fuel t cs = some x → (x.1.weights P t).all (· ≤ reachBytes) = true → ∃ y, d.K w y cs ∧ ok y
theorem RDn.zero (t : TypeId) (d : Kd α) (ok : α → Prop) : RDn enc P w 0 t d ok := by
  intro fuel hf cs x h
  have : fuel = 0 := by omega
  subst this
  simp [DataW.trod] at h
theorem RDn.int {m : Nat} {t : TypeId} {k : IntKind} (ht : P.underlying t = some (.int k)) : RDn enc P w m t (Kd.int k) (fun n => (Lit.int k n).wf = true) := by
  intro fuel _ cs x h _
  obtain ⟨n, rfl, _, hw⟩ := DataW.trod_int ht h
  exact ⟨n, rfl, hw⟩
theorem RDn.bool {m : Nat} {t : TypeId} (ht : P.underlying t = some .bool) : RDn enc P w m t Kd.bool (fun _ => True) := by
  intro fuel _ cs x h _
  obtain ⟨b, rfl, _⟩ := DataW.trod_bool ht h
  exact ⟨b, rfl, trivial⟩
theorem RDn.string {m : Nat} {t : TypeId} (ht : P.underlying t = some .string) : RDn enc P w m t Kd.string (fun s => s.size ≤ reachBytes) := by
  intro fuel _ cs x h hw
  obtain ⟨s, rfl, rfl, _⟩ := DataW.trod_string ht h
  refine ⟨s, rfl, ?_⟩
  simp only [DataW.weights, List.all_cons, List.all_nil, Bool.and_true, decide_eq_true_eq] at hw
  have e : s.data.toList.length = s.size := by rw [Array.length_toList]; rfl
  rw [e] at hw
  exact hw
theorem mapM_get {γ δ : Type} {f : γ → Option δ} : ∀ {l : List γ} {r : List δ}, l.mapM f = some r → r.length = l.length ∧ ∀ (i : Nat) (x : γ), l[i]? = some x → f x = r[i]?
  | [], r, h => by
    simp at h
    subst h
    exact ⟨rfl, fun i x hx => by simp at hx⟩
  | y :: l, r, h => by
    rw [List.mapM_cons] at h
    obtain ⟨z, hz, h⟩ := Option.bind_eq_some_iff.1 h
    obtain ⟨zs, hzs, h⟩ := Option.bind_eq_some_iff.1 h
    obtain rfl := Option.some.inj h
    obtain ⟨h1, h2⟩ := mapM_get hzs
    refine ⟨by simp [h1], fun i x hx => ?_⟩
    cases i with
    | zero =>
      obtain rfl : y = x := by simpa using hx
      simpa using hz
    | succ i => simpa using h2 i x (by simpa using hx)
theorem cells_get {a : Addr} {n : Nat} {cs : List Value} (h : w.cells? 0 a n = some cs) : cs.length = n ∧ ∀ i u, cs[i]? = some u → w.cell? (a.add i) = some u := by
  unfold World.cells? at h
  rw [if_pos (Nat.zero_le _)] at h
  obtain ⟨h1, h2⟩ := mapM_get h
  rw [List.length_range] at h1
  refine ⟨h1, fun i u hu => ?_⟩
  have hi : i < n := by rw [← h1]; exact (List.getElem?_eq_some_iff.1 hu).1
  have h3 := h2 i i (by simp [hi])
  rw [h3, hu]
theorem all_weights {e : TypeId} : ∀ {l : List (DataW H)} {i : Nat} {d : DataW H}, (DataW.weightsAll P e l).all (· ≤ reachBytes) = true → l[i]? = some d → (d.weights P e).all (· ≤ reachBytes) = true
  | [], i, d, _, h => by simp at h
  | x :: l, 0, d, hw, h => by
    simp only [DataW.weightsAll, List.all_append, Bool.and_eq_true] at hw
    obtain rfl : x = d := by simpa using h
    exact hw.1
  | x :: l, i + 1, d, hw, h => by
    simp only [DataW.weightsAll, List.all_append, Bool.and_eq_true] at hw
    exact all_weights hw.2 (by simpa using h)
theorem RDn.slice [Inhabited α] {m : Nat} {t e : TypeId} {d : Kd α} {ok : α → Prop} {B : Nat} (ht : P.underlying t = some (.slice e)) (hc : P.cellsOf e = d.sz) (hB : P.bytesOf e = B) (h : RDn enc P w m e d ok) :
    RDn enc P w m t (Kd.slice e d) (fun l => l.length * B ≤ reachBytes ∧ ∀ y ∈ l, ok y) := by
  intro fuel hf cs x hx hw
  rcases DataW.trod_slice ht hx with ⟨rfl, rfl⟩ | ⟨a, len, cap, elems, rest, n, rfl, rfl, rfl, _, hl, hm, hlen, hel, _⟩
  · exact ⟨[], ⟨none, 0, rfl, Nat.le_refl _, Kd.C_nil d w⟩, by simp, by simp⟩
  · simp only [DataW.weights, ht, List.all_cons, List.all_append, Bool.and_eq_true, decide_eq_true_eq] at hw
    obtain ⟨hw1, hw2, _⟩ := hw
    have each : ∀ i, i < len → ∃ y : α, (∃ c, c.length = d.sz ∧ d.K w y c ∧ ∀ j u, c[j]? = some u → w.cell? (a.add (i * d.sz + j)) = some u) ∧ ok y := by
      intro i hi
      have hi' := hel i hi
      rw [List.getElem?_eq_getElem (show i < elems.length by omega)] at hi'
      obtain ⟨c, hc1, hc2⟩ := Option.bind_eq_some_iff.1 hi'
      obtain ⟨y, hy, hok⟩ := h n (by omega) c _ hc2 (all_weights hw2 (i := i) (by simp [List.getElem?_eq_getElem (show i < elems.length by omega)]))
      rw [hc] at hc1
      obtain ⟨hc3, hc4⟩ := cells_get hc1
      refine ⟨y, ⟨c, hc3, hy, fun j u hu => ?_⟩, hok⟩
      rw [← Deep.add_add]
      exact hc4 j u hu
    obtain ⟨f, hfn⟩ := Deep.choose_lt each
    have hlf : ((List.range len).map f).length = len := by simp
    refine ⟨(List.range len).map f, ⟨some a, cap, by rw [hlf], by rw [hlf]; exact hl, ?_⟩, ?_, ?_⟩
    · refine ⟨rfl, ?_, fun _ => ⟨a, rfl, fun j p hj => ?_⟩⟩
      · rw [hlf]
        have : cap ≤ maxLen := hm
        unfold maxLen at this
        omega
      · have hj' : j < len := by have := (List.getElem?_eq_some_iff.1 hj).1; omega
        have e1 : p = f j := by simpa [hj'] using hj.symm
        subst e1
        exact (hfn j hj').1
    · rw [hlf, ← hB]
      refine Nat.le_trans (Nat.mul_le_mul_right _ ?_) hw1
      simp [hlen]
    · intro y hy
      obtain ⟨j, hj, rfl⟩ := List.mem_map.1 hy
      exact (hfn j (List.mem_range.1 hj)).2
/-- The fields from one on. -/
def RDfs (enc : TypeId × Value → H) (P : Program) (w : World) (m : Nat) (fs : List Field) (o : Nat) (d : Kd β) (ok : β → Prop) : Prop :=
  ∀ fuel, fuel ≤ m → ∀ (cs : List Value) (xs : List (DataW H × List MemPlace)), xs.length = fs.length → cs.length = o + d.sz → (∀ (i : Nat) (f : Field), fs[i]? = some f → DataW.trod enc P w 0 (fun _ => true) true fuel f.type ((cs.drop f.offset).take (P.cellsOf f.type)) = xs[i]?) →
    (DataW.weightsEach P (fs.map (·.type)) (xs.map (·.1))).all (· ≤ reachBytes) = true → ∃ y, d.K w y (cs.drop o) ∧ ok y
theorem RDfs.one {m : Nat} {f : Field} {o : Nat} {d : Kd β} {ok : β → Prop} (ho : f.offset = o) (hc : P.cellsOf f.type = d.sz) (h : RDn enc P w m f.type d ok) : RDfs enc P w m [f] o d ok := by
  intro fuel hf cs xs hx hl hg hw
  have h0 := hg 0 f rfl
  match xs, hx with
  | [x], _ =>
    simp only [List.map_cons, List.map_nil, DataW.weightsEach, List.append_nil] at hw
    obtain ⟨y, hy, hok⟩ := h fuel hf _ x (by simpa using h0) hw
    rw [ho, hc, List.take_of_length_le (by rw [List.length_drop]; omega)] at hy
    exact ⟨y, hy, hok⟩
theorem RDfs.cons {m : Nat} {f : Field} {fs : List Field} {o : Nat} {a : Kd α} {b : Kd β} {oka : α → Prop} {okb : β → Prop} (ho : f.offset = o) (hc : P.cellsOf f.type = a.sz) (h : RDn enc P w m f.type a oka) (ht : RDfs enc P w m fs (o + a.sz) b okb) :
    RDfs enc P w m (f :: fs) o (Kd.pair a b) (fun y => oka y.1 ∧ okb y.2) := by
  intro fuel hf cs xs hx hl hg hw
  have hsz : (Kd.pair a b).sz = a.sz + b.sz := rfl
  match xs, hx with
  | x :: xs, hx =>
    have h0 := hg 0 f rfl
    simp only [List.map_cons, DataW.weightsEach, List.all_append, Bool.and_eq_true] at hw
    obtain ⟨y, hy, hok⟩ := h fuel hf _ x (by simpa using h0) hw.1
    obtain ⟨z, hz, hok2⟩ := ht fuel hf cs xs (by simpa using hx) (by rw [hl, hsz]; omega) (fun i g hgi => by simpa using hg (i + 1) g (by simpa using hgi)) hw.2
    rw [ho, hc] at hy
    exact ⟨(y, z), ⟨(cs.drop o).take a.sz, cs.drop (o + a.sz), by rw [← List.drop_drop, List.take_append_drop], hy, hz⟩, hok, hok2⟩
theorem RDn.struct {m : Nat} {t : TypeId} {fs : Array Field} {d : Kd β} {ok : β → Prop} (ht : P.underlying t = some (.struct fs)) (hc : P.cellsOf t = d.sz) (h : RDfs enc P w m fs.toList 0 d ok) : RDn enc P w (m + 1) t d ok := by
  intro fuel hf cs x hx hw
  obtain ⟨xs, n, rfl, rfl, hl, hlen, hg⟩ := DataW.trod_struct ht hx
  simp only [DataW.weights, ht] at hw
  have := h n (by omega) cs xs (by simpa using hlen) (by omega) (fun i f hi => hg i f (by simpa using hi)) hw
  simpa using this
theorem RDn.imp {m : Nat} {t : TypeId} {d : Kd α} {d' : Kd β} {ok : α → Prop} {ok' : β → Prop} (h : RDn enc P w m t d ok) (f : α → β) (hk : ∀ y cs, d.K w y cs → d'.K w (f y) cs) (ho : ∀ y, ok y → ok' (f y)) : RDn enc P w m t d' ok' :=
  fun fuel hf cs x hx hw => by
    obtain ⟨y, hy, hok⟩ := h fuel hf cs x hx hw
    exact ⟨f y, hk y cs hy, ho y hok⟩
/-- An argument. -/
theorem RDn.arg {t : TypeId} {d : Kd α} {ok : α → Prop} (h : ∀ m, RDn enc P w m t d ok) {v : Value} {x : DataW H} {ps : List MemPlace} (hx : DataW.Trod enc P w 0 (fun _ => true) true t v x ps) (hw : (x.weights P t).all (· ≤ reachBytes) = true) : ∃ y, d.K w y v.cells.toList ∧ ok y := by
  obtain ⟨fuel, hf⟩ := hx
  exact h fuel fuel (Nat.le_refl _) _ _ hf hw
theorem each_weights : ∀ {ts : List TypeId} {ds : List (DataW H)} {j : Nat} {t : TypeId} {d : DataW H}, (DataW.weightsEach P ts ds).all (· ≤ reachBytes) = true → ts[j]? = some t → ds[j]? = some d → (d.weights P t).all (· ≤ reachBytes) = true
  | [], ds, j, t, d, _, h, _ => by simp at h
  | _ :: _, [], j, t, d, _, _, h => by simp at h
  | u :: ts, x :: ds, 0, t, d, hw, h1, h2 => by
    simp only [DataW.weightsEach, List.all_append, Bool.and_eq_true] at hw
    obtain rfl : u = t := by simpa using h1
    obtain rfl : x = d := by simpa using h2
    exact hw.1
  | u :: ts, x :: ds, j + 1, t, d, hw, h1, h2 => by
    simp only [DataW.weightsEach, List.all_append, Bool.and_eq_true] at hw
    exact each_weights hw.2 (by simpa using h1) (by simpa using h2)
end
end Go.Proofs.Ytahgfebdjjfkhaa.Nest

/- Written by a program of this session: the functions that the laws reach, what each comes to, and each law as it is stated, for every input. No condition. -/
import Derived.Test.YtlnphoeogpfjkabProg
import Derived.Below
import Derived.Deep.Draws
import Derived.Deep.AppendLies
import Derived.Maps.AppendAt
import Derived.OwnWalk
import Derived.Laws.BytesArg
import Derived.Laws.MakeOwn
import Derived.Laws.OwnMore
import Derived.Deep.OwnRows
import Derived.Tactics
import Derived.Lib.ConvBytes
import Derived.Laws.Slices
import Derived.WalkKit
import Derived.KernelRfl
import Derived.RowKit3
import Derived.Deep.LoopGhost
import Derived.Deep.QuietTactic
import Derived.BigQuiet
import Derived.WideLaws
import Derived.Deep.DeepCutAuto
import Derived.Deep.CutBlock
import Derived.Deep.RegionHeld3
import Derived.Laws.Rows
import Derived.Lib.AppendStr
import Derived.ArgAppend
import Derived.Laws.IdiomCopy
import Derived.OrdersHeld
import Derived.Laws.BitsLemmas
import Derived.RowKit
import Derived.StillTailTactics
import Derived.Test.YtlnphoeogpfjkabWWords
import Derived.Test.YtlnphoeogpfjkabWLast
import Derived.Test.YtlnphoeogpfjkabWTab
import Derived.Test.YtlnphoeogpfjkabWFour
import Derived.Test.YtlnphoeogpfjkabWQPut
import Derived.Test.YtlnphoeogpfjkabWApart
import Derived.Test.YtlnphoeogpfjkabWArr
import Derived.Test.YtlnphoeogpfjkabWZeros
import Derived.Test.YtlnphoeogpfjkabWFoot
import Derived.Test.YtlnphoeogpfjkabWKept
import Derived.Test.YtlnphoeogpfjkabWShare
import Derived.Test.YtlnphoeogpfjkabWN
import Derived.Test.YtlnphoeogpfjkabWFootNe
import Derived.Test.YtlnphoeogpfjkabWAt
import Derived.Test.YtlnphoeogpfjkabWEqStruct
import Derived.Test.YtlnphoeogpfjkabWRepsOne
import Derived.Test.YtlnphoeogpfjkabWInv
import Derived.Test.YtlnphoeogpfjkabWInvWords
import Derived.Test.YtlnphoeogpfjkabWGuard
import Derived.Test.YtlnphoeogpfjkabWNEv
import Derived.Test.YtlnphoeogpfjkabWMore
namespace Go.Proofs.Ytlnphoeogpfjkab.P
open Go.RowKit Go.Proofs.YtlnphoeogpfjkabW.PrintWords Go.Proofs.YtlnphoeogpfjkabW.PrintLast Go.Proofs.YtlnphoeogpfjkabW.PrintMore
attribute [local go_sem] max2_int min2_int max_two min_two max_three min_three max_four min_four   -- for this text's walks alone
set_option linter.unusedVariables false
set_option linter.unusedSimpArgs false



def errW : Option Int → Value
  | none => .nilIface
  | some c => .iface 0 (.int .i64 c)
theorem errW_none : errW none = .nilIface := rfl
theorem errW_some (c : Int) : errW (some c) = .iface 0 (.int .i64 c) := rfl

theorem info2 : (Try.prog.info? 2).map (fun i => (i.zero, i.size, i.bytes)) = some (some (.int .i64 0), 1, 8) := by kernel_rfl
theorem info3 : (Try.prog.info? 3).map (fun i => (i.zero, i.size, i.bytes)) = some (some (.int .i64 0), 1, 8) := by kernel_rfl
theorem info42 : (Try.prog.info? 42).map (fun i => (i.zero, i.size, i.bytes)) = some (some (.agg #[(.int .i64 0), (.int .i64 0), (.slice none 0 0)]), 3, 40) := by kernel_rfl
-- the values' own types
def rd_L1 (xs : List (List Int)) (i : Int) : (List Int) := xs.getD i.toNat ([] : List Int)
theorem at_L1 {w : World} {A : Option Addr} {n : Nat} {xs : List (List Int)} (h : Kd.C (Kd.slice 3 (Kd.int .i64)) w A n xs) (i : Int) (h0 : 0 ≤ i) (h1 : i < n) : ∃ ad A0 c0, A = some ad ∧ w.cell? (ad.add i.toNat) = some (.slice A0 (rd_L1 xs i).length c0) ∧ (rd_L1 xs i).length ≤ c0 ∧ (Kd.int .i64).C w A0 (rd_L1 xs i).length (rd_L1 xs i) := by
  obtain ⟨ad, c, e, _, hK, hc0⟩ := Kd.C_get h ([] : List Int) i h0 h1
  have hc : ∀ j u, c[j]? = some u → w.cell? (ad.add (i.toNat * 1 + j)) = some u := hc0
  obtain ⟨A0, c0, rfl, l0, g0⟩ := hK
  exact ⟨ad, A0, c0, e, by have hq := hc 0 _ rfl; rwa [Nat.mul_one, Nat.add_zero] at hq, l0, g0⟩

/-! #### struct types 34 and 42, nested in each other -/
mutual
structure S34 where
  f0 : List Int
  f1 : List S42
structure S42 where
  f0 : Int
  f1 : Int
  f2 : List S34
end
def z34 : S34 := ⟨[], []⟩
def z42 : S42 := ⟨0, 0, []⟩
def G42 (d : Kd S34) : Kd S42 := Kd.iso (Kd.pair (Kd.int .i64) (Kd.pair (Kd.int .i64) (Kd.slice 34 d))) (fun x : S42 => (x.f0, x.f1, x.f2))
def F34 (d : Kd S34) : Kd S34 := Kd.iso (Kd.pair (Kd.slice 3 (Kd.int .i64)) (Kd.slice 42 (G42 d))) (fun x : S34 => (x.f0, x.f1))
theorem monoG42 : Kd.Mono G42 := Kd.mono_iso _ (Kd.mono_pair (Kd.mono_const _) (Kd.mono_pair (Kd.mono_const _) (Kd.mono_slice 34 Kd.mono_id)))
theorem mono34 : Kd.Mono F34 := Kd.mono_iso _ (Kd.mono_pair (Kd.mono_const _) (Kd.mono_slice 42 monoG42))
theorem subG42 : Kd.Sub G42 [3, 34, 42] := Kd.sub_iso _ (Kd.sub_pair (Kd.sub_const _ (by decide)) (Kd.sub_pair (Kd.sub_const _ (by decide)) (Kd.sub_slice 34 (by decide) Kd.sub_id)))
theorem sub34 : Kd.Sub F34 [3, 34, 42] := Kd.sub_iso _ (Kd.sub_pair (Kd.sub_const _ (by decide)) (Kd.sub_slice 42 (by decide) subG42))
theorem sz34 : ∀ n, (Kd.upto F34 2 [3, 34, 42] n).sz = 2 := Kd.upto_sz (fun _ => rfl)
def k34 : Kd S34 := Kd.fix F34 2 [3, 34, 42] sz34 (Kd.upto_E sub34)
def rd_L3 (xs : List (List S34)) (i : Int) : (List S34) := xs.getD i.toNat ([] : List S34)
theorem at_L3 {w : World} {A : Option Addr} {n : Nat} {xs : List (List S34)} (h : Kd.C (Kd.slice 34 k34) w A n xs) (i : Int) (h0 : 0 ≤ i) (h1 : i < n) : ∃ ad A0 c0, A = some ad ∧ w.cell? (ad.add i.toNat) = some (.slice A0 (rd_L3 xs i).length c0) ∧ (rd_L3 xs i).length ≤ c0 ∧ k34.C w A0 (rd_L3 xs i).length (rd_L3 xs i) := by
  obtain ⟨ad, c, e, _, hK, hc0⟩ := Kd.C_get h ([] : List S34) i h0 h1
  have hc : ∀ j u, c[j]? = some u → w.cell? (ad.add (i.toNat * 1 + j)) = some u := hc0
  obtain ⟨A0, c0, rfl, l0, g0⟩ := hK
  exact ⟨ad, A0, c0, e, by have hq := hc 0 _ rfl; rwa [Nat.mul_one, Nat.add_zero] at hq, l0, g0⟩

/-! #### struct type 42 -/
def k42 : Kd S42 := Kd.iso (Kd.pair (Kd.int .i64) (Kd.pair (Kd.int .i64) (Kd.slice 34 k34))) (fun x : S42 => (x.f0, x.f1, x.f2))
theorem k42_open {w : World} {x : S42} {cs : List Value} (h : k42.K w x cs) : ∃ A2 c2, cs = [.int .i64 x.f0, .int .i64 x.f1, .slice A2 x.f2.length c2] ∧ x.f2.length ≤ c2 ∧ k34.C w A2 x.f2.length x.f2 := by
  obtain ⟨_, _, rfl, rfl, ⟨_, _, rfl, rfl, ⟨A2, c2, rfl, l2, g2⟩⟩⟩ := h
  exact ⟨A2, c2, rfl, l2, g2⟩
theorem k42_openM {w : World} {base : Nat} {ok : Nat → Prop} {x : S42} {cs : List Value} (h : k42.M w base ok x cs) : ∃ v2, cs = [.int .i64 x.f0, .int .i64 x.f1, v2] ∧ k34.R 34 w base ok v2 x.f2 := by
  obtain ⟨_, _, rfl, rfl, ⟨_, _, rfl, rfl, ⟨v2, rfl, g2⟩⟩⟩ := h
  exact ⟨v2, rfl, g2⟩
theorem k42_mk (w : World) (x : S42) {A2 : Option Addr} {c2 : Nat} (l2 : x.f2.length ≤ c2) (g2 : k34.C w A2 x.f2.length x.f2) : k42.K w x [.int .i64 x.f0, .int .i64 x.f1, .slice A2 x.f2.length c2] := ⟨[.int .i64 x.f0], [.int .i64 x.f1, .slice A2 x.f2.length c2], rfl, rfl, ⟨[.int .i64 x.f1], [.slice A2 x.f2.length c2], rfl, rfl, ⟨A2, c2, rfl, l2, g2⟩⟩⟩
theorem k42_mkM (w : World) (base : Nat) (ok : Nat → Prop) (x : S42) {v2 : Value} (g2 : k34.R 34 w base ok v2 x.f2) : k42.M w base ok x [.int .i64 x.f0, .int .i64 x.f1, v2] := ⟨[.int .i64 x.f0], [.int .i64 x.f1, v2], rfl, rfl, ⟨[.int .i64 x.f1], [v2], rfl, rfl, ⟨v2, rfl, g2⟩⟩⟩
def rd_T42 (xs : List S42) (i : Int) : S42 := xs.getD i.toNat z42
theorem at_T42 {w : World} {A : Option Addr} {n : Nat} {xs : List S42} (h : Kd.C k42 w A n xs) (i : Int) (h0 : 0 ≤ i) (h1 : i < n) : ∃ ad A2 c2, A = some ad ∧ w.cell? (ad.add (i.toNat * 3)) = some (.int .i64 (rd_T42 xs i).f0) ∧ w.cell? ⟨(ad.add (i.toNat * 3)).block, (ad.add (i.toNat * 3)).off + 1, none⟩ = some (.int .i64 (rd_T42 xs i).f1) ∧ w.cell? ⟨(ad.add (i.toNat * 3)).block, (ad.add (i.toNat * 3)).off + 2, none⟩ = some (.slice A2 (rd_T42 xs i).f2.length c2) ∧ (rd_T42 xs i).f2.length ≤ c2 ∧ k34.C w A2 (rd_T42 xs i).f2.length (rd_T42 xs i).f2 := by
  obtain ⟨ad, c, e, _, hK, hc0⟩ := Kd.C_get h z42 i h0 h1
  have hc : ∀ j u, c[j]? = some u → w.cell? (ad.add (i.toNat * 3 + j)) = some u := hc0
  obtain ⟨A2, c2, rfl, l2, g2⟩ := k42_open hK
  exact ⟨ad, A2, c2, e, hc 0 _ rfl, by rw [← add_field _ _ 1 (by omega)]; exact hc 1 _ rfl, by rw [← add_field _ _ 2 (by omega)]; exact hc 2 _ rfl, l2, g2⟩

def rd_L5 (xs : List (List S42)) (i : Int) : (List S42) := xs.getD i.toNat ([] : List S42)
theorem at_L5 {w : World} {A : Option Addr} {n : Nat} {xs : List (List S42)} (h : Kd.C (Kd.slice 42 k42) w A n xs) (i : Int) (h0 : 0 ≤ i) (h1 : i < n) : ∃ ad A0 c0, A = some ad ∧ w.cell? (ad.add i.toNat) = some (.slice A0 (rd_L5 xs i).length c0) ∧ (rd_L5 xs i).length ≤ c0 ∧ k42.C w A0 (rd_L5 xs i).length (rd_L5 xs i) := by
  obtain ⟨ad, c, e, _, hK, hc0⟩ := Kd.C_get h ([] : List S42) i h0 h1
  have hc : ∀ j u, c[j]? = some u → w.cell? (ad.add (i.toNat * 1 + j)) = some u := hc0
  obtain ⟨A0, c0, rfl, l0, g0⟩ := hK
  exact ⟨ad, A0, c0, e, by have hq := hc 0 _ rfl; rwa [Nat.mul_one, Nat.add_zero] at hq, l0, g0⟩

/-! #### struct type 34: its cells laid open, and put together -/
theorem nest_C_back {α : Type} {G : Nat → Kd α} {D : Kd α} (hs : ∀ n, (G n).sz = D.sz) (hle : ∀ n m, n ≤ m → ∀ w x cs, (G n).K w x cs → (G m).K w x cs) (hb : ∀ w x cs, D.K w x cs → ∃ n, (G n).K w x cs) {w : World} {A : Option Addr} {m : Nat} {xs : List α} (h : D.C w A m xs) : ∃ n, (G n).C w A m xs := by
  rcases Nat.eq_zero_or_pos m with hz | hpos
  · subst hz
    exact ⟨0, h.1, h.2.1, fun hp => absurd hp (Nat.lt_irrefl 0)⟩
  · obtain ⟨ad, e, hc⟩ := h.2.2 hpos
    obtain ⟨N, hN⟩ := Kd.bounded (P := fun n j => ∀ p, xs[j]? = some p → ∃ c, c.length = D.sz ∧ (G n).K w p c ∧ ∀ i u, c[i]? = some u → w.cell? (ad.add (j * D.sz + i)) = some u)
      (fun n n' j hnm hp p hj => by
        obtain ⟨c, h1, h2, h3⟩ := hp p hj
        exact ⟨c, h1, hle n n' hnm _ _ _ h2, h3⟩) xs.length
      (fun j hj => by
        obtain ⟨c, h1, h2, h3⟩ := hc j _ (List.getElem?_eq_getElem hj)
        obtain ⟨n, h2⟩ := hb _ _ _ h2
        refine ⟨n, fun p hp => ?_⟩
        rw [List.getElem?_eq_getElem hj] at hp
        injection hp with hp
        rw [← hp]
        exact ⟨c, h1, h2, h3⟩)
    refine ⟨N, h.1, h.2.1, fun _ => ⟨ad, e, fun j p hj => ?_⟩⟩
    rw [hs N]
    exact hN j (List.getElem?_eq_some_iff.1 hj).1 p hj
theorem nest_R_back {α : Type} {G : Nat → Kd α} {D : Kd α} (hs : ∀ n, (G n).sz = D.sz) (hle : ∀ n m, n ≤ m → ∀ w base ok x cs, (G n).M w base ok x cs → (G m).M w base ok x cs) (hb : ∀ w base ok x cs, D.M w base ok x cs → ∃ n, (G n).M w base ok x cs) {e : Nat} {w : World} {base : Nat} {ok : Nat → Prop} {v : Value} {xs : List α} (h : D.R e w base ok v xs) : ∃ n, (G n).R e w base ok v xs := by
  obtain ⟨h0, inner, ho, hr⟩ := h
  have hr2 : Reps (fun p c => ∃ n, (G n).M w base (fun k => ok k ∧ some k ≠ v.ownBlock) p c) D.sz xs inner := hr.imp_ (fun _ _ hp => hb _ _ _ _ _ hp)
  obtain ⟨N, hN⟩ := Kd.reps_bounded (R := fun n p c => (G n).M w base (fun k => ok k ∧ some k ≠ v.ownBlock) p c) (fun n m p c hnm hp => hle n m hnm _ _ _ _ _ hp) hr2
  refine ⟨N, h0, inner, ?_, ?_⟩
  · rw [hs N]; exact ho
  · rw [hs N]; exact hN
theorem nest42_C {n : Nat} {w : World} {B : Option Addr} {m : Nat} {xs : List S42} (h : (G42 (Kd.upto F34 2 [3, 34, 42] n)).C w B m xs) : k42.C w B m xs :=
  Kd.C_imp (d := G42 (Kd.upto F34 2 [3, 34, 42] n)) (d' := k42) rfl (fun w x cs hp => monoG42.K _ k34 (sz34 n) (fun w x cs h => (show k34.K w x cs from (⟨n, h⟩ : ∃ n, (Kd.upto F34 2 [3, 34, 42] n).K w x cs))) w x cs hp) h
theorem nest42_R {n e : Nat} {w : World} {base : Nat} {ok : Nat → Prop} {v : Value} {xs : List S42} (h : (G42 (Kd.upto F34 2 [3, 34, 42] n)).R e w base ok v xs) : k42.R e w base ok v xs :=
  Kd.R_imp (d := G42 (Kd.upto F34 2 [3, 34, 42] n)) (d' := k42) rfl (fun w base ok x cs hp => monoG42.M _ k34 (sz34 n) (fun w base ok x cs h => (show k34.M w base ok x cs from (⟨n, h⟩ : ∃ n, (Kd.upto F34 2 [3, 34, 42] n).M w base ok x cs))) w base ok x cs hp) h
theorem nest42_C_back {w : World} {B : Option Addr} {m : Nat} {xs : List S42} (h : k42.C w B m xs) : ∃ n, (G42 (Kd.upto F34 2 [3, 34, 42] n)).C w B m xs :=
  nest_C_back (G := fun n => G42 (Kd.upto F34 2 [3, 34, 42] n)) (D := k42) (fun _ => rfl) (fun n m hnm w x cs hp => monoG42.K _ _ (by rw [sz34 n, sz34 m]) (fun _ _ _ hk => Kd.upto_K_le mono34 sz34 hnm hk) w x cs hp)
    (by
      rintro w x cs ⟨c0, c1, rfl, h0, c2, c3, rfl, h1, B, c, rfl, hl, hr⟩
      obtain ⟨n, hn⟩ := Kd.fix_C_back mono34 hr
      exact ⟨n, c0, _, rfl, h0, c2, _, rfl, h1, B, c, rfl, hl, hn⟩) h
theorem nest42_R_back {e : Nat} {w : World} {base : Nat} {ok : Nat → Prop} {v : Value} {xs : List S42} (h : k42.R e w base ok v xs) : ∃ n, (G42 (Kd.upto F34 2 [3, 34, 42] n)).R e w base ok v xs :=
  nest_R_back (G := fun n => G42 (Kd.upto F34 2 [3, 34, 42] n)) (D := k42) (fun _ => rfl) (fun n m hnm w base ok x cs hp => monoG42.M _ _ (by rw [sz34 n, sz34 m]) (fun _ _ _ _ _ hk => Kd.upto_M_le mono34 sz34 hnm hk) w base ok x cs hp)
    (by
      rintro w base ok x cs ⟨c0, c1, rfl, h0, c2, c3, rfl, h1, v, rfl, hr⟩
      obtain ⟨n, hn⟩ := Kd.fix_R_back mono34 hr
      exact ⟨n, c0, _, rfl, h0, c2, _, rfl, h1, v, rfl, hn⟩) h
theorem k34_open {w : World} {x : S34} {cs : List Value} (h : k34.K w x cs) : ∃ A0 c0 A1 c1, cs = [.slice A0 x.f0.length c0, .slice A1 x.f1.length c1] ∧ x.f0.length ≤ c0 ∧ (Kd.int .i64).C w A0 x.f0.length x.f0 ∧ x.f1.length ≤ c1 ∧ k42.C w A1 x.f1.length x.f1 := by
  obtain ⟨n, h⟩ := h
  cases n with
  | zero => exact h.elim
  | succ n =>
    obtain ⟨_, _, rfl, ⟨A0, c0, rfl, l0, g0⟩, ⟨A1, c1, rfl, l1, g1⟩⟩ := h
    exact ⟨A0, c0, A1, c1, rfl, l0, g0, l1, nest42_C g1⟩
theorem k34_openM {w : World} {base : Nat} {ok : Nat → Prop} {x : S34} {cs : List Value} (h : k34.M w base ok x cs) : ∃ v0 v1, cs = [v0, v1] ∧ (Kd.int .i64).R 3 w base ok v0 x.f0 ∧ k42.R 42 w base ok v1 x.f1 := by
  obtain ⟨n, h⟩ := h
  cases n with
  | zero => exact h.elim
  | succ n =>
    obtain ⟨_, _, rfl, ⟨v0, rfl, g0⟩, ⟨v1, rfl, g1⟩⟩ := h
    exact ⟨v0, v1, rfl, g0, nest42_R g1⟩
theorem k34_mk (w : World) (x : S34) {A0 : Option Addr} {c0 : Nat} (l0 : x.f0.length ≤ c0) (g0 : (Kd.int .i64).C w A0 x.f0.length x.f0) {A1 : Option Addr} {c1 : Nat} (l1 : x.f1.length ≤ c1) (g1 : k42.C w A1 x.f1.length x.f1) : k34.K w x [.slice A0 x.f0.length c0, .slice A1 x.f1.length c1] := by
  obtain ⟨n, q⟩ := nest42_C_back g1
  exact ⟨n + 1, [_], [_], rfl, ⟨A0, c0, rfl, l0, g0⟩, ⟨A1, c1, rfl, l1, q⟩⟩
theorem k34_mkM (w : World) (base : Nat) (ok : Nat → Prop) (x : S34) {v0 : Value} (g0 : (Kd.int .i64).R 3 w base ok v0 x.f0) {v1 : Value} (g1 : k42.R 42 w base ok v1 x.f1) : k34.M w base ok x [v0, v1] := by
  obtain ⟨n, q⟩ := nest42_R_back g1
  exact ⟨n + 1, [_], [_], rfl, ⟨v0, rfl, g0⟩, ⟨v1, rfl, q⟩⟩
def rd_T34 (xs : List S34) (i : Int) : S34 := xs.getD i.toNat z34
theorem at_T34 {w : World} {A : Option Addr} {n : Nat} {xs : List S34} (h : Kd.C k34 w A n xs) (i : Int) (h0 : 0 ≤ i) (h1 : i < n) : ∃ ad A0 c0 A1 c1, A = some ad ∧ w.cell? (ad.add (i.toNat * 2)) = some (.slice A0 (rd_T34 xs i).f0.length c0) ∧ w.cell? ⟨(ad.add (i.toNat * 2)).block, (ad.add (i.toNat * 2)).off + 1, none⟩ = some (.slice A1 (rd_T34 xs i).f1.length c1) ∧ (rd_T34 xs i).f0.length ≤ c0 ∧ (Kd.int .i64).C w A0 (rd_T34 xs i).f0.length (rd_T34 xs i).f0 ∧ (rd_T34 xs i).f1.length ≤ c1 ∧ k42.C w A1 (rd_T34 xs i).f1.length (rd_T34 xs i).f1 := by
  obtain ⟨ad, c, e, _, hK, hc0⟩ := Kd.C_get h z34 i h0 h1
  have hc : ∀ j u, c[j]? = some u → w.cell? (ad.add (i.toNat * 2 + j)) = some u := hc0
  obtain ⟨A0, c0, A1, c1, rfl, l0, g0, l1, g1⟩ := k34_open hK
  exact ⟨ad, A0, c0, A1, c1, e, hc 0 _ rfl, by rw [← add_field _ _ 1 (by omega)]; exact hc 1 _ rfl, l0, g0, l1, g1⟩

end Go.Proofs.Ytlnphoeogpfjkab.P

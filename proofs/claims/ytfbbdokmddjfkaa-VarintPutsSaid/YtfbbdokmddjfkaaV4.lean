/- VarintRow: what the law comes to. -/
import Derived.Test.YtfbbdokmddjfkaaV3
namespace Go.Proofs.Ytfbbdokmddjfkaa.Var
open Go Big Go.RowKit Go.IntWalk
set_option linter.unusedVariables false
set_option linter.unusedSimpArgs false
def encs (l : List Nat) : List Int := l.flatMap enc
theorem own_none {e : TypeId} {k : IntKind} {w : World} {base : Nat} {A : Option Addr} {l c : Nat} {xs : List Int} (h : Own k e w base (.slice A l c) xs) : A = none → l = 0 ∧ c = 0 := by
  intro hA; subst hA
  rcases h.2 with ⟨h', hn'⟩ | ⟨g, cap, cur, h', _⟩
  · injection h' with _ h1 h2; exact ⟨h1, h2⟩
  · injection h' with h1 _ _; cases h1
theorem Row_l0 {n : Nat} (hn : 100 < n) {w0 : World} {A : Option Addr} {la ca : Nat} {zs : List Nat} (ha : Sl .u64 w0 A la (zs.map fun (z : Nat) => (z : Int))) (hz : ∀ z ∈ zs, z < 2 ^ 64) (hla : la ≤ 60) :
    ∀ (k j m : Nat) (B : Option Addr) (l c : Nat) (w : World), j + k = la → k < m → Sl .u8 w B l (encs (zs.take j)) → (B = none → l = 0 ∧ c = 0) → l ≤ 10 * j → l ≤ c → Kp w0 w →
    ∃ B' c' w', butterylaw2_VarintRow.l0 n m A la ca B l c (j : Int) w = some ⟨.exit 0, [.slice A la ca, .slice B' (encs zs).length c'], w'⟩ ∧ Sl .u8 w' B' (encs zs).length (encs zs) ∧ (encs zs).length ≤ c' ∧ (encs zs).length ≤ 600 ∧ Kp w0 w' := by
  have hlen : zs.length = la := by have := ha.1; simpa using this
  intro k
  induction k with
  | zero =>
    intro j m B l c w hj hm hs hB hl hc hk
    obtain ⟨m, rfl⟩ : ∃ m', m = m' + 1 := ⟨m - 1, by omega⟩
    have : zs.take j = zs := List.take_of_length_le (by omega)
    rw [this] at hs
    have hl' := hs.1
    subst hl'
    exact ⟨B, c, w, by rw [butterylaw2_VarintRow.l0_succ, cF (by simp; omega)], hs, hc, by omega, hk⟩
  | succ k ih =>
    intro j m B l c w hj hm hs hB hl hc hk
    obtain ⟨m, rfl⟩ : ∃ m', m = m' + 1 := ⟨m - 1, by omega⟩
    have hj' : j < zs.length := by omega
    have e1 : (zs.map fun (z : Nat) => (z : Int)).getD ((j : Int)).toNat 0 = ((zs[j] : Nat) : Int) := by simp [List.getD_eq_getElem?_getD, hj']
    have hzj := hz zs[j] (List.getElem_mem _)
    have hi : IntKind.i64.wrap ((j : Int) + 1) = ((j + 1 : Nat) : Int) := by rw [i64_in _ (by omega)]; omega
    obtain ⟨B', c', w', e, o, k'⟩ := Put_spec (n := n) hn hs hB (by omega) zs[j] hzj
    have hap : encs (zs.take j) ++ enc zs[j] = encs (zs.take (j + 1)) := by
      rw [← List.take_append_getElem hj']; unfold encs; rw [List.flatMap_append, List.flatMap_cons, List.flatMap_nil, List.append_nil]
    have hl' := hs.1
    have hel := enc_len 9 zs[j] (by omega)
    obtain ⟨B2, c2, w2, e2, s2, h3, h4, k2⟩ := ih (j + 1) m B' _ c' w' (by omega) (by omega) (by rw [← hap]; exact o.sl.2) (own_none o) (by rw [List.length_append]; omega) (own_cap o) (hk.tr k')
    refine ⟨B2, c2, w2, ?_, s2, h3, h4, k2⟩
    rw [butterylaw2_VarintRow.l0_succ, cT (by simp; omega), (ha.kp hk).ix (by omega) (by omega), e1, e, cl1L, hi, e2]
theorem Row_l1 {n : Nat} (hn : 2 ^ 59 < n) {w : World} {A B : Option Addr} {la ca c : Nat} {zs : List Nat} (ha : Sl .u64 w A la (zs.map fun (z : Nat) => (z : Int))) (hz : ∀ z ∈ zs, z < 2 ^ 64) (hla : la ≤ 60)
    (hs : Sl .u8 w B (encs zs).length (encs zs)) (hc : (encs zs).length ≤ c) (h600 : (encs zs).length ≤ 600) :
    ∀ (k j m : Nat), j + k = la → k < m →
    butterylaw2_VarintRow.l1 n m A la ca B (encs zs).length c ((encs (zs.take j)).length : Int) (j : Int) w = some ⟨.exit 2, [.slice B (encs zs).length c, .int .i64 ((encs zs).length : Int)], w⟩ := by
  have hlen : zs.length = la := by have := ha.1; simpa using this
  have hbytes : ∀ y ∈ encs zs, 0 ≤ y ∧ y ≤ 255 := by
    intro y hy
    obtain ⟨z, hz', hy⟩ := List.mem_flatMap.1 hy
    exact enc_bytes 9 z (by have := hz z hz'; omega) y hy
  intro k
  induction k with
  | zero =>
    intro j m hj hm
    obtain ⟨m, rfl⟩ : ∃ m', m = m' + 1 := ⟨m - 1, by omega⟩
    rw [butterylaw2_VarintRow.l1_succ, cF (by simp; omega), List.take_of_length_le (by omega)]
  | succ k ih =>
    intro j m hj hm
    obtain ⟨m, rfl⟩ : ∃ m', m = m' + 1 := ⟨m - 1, by omega⟩
    have hj' : j < zs.length := by omega
    have e1 : (zs.map fun (z : Nat) => (z : Int)).getD ((j : Int)).toNat 0 = ((zs[j] : Nat) : Int) := by simp [List.getD_eq_getElem?_getD, hj']
    have hzj := hz zs[j] (List.getElem_mem _)
    have hi : IntKind.i64.wrap ((j : Int) + 1) = ((j + 1 : Nat) : Int) := by rw [i64_in _ (by omega)]; omega
    have hap : encs (zs.take j) ++ enc zs[j] = encs (zs.take (j + 1)) := by
      rw [← List.take_append_getElem hj']; unfold encs; rw [List.flatMap_append, List.flatMap_cons, List.flatMap_nil, List.append_nil]
    have hall : encs zs = encs (zs.take j) ++ enc zs[j] ++ encs (zs.drop (j + 1)) := by
      rw [hap]; unfold encs; rw [← List.flatMap_append, List.take_append_drop]
    have hg : getR (encs zs) ((encs (zs.take j)).length : Int) = ((zs[j] : Int), (((encs (zs.take j)).length + (enc zs[j]).length : Nat) : Int), 0) := by
      rw [hall]; exact getR_enc _ _ _ hzj
    have hp := enc_pos zs[j]
    rw [butterylaw2_VarintRow.l1_succ, cT (by simp; omega), Get_spec hn hs hbytes (by omega) hc, clG, hg, num_spec, cl1I, cF (by simp), ha.ix (by omega) (by omega), e1, cF (by simp), cF (by simp; omega), hi]
    have := ih (j + 1) m (by omega) (by omega)
    rw [← hap, List.length_append] at this
    exact this
theorem row_ok {n : Nat} (hn : 2 ^ 59 < n) (A : Option Addr) (la ca : Nat) (zs : List Nat) (w : World) (ha : Sl .u64 w A la (zs.map fun (z : Nat) => (z : Int))) (hz : ∀ z ∈ zs, z < 2 ^ 64) :
    ∃ w', butterylaw2_VarintRow n [.slice A la ca] w = some ([.bool true], w') ∧ Kp w w' := by
  obtain ⟨w2, h1, k2⟩ := alive_ok hn w
  rw [butterylaw2_VarintRow_eq, h1, cl1B, cF (x := !true) rfl]
  by_cases g1 : (la : Int) > 60
  · exact ⟨w2, by rw [cT (by simpa using g1), fin_ret], k2⟩
  rw [cF (by simpa using g1)]
  obtain ⟨B, c, w3, e3, s3, h3, h4, k3⟩ := Row_l0 (n := n) (ca := ca) (by omega) (ha.kp k2) hz (by omega) la 0 n none 0 0 w2 (by omega) (by omega) (Sl.nil ..) (fun _ => ⟨rfl, rfl⟩) (by omega) (by omega) (Kp.rfl' w2)
  have e3 : butterylaw2_VarintRow.l0 n n A la ca none 0 0 0 w2 = _ := e3
  rw [e3, jb_exit, tC_mk, tL_mk, tC_mk, tL_mk, tN_mk]
  have e4 := Row_l1 (n := n) (ca := ca) (c := c) hn (ha.kp (k2.tr k3)) hz (by omega) s3 h3 h4 la 0 n (by omega) (by omega)
  have e4 : butterylaw2_VarintRow.l1 n n A la ca B (encs zs).length c 0 0 w3 = _ := e4
  refine ⟨w3, ?_, k2.tr k3⟩
  rw [e4, jb_exit, tC_mk, tL_mk, tC_mk, tI_mk, tN_mk, beq_self_eq_true, fin_ret]
theorem nats_of {xs : List Int} (h : ∀ x ∈ xs, (Lit.int .u64 x).wf = true) : ∃ zs : List Nat, xs = zs.map (fun (z : Nat) => (z : Int)) ∧ ∀ z ∈ zs, z < 2 ^ 64 := by
  refine ⟨xs.map Int.toNat, ?_, fun z hz => ?_⟩
  · rw [List.map_map]
    have : xs.map id = xs.map ((fun (z : Nat) => (z : Int)) ∘ Int.toNat) := List.map_congr_left fun x hx => by have := bounds_u64 (h x hx); simp; omega
    simpa using this
  · obtain ⟨x, hx, rfl⟩ := List.mem_map.1 hz
    have := bounds_u64 (h x hx); omega
end Go.Proofs.Ytfbbdokmddjfkaa.Var

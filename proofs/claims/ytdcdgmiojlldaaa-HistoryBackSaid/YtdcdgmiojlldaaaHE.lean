/- History: the pairs of a state, as they come. -/
import Derived.Test.YtdcdgmiojlldaaaHD
import Derived.ChangeKeys
namespace Go.Proofs.Ytdcdgmiojlldaaa.Hi
open Go Big Go.RowKit Go.IntWalk Go.Maps Go.WideShapes
set_option linter.unusedVariables false
set_option linter.unusedSimpArgs false
abbrev KV := List Int × List Int
def prEl : El KV where
  sz := 2
  rd w vs x := ∃ A l c B m d, vs = [.slice A l c, .slice B m d] ∧ Bv .u8 w A l c x.1 ∧ Bv .u8 w B m d x.2
  kp := fun hk ⟨A, l, c, B, m, d, e, h1, h2⟩ => ⟨A, l, c, B, m, d, e, h1.kp hk, h2.kp hk⟩
  one := fun {w vs x} ⟨A, l, c, B, m, d, e, _, _⟩ u hu => by subst e; simp only [List.mem_cons, List.not_mem_nil, or_false] at hu; rcases hu with rfl | rfl <;> rfl
def unb (u : List UInt8) : List Int := u.map fun x => (x.toNat : Int)
theorem u8_wf (x : UInt8) : (Lit.int .u8 (x.toNat : Int)).wf = true := by
  have := x.toNat_lt
  have h0 : IntKind.u8.min = 0 := rfl
  have h1 : IntKind.u8.max = 255 := rfl
  simp only [Lit.wf, h0, h1, Bool.and_eq_true, decide_eq_true_eq]
  omega
theorem unb_bytes (u : List UInt8) : Bytes (unb u) := fun z hz => by
  unfold unb at hz
  obtain ⟨x, _, rfl⟩ := List.mem_map.1 hz
  exact u8_wf x
theorem bts_unb (u : List UInt8) : bts (unb u) = u := by
  unfold bts unb
  rw [List.map_map]
  conv => rhs; rw [← List.map_id u]
  refine List.map_congr_left fun x _ => ?_
  show UInt8.ofNat (Int.toNat (x.toNat : Int)) = x
  simp
section
variable {α : Type} {Q : α → Prop} {n m base mb b N : Nat} {w w' w0 w1 ws : World} {A B C : Option Addr} {l c m1 d1 m2 d2 d k : Nat} {bs cs : List Int} {S T : Nat → Prop} {f : List Int → Option (List Int)} {D : DataW Value}
theorem key_inv {key : Value} {kl : Lit} (h : keyOf Try.prog 9 key = some kl) : ∃ s : ByteArray, key = .string s ∧ kl = .string s.data.toList ∧ s.size ≤ maxLen := by
  rw [keyOf_string k9] at h
  unfold mapKey at h
  rw [k9] at h
  cases key with
  | string s =>
    simp only at h
    split at h
    · rename_i hs
      exact ⟨s, rfl, (Option.some.inj h).symm, hs⟩
    · cases h
  | _ => simp at h
/-- '[]byte(s)'. -/
theorem Rt.toB {s : ByteArray} (hs : s.size ≤ maxLen) {g : Value → World → Option α} (hg : ∀ c w', Bv .u8 w' (some ⟨w.heap.size, 0, none⟩) s.size c (unb s.data.toList) → Kp w w' → w'.heap.size = w.heap.size + 1 → Rt (g (.slice (some ⟨w.heap.size, 0, none⟩) s.size c) w') Q) : Rt (rn Try.prog (Go.convert 9 23 (.string s)) w g) Q := by
  have hrun := run_bytes_of_string w 9 23 5 s k9 Try.underlying23 Try.underlying5
  have hge := grownCap_ge w s.size 0 5
  have hle := grownCap_le_maxLen w s.size 0 5 hs
  rw [rn_run hrun]
  generalize grownCap w s.size 0 5 = cc at hge hle ⊢
  have hsl : s.data.toList.length = s.size := Array.length_toList
  refine hg cc _ ⟨⟨by unfold unb; rw [List.length_map, hsl], .inr ⟨_, rfl, fun i hi => ?_⟩⟩, (fun h => by cases h), hge, hle, fun x hx => unb_bytes _ x hx⟩ ((Kp.rfl' w).dr.al _) (by show (w.heap.push _).size = _; exact Array.size_push ..)
  · rw [Addr.add_lit, Nat.zero_add]
    have hi' : i < s.data.size := by unfold unb at hi; simpa using hi
    have hblk : (w.drew.alloc (.cells (bytesRow s cc) 5 ((bytesRow s cc).size, (bytesRow s cc).size + 1))).heap[w.heap.size]? = some (.cells (bytesRow s cc) 5 ((bytesRow s cc).size, (bytesRow s cc).size + 1)) := by
      show (w.heap.push _)[w.heap.size]? = _
      simp
    unfold World.cell?
    rw [hblk]
    show (if (none : Option _).isSome then none else (bytesRow s cc)[i]?) = _
    rw [if_neg (by simp)]
    unfold bytesRow unb
    rw [Array.getElem?_append_left (by simpa using hi')]
    simp only [Array.getElem?_map, List.getD_eq_getElem?_getD, List.getElem?_map, Array.getElem?_toList]
    rw [Array.getElem?_eq_getElem hi']
    rfl
/-- A loop over the map, on its way: what came so far. -/
structure Rg (ws w : World) (b r : Nat) (f : List Int → Option (List Int)) (qs : List KV) (cnt : Nat) : Prop where
  ex : ∃ n D left, w.ranges (H := Value) Try.prog 9 hR b r n D left cnt ∧ (∀ k, Bytes k → (f k = none → ∀ z, D.atKey (.string (bts k)) z = z) ∧ (∀ v, f k = some v → ∃ A l c, (∀ z, D.atKey (.string (bts k)) z = .held (.slice A l c)) ∧ Bv .u8 ws A l c v)) ∧
    ∀ k, Bytes k → (left (.string (bts k)) = true ↔ (f k).isSome = true ∧ k ∉ qs.map Prod.fst)
  mem : ∀ q ∈ qs, Bytes q.1 ∧ f q.1 = some q.2
  nd : (qs.map Prod.fst).Nodup
theorem Rg.gx {r cnt : Nat} {qs : List KV} (h : Rg ws w b r f qs cnt) (hg : Gx S w w') (hb : ¬ S b) (hr : ¬ S r) : Rg ws w' b r f qs cnt := by
  obtain ⟨⟨n, D, left, h1, h2, h3⟩, h4, h5⟩ := h
  refine ⟨⟨n, D, left, ?_, h2, h3⟩, h4, h5⟩
  have hbl := h1.owns.lt
  have hrl := h1.lt
  obtain ⟨es, clock, since, seen, c0, hb', F, hs, hD, hr', rest⟩ := h1
  exact ⟨es, clock, since, seen, c0, (hg.block b hbl hb).trans hb', F, hs, hD, (hg.block r hrl hr).trans hr', rest⟩
theorem Rg.kp {r cnt : Nat} {qs : List KV} (h : Rg ws w b r f qs cnt) (k : Kp w w') : Rg ws w' b r f qs cnt := h.gx (S := fun _ => False) k.gx (fun h => h) fun h => h
theorem Rg.lt {r cnt : Nat} {qs : List KV} (h : Rg ws w b r f qs cnt) : r < w.heap.size := by obtain ⟨⟨n, D, left, h1, _⟩, _⟩ := h; exact h1.lt
theorem Rt.rangeM (h : Mk ws w b N f) {g : Value → World → Option α} (hf : ∀ cnt w', Rg ws w' b w.heap.size f [] cnt → cnt ≤ N → Kp w w' → w.heap.size < w'.heap.size → Rt (g (.pointer (some ⟨w.heap.size, 0, none⟩)) w') Q) : Rt (rn Try.prog (Instr.range 45 (.map (some b))) w g) Q := by
  obtain ⟨n, D, h1, h2, h3⟩ := h
  obtain ⟨w', hrun, hr, hg, hsz⟩ := h1.range (string_keyed k9) k45
  rw [rn_run hrun]
  refine hf _ w' ⟨⟨n, D, _, hr, h3, fun k hk => ?_⟩, (fun q hq => by cases hq), by simp⟩ (Nat.le_trans h1.size_le h2) (Gx.kp (S := fun _ => False) ((Gx.of_grown hg).wide fun k _ e => by cases e) (fun _ h => h.elim)) (by omega)
  cases e : f k with
  | none =>
    have := has_false_of_atKey ((h3 k hk).1 e)
    simp [this]
  | some v =>
    obtain ⟨A, l, c, q1, _⟩ := (h3 k hk).2 v e
    have := has_true_of_atKey q1
    simp [this]
/-- The step. -/
theorem Rt.nextM {r cnt : Nat} {qs : List KV} (h : Rg ws w b r f qs cnt) {gw : World → Option α} {k : World → Value → Value → Option α}
    (h0 : (∀ k, Bytes k → (f k).isSome = true → k ∈ qs.map Prod.fst) → Rt (gw w) Q)
    (h1 : ∀ w' cnt' A l c (s : ByteArray) v, s.size ≤ maxLen → Bv .u8 ws A l c v → cnt' < cnt → Rg ws w' b r f (qs ++ [(unb s.data.toList, v)]) cnt' → Gx (fun j => j = r) w w' → Rt (k w' (.string s) (.slice A l c)) Q) :
    Rt (rn Try.prog (Instr.next (.pointer (some ⟨r, 0, none⟩)) false 0) w fun v w' => nxV v (gw w') fun _ _ => rn Try.prog (Instr.entry (.pointer (some ⟨r, 0, none⟩))) w' fun v w'' => enV v fun a c => k w'' a c) Q := by
  obtain ⟨⟨n, D, left, hr, hf, hl⟩, hmem, hnd⟩ := h
  rcases hr.next (string_keyed k9) 0 with ⟨_, hleft, hrun⟩ | ⟨key, v, kl, y, w', c', hk, hlk, hv, hat, hrun, hrg, hc, hg, hsz, hen⟩
  · rw [show rn Try.prog (Instr.next (.pointer (some ⟨r, 0, none⟩)) false 0) w (fun v w' => nxV v (gw w') fun _ _ => rn Try.prog (Instr.entry (.pointer (some ⟨r, 0, none⟩))) w' fun v w'' => enV v fun a c => k w'' a c) = nxV (.tuple #[.bool false]) (gw w) (fun _ _ => rn Try.prog (Instr.entry (.pointer (some ⟨r, 0, none⟩))) w fun v w'' => enV v fun a c => k w'' a c) by simp only [rn, hrun]]
    refine h0 fun k hkb hsome => ?_
    refine Decidable.byContradiction fun hn => ?_
    have := (hl k hkb).2 ⟨hsome, hn⟩
    rw [hleft] at this
    cases this
  · obtain ⟨s, rfl, rfl, hs⟩ := key_inv hk
    have hkb := unb_bytes s.data.toList
    have hbe := bts_unb s.data.toList
    have hlk' := (hl _ hkb).1 (by rw [hbe]; exact hlk)
    have hyv : y = (.held v, []) := (Option.some.inj hv).symm
    subst hyv
    obtain ⟨v0, hv0⟩ := Option.isSome_iff_exists.1 hlk'.1
    obtain ⟨A, l, c, q1, q2⟩ := (hf _ hkb).2 v0 hv0
    rw [hbe] at q1
    have hvv : v = .slice A l c := by
      have e1 := (hat .nil).symm.trans (q1 .nil)
      injection e1
    subst hvv
    rw [rn_run hrun]
    show Rt (rn Try.prog (Instr.entry (.pointer (some ⟨r, 0, none⟩))) w' fun v w'' => enV v fun a c => k w'' a c) Q
    rw [rn_run hen]
    refine h1 w' c' A l c s v0 hs q2 hc ⟨⟨n, D, _, hrg, hf, fun k hk2 => ?_⟩, fun q hq => ?_, ?_⟩ ((Gx.of_grown hg).wide fun k _ e => (Option.some.inj e).symm)
    · have hlit := keyLit s.data.toList (by rw [Array.length_toList]; exact hs)
      have hsame : (Lit.string (bts k)).sameKey (.string s.data.toList) = decide (k = unb s.data.toList) := by
        rw [Bool.eq_iff_iff, WideAt.sameKey_iff hlit, decide_eq_true_eq]
        constructor
        · intro e
          injection e with e
          exact bts_inj hk2 hkb (by rw [e, hbe])
        · intro e; rw [e, hbe]
      simp only [Bool.and_eq_true, hl k hk2, hsame, Bool.not_eq_true', decide_eq_false_iff_not, List.map_append, List.mem_append, List.map_cons, List.map_nil, List.mem_singleton, not_or]
      constructor
      · rintro ⟨⟨a1, a2⟩, a3⟩; exact ⟨a1, a2, a3⟩
      · rintro ⟨a1, a2, a3⟩; exact ⟨⟨a1, a2⟩, a3⟩
    · rcases List.mem_append.1 hq with hq | hq
      · exact hmem q hq
      · rw [List.mem_singleton] at hq
        subst hq
        exact ⟨hkb, hv0⟩
    · rw [List.map_append, List.nodup_append]
      refine ⟨hnd, by simp, fun a ha b hb => ?_⟩
      simp at hb
      subst hb
      exact fun e => hlk'.2 (e ▸ ha)
end
end Go.Proofs.Ytdcdgmiojlldaaa.Hi

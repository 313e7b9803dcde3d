/- packed by slim.py -/
import Derived.Lib.ConvBytes
import Derived.Test.YtdcdgmiojlldaaaDoorZP11
/- The disk in memory; names; the begin of a call. -/
namespace Go.Proofs.YtdcdgmiojlldaaaDoor.Wl
open Go Big Go.RowKit Go.IntWalk Var Low
set_option linter.unusedVariables false
set_option linter.unusedSimpArgs false
abbrev pt (b : Nat) : Value := .pointer (some ⟨b, 0, none⟩)
abbrev nl : ByteArray := ⟨#[108]⟩
section
variable {α : Type} {Q : α → Prop} {n m : Nat} {w w' w0 w1 : World} {A B C : Option Addr} {l c d base e mb p b : Nat} {k : IntKind} {x r out o zs s xs : List Int} {S S' T : Nat → Prop} {fp : Option Nat}
theorem Rt.cutSt (hs : Stb S (fun w => Bv k w A n c xs) w) {lo hi : Int} (h0 : 0 ≤ lo) (h1 : lo ≤ hi) (h2 : hi ≤ n) {f : Option Addr → Nat → Nat → Option α}
    (h : ∀ B, Stb S (fun w => Bv k w B (hi.toNat - lo.toNat) (c - lo.toNat) ((xs.take hi.toNat).drop lo.toNat)) w → Rt (f B (hi.toNat - lo.toNat) (c - lo.toNat)) Q) : Rt (cutS A c lo hi 1 f) Q := by
  have hc : 0 ≤ lo ∧ lo ≤ hi ∧ hi ≤ (c : Int) := ⟨h0, h1, by have := hs.out.cap; omega⟩
  rw [cutS, if_pos hc]
  refine h _ fun w' hg => ?_
  have key : Rt (cutS A c lo hi 1 fun B m d => some B) (fun B => Bv k w' B (hi.toNat - lo.toNat) (c - lo.toNat) ((xs.take hi.toNat).drop lo.toNat)) := Rt.cut (hs w' hg) h0 h1 h2 fun B hB => Rt.some' hB
  rw [cutS, if_pos hc] at key
  obtain ⟨_, e, hB⟩ := key
  injection e with e
  subst e
  exact hB
theorem bytes_kp (w : World) (s : ByteArray) : Kp w (Lib.bytesWorld w 5 s) :=
  Gx.kp (S := fun _ => False) ⟨rfl, rfl, rfl, by rw [Lib.bytesWorld_size]; omega, fun k hk _ => Lib.bytesWorld_at_old w 5 s k hk⟩ fun _ h => h.elim
theorem Rt.toB {g : Option Addr → Nat → Nat → World → Option α} (h : ∀ A c w', Sl .u8 w' A 1 [108] → Kp w w' → Rt (g A 1 c w') Q) : Rt (rn Tryd.prog (Go.convert 9 28 (.string nl)) w fun v w' => Big.tL v fun A l c => g A l c w') Q := by
  rw [rn_run (Lib.run_convert_string_bytes w 9 28 5 nl (show Tryd.prog.underlying 9 = some .string from k9) (by kernel_rfl) (by kernel_rfl))]
  refine h _ _ _ ⟨rfl, .inr ⟨_, rfl, fun i hi => ?_⟩⟩ (bytes_kp w nl)
  have : i = 0 := by omega
  subst this
  rw [Addr.add_lit, Nat.zero_add]
  exact Lib.bytesWorld_cell w 5 nl 0 (by decide)
theorem Right_spec (hn : 10 < n) : Rt (disk_Right n [.string nl] w) (RB True w) := by
  rw [disk_Right_eq]
  refine Rt.fin ?_
  refine Rt.cS (xs := [108]) (ys := []) (by decide) (by simp) (fun h => by cases h) fun _ => Rt.cDF (by decide) (Rt.toB fun A c w1 hs k1 => ?_)
  obtain ⟨n, rfl⟩ := Nat.exists_eq_add_of_le' (show 2 ≤ n by omega)
  refine Rt.jb ?_
  rw [disk_Right.l0_succ]
  refine Rt.cDT (by decide) (Rt.jb (Rt.ix hs (by decide) (by decide) ?_))
  refine Rt.cDT (by decide) (Rt.cDT (by decide) ?_)
  refine Rt.some' (.inl ⟨.inl rfl, ?_⟩)
  (repeat' (first|(with_reducible (first|apply Rt.fin|apply Rt.tL|apply Rt.tI|apply Rt.tB|apply Rt.tS|apply Rt.tP|apply Rt.tD|apply Rt.tM|apply Rt.tC|apply Rt.tN|apply Rt.tA|apply Rt.tG|apply Rt.tF|apply Rt.os|apply Rt.clS|apply Rt.jmN|apply Rt.jbN|apply Rt.jbE|apply Rt.ckR|exact Rt.some' rfl))|((with_reducible (first|apply Rt.ld0|apply Rt.ld1|apply Rt.ld2|apply Rt.ld3|apply Rt.ld4|apply Rt.ld5)); first|assumption|exact Lc.kp (by assumption) (by assumption))|((with_reducible apply Rt.ol); first|assumption|exact cell_kp (by assumption) (by assumption))|fail))
  rw [disk_Right.l0_succ]
  refine Rt.cDF (by decide) ?_
  refine Rt.some' (.inl ⟨.inr rfl, ?_⟩)
  (repeat' (first|(with_reducible (first|apply Rt.fin|apply Rt.tL|apply Rt.tI|apply Rt.tB|apply Rt.tS|apply Rt.tP|apply Rt.tD|apply Rt.tM|apply Rt.tC|apply Rt.tN|apply Rt.tA|apply Rt.tG|apply Rt.tF|apply Rt.os|apply Rt.clS|apply Rt.jmN|apply Rt.jbN|apply Rt.jbE|apply Rt.ckR|exact Rt.some' rfl))|((with_reducible (first|apply Rt.ld0|apply Rt.ld1|apply Rt.ld2|apply Rt.ld3|apply Rt.ld4|apply Rt.ld5)); first|assumption|exact Lc.kp (by assumption) (by assumption))|((with_reducible apply Rt.ol); first|assumption|exact cell_kp (by assumption) (by assumption))|fail))
  exact Rt.endB (by simp) k1
structure DS where
  room : Int
  file : Option (List Int × Nat)
  fails : List Int
  failed : Int
def DS.len (s : DS) : Nat := match s.file with
  | none => 0
  | some f => f.1.length
def DS.begin (s : DS) : Int × DS := match s.fails with
  | [] => (0, s)
  | x :: r => if x = 0 then (0, { s with fails := r }) else (11, { s with fails := r, failed := IntKind.i64.wrap (s.failed + 1) })
theorem Bv.gx' {K : IntKind} (h : Bv K w A n c xs) (g : Gx T w w') (hT : ∀ j, On (.slice A n c) j → ¬ T j) : Bv K w' A n c xs :=
  ⟨h.sl.gx g fun a ha => hT a.block (by subst ha; rfl), h.nil, h.cap, h.max, h.rng⟩
theorem Rt.cutB (hs : Bv k w A n c xs) {lo hi : Int} (h0 : 0 ≤ lo) (h1 : lo ≤ hi) (h2 : hi ≤ n) {f : Option Addr → Nat → Nat → Option α}
    (h : ∀ B, Bv k w B (hi.toNat - lo.toNat) (c - lo.toNat) ((xs.take hi.toNat).drop lo.toNat) → (∀ j, On (.slice B (hi.toNat - lo.toNat) (c - lo.toNat)) j → On (.slice A n c) j) → Rt (f B (hi.toNat - lo.toNat) (c - lo.toNat)) Q) : Rt (cutS A c lo hi 1 f) Q := by
  have hc : 0 ≤ lo ∧ lo ≤ hi ∧ hi ≤ (c : Int) := ⟨h0, h1, by have := hs.cap; omega⟩
  rw [cutS, if_pos hc]
  have key : Rt (cutS A c lo hi 1 fun B m d => some B) (fun B => Bv k w B (hi.toNat - lo.toNat) (c - lo.toNat) ((xs.take hi.toNat).drop lo.toNat)) := Rt.cut hs h0 h1 h2 fun B hB => Rt.some' hB
  rw [cutS, if_pos hc] at key
  obtain ⟨_, e, hB⟩ := key
  injection e with e
  subst e
  refine h _ hB fun j hj => ?_
  cases A with
  | none => simp [On, Value.ownBlock] at hj
  | some a =>
    by_cases hcl : c = lo.toNat
    · rw [if_pos hcl] at hj; exact hj
    · rw [if_neg hcl] at hj
      have e : (a.add (lo.toNat * 1)).block = a.block := by (unfold Addr.add; split <;> rfl)
      have hj' : some (a.add (lo.toNat * 1)).block = some j := hj
      rw [e] at hj'; exact hj'
theorem Rt.tail {y : Int} (hs : Bv k w A (xs.length + 1) c (y :: xs)) {f : Option Addr → Nat → Nat → Option α}
    (h : ∀ B c', Bv k w B xs.length c' xs → (∀ j, On (.slice B xs.length c') j → On (.slice A (xs.length + 1) c) j) → Rt (f B xs.length c') Q) : Rt (cutS A c 1 (((xs.length + 1 : Nat) : Int)) 1 f) Q := by
  refine Rt.cutB hs (by omega) (by omega) (Int.le_refl _) fun B hB hO => ?_
  have e : ((xs.length + 1 : Nat) : Int).toNat - (1 : Int).toNat = xs.length := by simp
  have e2 : List.drop (1 : Int).toNat (List.take ((xs.length + 1 : Nat) : Int).toNat (y :: xs)) = xs := by simp
  rw [e] at hB hO ⊢
  rw [e2] at hB
  exact h _ _ hB hO
def Fl (w : World) (S N : Nat → Prop) : Option Nat → Option (List Int × Nat) → Prop
  | none, none => True
  | some p, some f => S p ∧ ¬ N p ∧ Bytes f.1 ∧ f.2 ≤ f.1.length ∧ f.1.length ≤ 16777216 ∧ ∃ B e, Lc w p [.slice B f.1.length e, .int .i64 (f.2 : Int)] ∧ Own .u8 5 w 0 (.slice B f.1.length e) f.1 ∧ ∀ j, On (.slice B f.1.length e) j → S j ∧ ¬ N j ∧ j ≠ p
  | _, _ => False
structure DxA (w : World) (S : Nat → Prop) (d mb : Nat) (fp : Option Nat) (s : DS) (A : Option Addr) (c : Nat) : Prop where
  lc : Lc w d [.int .i64 s.room, .map (some mb), .int .i64 (s.len : Int), .slice A s.fails.length c, .int .i64 s.failed]
  fa : Bv .i64 w A s.fails.length c s.fails
  fm : Fm w mb fp
  fl : Fl w S (fun j => j = d ∨ j = mb ∨ On (.slice A s.fails.length c) j) fp s.file
  sf : ∀ j, On (.slice A s.fails.length c) j → S j ∧ j ≠ d ∧ j ≠ mb
  sd : S d
  sm : S mb
  ne : mb ≠ d
  lt : ∀ j, S j → j < w.heap.size
  room : 0 ≤ s.room ∧ s.room < 2 ^ 63
def Dx (w : World) (S : Nat → Prop) (d mb : Nat) (fp : Option Nat) (s : DS) : Prop := ∃ A c, DxA w S d mb fp s A c
def Dk (w : World) (S : Nat → Prop) (d : Nat) (s : DS) : Prop := ∃ mb fp, Dx w S d mb fp s
theorem Fl.gx {N : Nat → Prop} {f : Option (List Int × Nat)} (h : Fl w S N fp f) (g : Gx T w w') (hT : ∀ j, T j → N j ∨ ¬ S j) : Fl w' S N fp f := by
  unfold Fl at h ⊢
  split at h
  · exact trivial
  · obtain ⟨h1, h2, h3, h4, h5, B, e, h7, h8, h9⟩ := h
    refine ⟨h1, h2, h3, h4, h5, B, e, h7.gx g fun ht => (hT _ ht).elim h2 fun h => h h1, h8.gx g fun j hj ht => ?_, h9⟩
    obtain ⟨a1, a2, a3⟩ := h9 j hj
    exact (hT _ ht).elim a2 fun h => h a1
  · exact h.elim
theorem Fl.less {N N' : Nat → Prop} {f : Option (List Int × Nat)} (h : Fl w S N fp f) (hN : ∀ j, N' j → N j) : Fl w S N' fp f := by
  unfold Fl at h ⊢
  split at h
  · exact trivial
  · obtain ⟨h1, h2, h3, h4, h5, B, e, h7, h8, h9⟩ := h
    exact ⟨h1, fun h => h2 (hN _ h), h3, h4, h5, B, e, h7, h8, fun j hj => ⟨(h9 j hj).1, fun h => (h9 j hj).2.1 (hN _ h), (h9 j hj).2.2⟩⟩
  · exact h.elim
theorem Dx.gx {s : DS} (h : Dx w S d mb fp s) (g : Gx T w w') (hT : ∀ j, T j → ¬ S j) : Dx w' S d mb fp s := by
  obtain ⟨A, c, h1, h2, h3, h4, h10, h5, h6, h7, h8, h9⟩ := h
  exact ⟨A, c, h1.gx g fun ht => hT _ ht h5, Bv.gx' h2 g fun j hj ht => hT _ ht (h10 j hj).1, h3.gx g fun ht => hT _ ht h6, h4.gx g fun j hj => .inr (hT j hj), h10, h5, h6, h7, fun j hj => Nat.lt_of_lt_of_le (h8 j hj) g.size, h9⟩
theorem Dx.kp {s : DS} (h : Dx w S d mb fp s) (k : Kp w w') : Dx w' S d mb fp s := h.gx (T := fun _ => False) k.gx fun _ h => h.elim
theorem Dk.gx {s : DS} (h : Dk w S d s) (g : Gx T w w') (hT : ∀ j, T j → ¬ S j) : Dk w' S d s := by
  obtain ⟨mb, fp, h⟩ := h
  exact ⟨mb, fp, h.gx g hT⟩
theorem Dk.kp {s : DS} (h : Dk w S d s) (k : Kp w w') : Dk w' S d s := h.gx (T := fun _ => False) k.gx fun _ h => h.elim
def RX0 (w : World) (S : Nat → Prop) (d mb : Nat) (fp : Option Nat) (vs : List Value) (s : DS) : List Value × World → Prop := fun r => ∃ w', r = (vs, w') ∧ Dx w' S d mb fp s ∧ Gx S w w'
theorem begin_l0 (hn : 10 < n) (hb : Lc w b [.string nl]) : Rt (disk_Disk_begin.l0 n (m + 2) (some ⟨b, 0, none⟩) 1 1 1 0 w) fun r => ∃ w', r = ⟨.exit 0, [], w'⟩ ∧ Kp w w' := by
  rw [disk_Disk_begin.l0_succ]
  refine Rt.cDT (by decide) (Rt.ix0 (by decide) ?_)
  (repeat' (first|(with_reducible (first|apply Rt.fin|apply Rt.tL|apply Rt.tI|apply Rt.tB|apply Rt.tS|apply Rt.tP|apply Rt.tD|apply Rt.tM|apply Rt.tC|apply Rt.tN|apply Rt.tA|apply Rt.tG|apply Rt.tF|apply Rt.os|apply Rt.clS|apply Rt.jmN|apply Rt.jbN|apply Rt.jbE|apply Rt.ckR|exact Rt.some' rfl))|((with_reducible (first|apply Rt.ld0|apply Rt.ld1|apply Rt.ld2|apply Rt.ld3|apply Rt.ld4|apply Rt.ld5)); first|assumption|exact Lc.kp (by assumption) (by assumption))|((with_reducible apply Rt.ol); first|assumption|exact cell_kp (by assumption) (by assumption))|fail))
  refine Rt.cBt (Right_spec hn) trivial fun w1 k1 => ?_
  (repeat' (first|(with_reducible (first|apply Rt.fin|apply Rt.tL|apply Rt.tI|apply Rt.tB|apply Rt.tS|apply Rt.tP|apply Rt.tD|apply Rt.tM|apply Rt.tC|apply Rt.tN|apply Rt.tA|apply Rt.tG|apply Rt.tF|apply Rt.os|apply Rt.clS|apply Rt.jmN|apply Rt.jbN|apply Rt.jbE|apply Rt.ckR|exact Rt.some' rfl))|((with_reducible (first|apply Rt.ld0|apply Rt.ld1|apply Rt.ld2|apply Rt.ld3|apply Rt.ld4|apply Rt.ld5)); first|assumption|exact Lc.kp (by assumption) (by assumption))|((with_reducible apply Rt.ol); first|assumption|exact cell_kp (by assumption) (by assumption))|fail))
  refine Rt.cF ?_ ?_; rfl
  rw [disk_Disk_begin.l0_succ]
  refine Rt.cDF (by decide) ?_
  exact ⟨_, rfl, w1, rfl, k1⟩
theorem begin_spec {s : DS} (h : Dx w S d mb fp s) (hb : Lc w b [.string nl]) (hS : ¬ S b) (hn : 10 < n) : Rt (disk_Disk_begin n [pt d, .slice (some ⟨b, 0, none⟩) 1 1] w) (RX0 w S d mb fp [.int .i64 s.begin.1] s.begin.2) := by
  obtain ⟨A, c, hd⟩ := h
  have hl := hd.lc
  obtain ⟨m, hm⟩ := Nat.exists_eq_add_of_le' (show 2 ≤ n by omega)
  obtain ⟨room, file, fails, failed⟩ := s
  have hnb : b ≠ d := fun e => hS (e ▸ hd.sd)
  rw [disk_Disk_begin_eq]
  refine Rt.fin (Rt.jmX ?_)
  cases fails with
  | nil =>
    (repeat' (first|(with_reducible (first|apply Rt.fin|apply Rt.tL|apply Rt.tI|apply Rt.tB|apply Rt.tS|apply Rt.tP|apply Rt.tD|apply Rt.tM|apply Rt.tC|apply Rt.tN|apply Rt.tA|apply Rt.tG|apply Rt.tF|apply Rt.os|apply Rt.clS|apply Rt.jmN|apply Rt.jbN|apply Rt.jbE|apply Rt.ckR|exact Rt.some' rfl))|((with_reducible (first|apply Rt.ld0|apply Rt.ld1|apply Rt.ld2|apply Rt.ld3|apply Rt.ld4|apply Rt.ld5)); first|assumption|exact Lc.kp (by assumption) (by assumption))|((with_reducible apply Rt.ol); first|assumption|exact cell_kp (by assumption) (by assumption))|fail))
    refine Rt.cDF (by simp) ?_
    refine Rt.some' (.inl ⟨rfl, ?_⟩)
    (repeat' (first|(with_reducible (first|apply Rt.fin|apply Rt.tL|apply Rt.tI|apply Rt.tB|apply Rt.tS|apply Rt.tP|apply Rt.tD|apply Rt.tM|apply Rt.tC|apply Rt.tN|apply Rt.tA|apply Rt.tG|apply Rt.tF|apply Rt.os|apply Rt.clS|apply Rt.jmN|apply Rt.jbN|apply Rt.jbE|apply Rt.ckR|exact Rt.some' rfl))|((with_reducible (first|apply Rt.ld0|apply Rt.ld1|apply Rt.ld2|apply Rt.ld3|apply Rt.ld4|apply Rt.ld5)); first|assumption|exact Lc.kp (by assumption) (by assumption))|((with_reducible apply Rt.ol); first|assumption|exact cell_kp (by assumption) (by assumption))|fail))
    refine Rt.jb ?_
    have hm' := begin_l0 (n := n) (m := m) hn hb
    rw [← hm] at hm'
    refine Rt.mono hm' ?_
    rintro _ ⟨w1, rfl, k1⟩
    refine .inl ⟨.inr rfl, ?_⟩
    (repeat' (first|(with_reducible (first|apply Rt.fin|apply Rt.tL|apply Rt.tI|apply Rt.tB|apply Rt.tS|apply Rt.tP|apply Rt.tD|apply Rt.tM|apply Rt.tC|apply Rt.tN|apply Rt.tA|apply Rt.tG|apply Rt.tF|apply Rt.os|apply Rt.clS|apply Rt.jmN|apply Rt.jbN|apply Rt.jbE|apply Rt.ckR|exact Rt.some' rfl))|((with_reducible (first|apply Rt.ld0|apply Rt.ld1|apply Rt.ld2|apply Rt.ld3|apply Rt.ld4|apply Rt.ld5)); first|assumption|exact Lc.kp (by assumption) (by assumption))|((with_reducible apply Rt.ol); first|assumption|exact cell_kp (by assumption) (by assumption))|fail))
    exact ⟨_, rfl, rfl, w1, rfl, Dx.kp ⟨A, c, hd⟩ k1, k1.gx⟩
  | cons x r =>
    have hf := hd.fa
    (repeat' (first|(with_reducible (first|apply Rt.fin|apply Rt.tL|apply Rt.tI|apply Rt.tB|apply Rt.tS|apply Rt.tP|apply Rt.tD|apply Rt.tM|apply Rt.tC|apply Rt.tN|apply Rt.tA|apply Rt.tG|apply Rt.tF|apply Rt.os|apply Rt.clS|apply Rt.jmN|apply Rt.jbN|apply Rt.jbE|apply Rt.ckR|exact Rt.some' rfl))|((with_reducible (first|apply Rt.ld0|apply Rt.ld1|apply Rt.ld2|apply Rt.ld3|apply Rt.ld4|apply Rt.ld5)); first|assumption|exact Lc.kp (by assumption) (by assumption))|((with_reducible apply Rt.ol); first|assumption|exact cell_kp (by assumption) (by assumption))|fail))
    refine Rt.cDT (by simp) ?_
    (repeat' (first|(with_reducible (first|apply Rt.fin|apply Rt.tL|apply Rt.tI|apply Rt.tB|apply Rt.tS|apply Rt.tP|apply Rt.tD|apply Rt.tM|apply Rt.tC|apply Rt.tN|apply Rt.tA|apply Rt.tG|apply Rt.tF|apply Rt.os|apply Rt.clS|apply Rt.jmN|apply Rt.jbN|apply Rt.jbE|apply Rt.ckR|exact Rt.some' rfl))|((with_reducible (first|apply Rt.ld0|apply Rt.ld1|apply Rt.ld2|apply Rt.ld3|apply Rt.ld4|apply Rt.ld5)); first|assumption|exact Lc.kp (by assumption) (by assumption))|((with_reducible apply Rt.ol); first|assumption|exact cell_kp (by assumption) (by assumption))|fail))
    refine Rt.ix hf.sl (by omega) (by simp) ?_
    (repeat' (first|(with_reducible (first|apply Rt.fin|apply Rt.tL|apply Rt.tI|apply Rt.tB|apply Rt.tS|apply Rt.tP|apply Rt.tD|apply Rt.tM|apply Rt.tC|apply Rt.tN|apply Rt.tA|apply Rt.tG|apply Rt.tF|apply Rt.os|apply Rt.clS|apply Rt.jmN|apply Rt.jbN|apply Rt.jbE|apply Rt.ckR|exact Rt.some' rfl))|((with_reducible (first|apply Rt.ld0|apply Rt.ld1|apply Rt.ld2|apply Rt.ld3|apply Rt.ld4|apply Rt.ld5)); first|assumption|exact Lc.kp (by assumption) (by assumption))|((with_reducible apply Rt.ol); first|assumption|exact cell_kp (by assumption) (by assumption))|fail))
    refine Rt.tail hf fun B c' hB hO => ?_
    (repeat' (first|(with_reducible (first|apply Rt.fin|apply Rt.tL|apply Rt.tI|apply Rt.tB|apply Rt.tS|apply Rt.tP|apply Rt.tD|apply Rt.tM|apply Rt.tC|apply Rt.tN|apply Rt.tA|apply Rt.tG|apply Rt.tF|apply Rt.os|apply Rt.clS|apply Rt.jmN|apply Rt.jbN|apply Rt.jbE|apply Rt.ckR|exact Rt.some' rfl))|((with_reducible (first|apply Rt.ld0|apply Rt.ld1|apply Rt.ld2|apply Rt.ld3|apply Rt.ld4|apply Rt.ld5)); first|assumption|exact Lc.kp (by assumption) (by assumption))|((with_reducible apply Rt.ol); first|assumption|exact cell_kp (by assumption) (by assumption))|fail))
    refine Rt.st3 hl fun w1 l1 g1 => ?_
    have hD : ∀ (fl : Int) (w' : World), Lc w' d [.int .i64 room, .map (some mb), .int .i64 (((⟨room, file, x :: r, failed⟩ : DS).len : Nat) : Int), .slice B r.length c', .int .i64 fl] → Gx (fun k => k = d) w w' → Dx w' S d mb fp ⟨room, file, r, fl⟩ := fun fl w' l2 g2 =>
      ⟨B, c', l2, Bv.gx' hB g2 fun j hj hd' => (hd.sf j (hO j hj)).2.1 hd', hd.fm.gx g2 hd.ne, (hd.fl.gx g2 fun j hj => .inl (.inl hj)).less fun j hj => hj.imp id fun h => h.imp id (hO j), fun j hj => hd.sf j (hO j hj), hd.sd, hd.sm, hd.ne, fun j hj => Nat.lt_of_lt_of_le (hd.lt j hj) g2.size, hd.room⟩
    have gS : ∀ {w' : World}, Gx (fun k => k = d) w w' → Gx S w w' := fun g => g.wide fun k _ e => e ▸ hd.sd
    refine Rt.cN (fun h0 => ?_) fun h0 => ?_
    · have h0 : x = 0 := h0
      refine Rt.some' (.inl ⟨rfl, ?_⟩)
      (repeat' (first|(with_reducible (first|apply Rt.fin|apply Rt.tL|apply Rt.tI|apply Rt.tB|apply Rt.tS|apply Rt.tP|apply Rt.tD|apply Rt.tM|apply Rt.tC|apply Rt.tN|apply Rt.tA|apply Rt.tG|apply Rt.tF|apply Rt.os|apply Rt.clS|apply Rt.jmN|apply Rt.jbN|apply Rt.jbE|apply Rt.ckR|exact Rt.some' rfl))|((with_reducible (first|apply Rt.ld0|apply Rt.ld1|apply Rt.ld2|apply Rt.ld3|apply Rt.ld4|apply Rt.ld5)); first|assumption|exact Lc.kp (by assumption) (by assumption))|((with_reducible apply Rt.ol); first|assumption|exact cell_kp (by assumption) (by assumption))|fail))
      refine Rt.jb ?_
      have hm' := begin_l0 (n := n) (m := m) hn (hb.gx g1 hnb)
      rw [← hm] at hm'
      refine Rt.mono hm' ?_
      rintro _ ⟨w2, rfl, k2⟩
      refine .inl ⟨.inr rfl, ?_⟩
      (repeat' (first|(with_reducible (first|apply Rt.fin|apply Rt.tL|apply Rt.tI|apply Rt.tB|apply Rt.tS|apply Rt.tP|apply Rt.tD|apply Rt.tM|apply Rt.tC|apply Rt.tN|apply Rt.tA|apply Rt.tG|apply Rt.tF|apply Rt.os|apply Rt.clS|apply Rt.jmN|apply Rt.jbN|apply Rt.jbE|apply Rt.ckR|exact Rt.some' rfl))|((with_reducible (first|apply Rt.ld0|apply Rt.ld1|apply Rt.ld2|apply Rt.ld3|apply Rt.ld4|apply Rt.ld5)); first|assumption|exact Lc.kp (by assumption) (by assumption))|((with_reducible apply Rt.ol); first|assumption|exact cell_kp (by assumption) (by assumption))|fail))
      refine ⟨_, rfl, rfl, w2, ?_, ?_, (gS g1).tr k2.gx⟩
      · unfold DS.begin; simp [h0]
      · unfold DS.begin; simp only [h0, if_true]
        exact (hD _ _ l1 g1).kp k2
    · have h0 : x ≠ 0 := h0
      (repeat' (first|(with_reducible (first|apply Rt.fin|apply Rt.tL|apply Rt.tI|apply Rt.tB|apply Rt.tS|apply Rt.tP|apply Rt.tD|apply Rt.tM|apply Rt.tC|apply Rt.tN|apply Rt.tA|apply Rt.tG|apply Rt.tF|apply Rt.os|apply Rt.clS|apply Rt.jmN|apply Rt.jbN|apply Rt.jbE|apply Rt.ckR|exact Rt.some' rfl))|((with_reducible (first|apply Rt.ld0|apply Rt.ld1|apply Rt.ld2|apply Rt.ld3|apply Rt.ld4|apply Rt.ld5)); first|assumption|exact Lc.kp (by assumption) (by assumption))|((with_reducible apply Rt.ol); first|assumption|exact cell_kp (by assumption) (by assumption))|fail))
      refine Rt.st4 l1 fun w2 l2 g2 => ?_
      refine Rt.some' (.inr ⟨by simp, rfl, w2, ?_, ?_, gS (g1.tr g2)⟩)
      · unfold DS.begin; simp [h0]
      · unfold DS.begin; simp only [h0, if_false]
        exact hD _ _ l2 (g1.tr g2)
def DS.open (s : DS) : Int × DS := if s.begin.1 ≠ 0 then s.begin else if s.file = none then (8, s.begin.2) else (0, s.begin.2)
theorem DS.begin_file (s : DS) : s.begin.2.file = s.file ∧ s.begin.2.room = s.room := by
  unfold DS.begin; split
  · exact ⟨rfl, rfl⟩
  · split <;> exact ⟨rfl, rfl⟩
theorem DS.begin_len (s : DS) : s.begin.2.len = s.len := by unfold DS.len; rw [s.begin_file.1]
theorem Fl.none_iff {N : Nat → Prop} {f : Option (List Int × Nat)} (h : Fl w S N fp f) : fp = none ↔ f = none := by
  unfold Fl at h
  split at h
  · simp
  · simp
  · exact h.elim
theorem open_spec {s : DS} (h : Dx w S d mb fp s) (hb : Lc w b [.string nl]) (hS : ¬ S b) (hn : 10 < n) : Rt (disk_Disk_open n [pt d, .slice (some ⟨b, 0, none⟩) 1 1] w) (RX0 w S d mb fp [ptr (if s.open.1 = 0 then fp else none), .int .i64 s.open.1] s.open.2) := by
  rw [disk_Disk_open_eq]
  refine Rt.fin ?_
  obtain ⟨r, hr, w1, rfl, h1, g1⟩ := begin_spec h hb hS hn
  refine Rt.cl hr ?_
  (repeat' (first|(with_reducible (first|apply Rt.fin|apply Rt.tL|apply Rt.tI|apply Rt.tB|apply Rt.tS|apply Rt.tP|apply Rt.tD|apply Rt.tM|apply Rt.tC|apply Rt.tN|apply Rt.tA|apply Rt.tG|apply Rt.tF|apply Rt.os|apply Rt.clS|apply Rt.jmN|apply Rt.jbN|apply Rt.jbE|apply Rt.ckR|exact Rt.some' rfl))|((with_reducible (first|apply Rt.ld0|apply Rt.ld1|apply Rt.ld2|apply Rt.ld3|apply Rt.ld4|apply Rt.ld5)); first|assumption|exact Lc.kp (by assumption) (by assumption))|((with_reducible apply Rt.ol); first|assumption|exact cell_kp (by assumption) (by assumption))|fail))
  refine Rt.cN (fun h0 => ?_) fun h0 => ?_
  · have h0 : s.begin.1 = 0 := h0
    obtain ⟨A, c, hd⟩ := id h1
    have hl := hd.lc.kp (Kp.rfl' w1).dr
    have hb1 := (hb.gx g1 hS).kp (Kp.rfl' w1).dr
    (repeat' (first|(with_reducible (first|apply Rt.fin|apply Rt.tL|apply Rt.tI|apply Rt.tB|apply Rt.tS|apply Rt.tP|apply Rt.tD|apply Rt.tM|apply Rt.tC|apply Rt.tN|apply Rt.tA|apply Rt.tG|apply Rt.tF|apply Rt.os|apply Rt.clS|apply Rt.jmN|apply Rt.jbN|apply Rt.jbE|apply Rt.ckR|exact Rt.some' rfl))|((with_reducible (first|apply Rt.ld0|apply Rt.ld1|apply Rt.ld2|apply Rt.ld3|apply Rt.ld4|apply Rt.ld5)); first|assumption|exact Lc.kp (by assumption) (by assumption))|((with_reducible apply Rt.ol); first|assumption|exact cell_kp (by assumption) (by assumption))|fail))
    refine Rt.ix0 (by decide) ?_
    (repeat' (first|(with_reducible (first|apply Rt.fin|apply Rt.tL|apply Rt.tI|apply Rt.tB|apply Rt.tS|apply Rt.tP|apply Rt.tD|apply Rt.tM|apply Rt.tC|apply Rt.tN|apply Rt.tA|apply Rt.tG|apply Rt.tF|apply Rt.os|apply Rt.clS|apply Rt.jmN|apply Rt.jbN|apply Rt.jbE|apply Rt.ckR|exact Rt.some' rfl))|((with_reducible (first|apply Rt.ld0|apply Rt.ld1|apply Rt.ld2|apply Rt.ld3|apply Rt.ld4|apply Rt.ld5)); first|assumption|exact Lc.kp (by assumption) (by assumption))|((with_reducible apply Rt.ol); first|assumption|exact cell_kp (by assumption) (by assumption))|fail))
    refine Rt.lookF (hd.fm.kp (Kp.rfl' w1).dr) ?_
    have hnn := hd.fl.none_iff
    rw [s.begin_file.1] at hnn
    have h2 : Dx w1.drew S d mb fp s.begin.2 := h1.kp (Kp.rfl' w1).dr
    have g2 : Gx S w w1.drew := g1.dr
    cases fp with
    | none =>
      have e : s.open = (8, s.begin.2) := by unfold DS.open; rw [if_neg (by simpa using h0), if_pos (hnn.1 rfl)]
      rw [e]
      show Rt (tP (.pointer none) _) _
      (repeat' (first|(with_reducible (first|apply Rt.fin|apply Rt.tL|apply Rt.tI|apply Rt.tB|apply Rt.tS|apply Rt.tP|apply Rt.tD|apply Rt.tM|apply Rt.tC|apply Rt.tN|apply Rt.tA|apply Rt.tG|apply Rt.tF|apply Rt.os|apply Rt.clS|apply Rt.jmN|apply Rt.jbN|apply Rt.jbE|apply Rt.ckR|exact Rt.some' rfl))|((with_reducible (first|apply Rt.ld0|apply Rt.ld1|apply Rt.ld2|apply Rt.ld3|apply Rt.ld4|apply Rt.ld5)); first|assumption|exact Lc.kp (by assumption) (by assumption))|((with_reducible apply Rt.ol); first|assumption|exact cell_kp (by assumption) (by assumption))|fail))
      refine Rt.cT ?_ ?_; rfl
      exact Rt.some' ⟨rfl, w1.drew, rfl, h2, g2⟩
    | some p =>
      have e : s.open = (0, s.begin.2) := by unfold DS.open; rw [if_neg (by simpa using h0), if_neg (fun e => by cases hnn.2 e)]
      rw [e]
      show Rt (tP (pt p) _) _
      (repeat' (first|(with_reducible (first|apply Rt.fin|apply Rt.tL|apply Rt.tI|apply Rt.tB|apply Rt.tS|apply Rt.tP|apply Rt.tD|apply Rt.tM|apply Rt.tC|apply Rt.tN|apply Rt.tA|apply Rt.tG|apply Rt.tF|apply Rt.os|apply Rt.clS|apply Rt.jmN|apply Rt.jbN|apply Rt.jbE|apply Rt.ckR|exact Rt.some' rfl))|((with_reducible (first|apply Rt.ld0|apply Rt.ld1|apply Rt.ld2|apply Rt.ld3|apply Rt.ld4|apply Rt.ld5)); first|assumption|exact Lc.kp (by assumption) (by assumption))|((with_reducible apply Rt.ol); first|assumption|exact cell_kp (by assumption) (by assumption))|fail))
      refine Rt.cF ?_ ?_; rfl
      exact Rt.some' ⟨rfl, w1.drew, rfl, h2, g2⟩
  · have h0 : s.begin.1 ≠ 0 := h0
    have e : s.open = s.begin := if_pos h0
    rw [e, if_neg h0]
    exact Rt.some' ⟨rfl, w1, rfl, h1, g1⟩
end
end Go.Proofs.YtdcdgmiojlldaaaDoor.Wl
/- The disk: New, Append, Size, Sync, Read. -/
namespace Go.Proofs.YtdcdgmiojlldaaaDoor.Wl
open Go Big Go.RowKit Go.IntWalk Var Low
set_option linter.unusedVariables false
set_option linter.unusedSimpArgs false
theorem slB : ∃ i, SlT Tryd.prog 28 5 .u8 i := slT (by kernel_rfl)
section
variable {α : Type} {Q : α → Prop} {n m : Nat} {w w' w0 w1 : World} {A B C : Option Addr} {l c d base e mb p b : Nat} {k : IntKind} {x r out o zs xs : List Int} {S S' T : Nat → Prop} {fp : Option Nat} {s : DS}
theorem CloneB_spec (hx : Bv .u8 w A l c xs) (hl : l ≤ 2 ^ 38) : Rt (slices_Clone_byte_byte n [.slice A l c] w) (RO .u8 5 w xs) := by
  obtain ⟨i, hT⟩ := slB
  have hxl := hx.len
  rw [slices_Clone_byte_byte_eq]
  refine Rt.fin (Rt.cB (fun h => ?_) fun h => ?_)
  · have : A = none := by simpa using h
    have h2 := hx.nil this
    have : xs = [] := List.length_eq_zero_iff.1 (by omega)
    subst this
    exact Rt.endO (Own.nil w w.heap.size) (Nat.le_refl _) (Kp.rfl' w)
  · refine Rt.alo (k := .u8) [] 0 rfl rfl (by decide) fun w1 o1 k1 => ?_
    refine Rt.app hT o1 (hx.kp k1).sl hx.nil (by simp; omega) k1.size fun B d w2 o2 hk _ _ => ?_
    (repeat' (first|(with_reducible (first|apply Rt.fin|apply Rt.tL|apply Rt.tI|apply Rt.tB|apply Rt.tS|apply Rt.tP|apply Rt.tD|apply Rt.tM|apply Rt.tC|apply Rt.tN|apply Rt.tA|apply Rt.tG|apply Rt.tF|apply Rt.os|apply Rt.clS|apply Rt.jmN|apply Rt.jbN|apply Rt.jbE|apply Rt.ckR|exact Rt.some' rfl))|((with_reducible (first|apply Rt.ld0|apply Rt.ld1|apply Rt.ld2|apply Rt.ld3|apply Rt.ld4|apply Rt.ld5)); first|assumption|exact Lc.kp (by assumption) (by assumption))|((with_reducible apply Rt.ol); first|assumption|exact cell_kp (by assumption) (by assumption))|fail))
    have hk2 := hk w k1 (Nat.le_refl _)
    rw [List.nil_append] at o2
    exact Rt.endO o2 (Nat.le_refl _) hk2
theorem CloneI_spec (hx : Bv .i64 w A l c xs) (hl : l ≤ 2 ^ 38) : Rt (slices_Clone_int_int n [.slice A l c] w) (RO .i64 3 w xs) := by
  obtain ⟨i, hT⟩ := Fr.slI
  have hxl := hx.len
  rw [slices_Clone_int_int_eq]
  refine Rt.fin (Rt.cB (fun h => ?_) fun h => ?_)
  · have : A = none := by simpa using h
    have h2 := hx.nil this
    have : xs = [] := List.length_eq_zero_iff.1 (by omega)
    subst this
    exact Rt.endO (Own.nil w w.heap.size) (Nat.le_refl _) (Kp.rfl' w)
  · refine Rt.alo (k := .i64) [] 0 rfl rfl (by decide) fun w1 o1 k1 => ?_
    refine Rt.app hT o1 (hx.kp k1).sl hx.nil (by simp; omega) k1.size fun B d w2 o2 hk _ _ => ?_
    (repeat' (first|(with_reducible (first|apply Rt.fin|apply Rt.tL|apply Rt.tI|apply Rt.tB|apply Rt.tS|apply Rt.tP|apply Rt.tD|apply Rt.tM|apply Rt.tC|apply Rt.tN|apply Rt.tA|apply Rt.tG|apply Rt.tF|apply Rt.os|apply Rt.clS|apply Rt.jmN|apply Rt.jbN|apply Rt.jbE|apply Rt.ckR|exact Rt.some' rfl))|((with_reducible (first|apply Rt.ld0|apply Rt.ld1|apply Rt.ld2|apply Rt.ld3|apply Rt.ld4|apply Rt.ld5)); first|assumption|exact Lc.kp (by assumption) (by assumption))|((with_reducible apply Rt.ol); first|assumption|exact cell_kp (by assumption) (by assumption))|fail))
    have hk2 := hk w k1 (Nat.le_refl _)
    rw [List.nil_append] at o2
    exact Rt.endO o2 (Nat.le_refl _) hk2
def RK (S : Nat → Prop) (w : World) (d : Nat) (vs : List Value) (s : DS) : List Value × World → Prop := RF S w vs fun S' w' => Dk w' S' d s
theorem New_spec {room : Int} (hr : room < 2 ^ 63) : Rt (disk_New n [.int .i64 room] w) fun r => ∃ d w' S, r = ([pt d], w') ∧ Dk w' S d ⟨if 0 < room then room else 0, none, [], 0⟩ ∧ Kp w w' ∧ ∀ j, S j → w.heap.size ≤ j := by
  rw [disk_New_eq]
  refine Rt.fin ?_
  have hm := Fm.new w
  have k0 : Kp w (w.alloc (.map #[] 0)) := (Kp.rfl' w).al _
  generalize hw1 : w.alloc (.map #[] 0) = w1 at *
  have hsz : w1.heap.size = w.heap.size + 1 := by rw [← hw1]; simp
  refine Rt.al fun w2 l2 k2 s2 => ?_
  refine Rt.some' ⟨rfl, _, w2, fun j => j = w1.heap.size ∨ j = w.heap.size, rfl, ⟨w.heap.size, none, none, 0, l2, ⟨Sl.nil .., fun _ => ⟨rfl, rfl⟩, Nat.le_refl _, Nat.zero_le _, by simp⟩, hm.kp k2, trivial, fun j hj => ?_, .inl rfl, .inr rfl, ?_, fun j hj => ?_, ?_⟩, k0.tr k2, fun j hj => ?_⟩
  · cases hj
  · omega
  · rcases hj with h | h <;> omega
  · dsimp only; split <;> omega
  · rcases hj with h | h <;> omega
theorem DS.open_len (s : DS) : s.open.2.len = s.len ∧ s.open.2.file = s.file := by
  unfold DS.open
  split
  · exact ⟨s.begin_len, s.begin_file.1⟩
  · split <;> exact ⟨s.begin_len, s.begin_file.1⟩
theorem DS.open_ok (h : s.open.1 = 0) : ∃ f, s.file = some f := by
  unfold DS.open at h
  split at h
  · contradiction
  · split at h
    · cases h
    · rename_i h2; exact Option.ne_none_iff_exists'.1 h2
theorem Fl.some' {N : Nat → Prop} {f : List Int × Nat} (h : Fl w S N fp (some f)) : ∃ p, fp = some p ∧ S p ∧ ¬ N p ∧ Bytes f.1 ∧ f.2 ≤ f.1.length ∧ f.1.length ≤ 16777216 ∧ ∃ B e, Lc w p [.slice B f.1.length e, .int .i64 (f.2 : Int)] ∧ Own .u8 5 w 0 (.slice B f.1.length e) f.1 ∧ ∀ j, On (.slice B f.1.length e) j → S j ∧ ¬ N j ∧ j ≠ p := by
  unfold Fl at h
  split at h
  · rename_i e; cases e
  · rename_i p f' e
    injection e with e
    subst e
    exact ⟨p, rfl, h⟩
  · exact h.elim
theorem Size_spec (h : Dk w S d s) (hn : 10 < n) : Rt (disk_Disk_Size n [pt d, .string nl] w) fun r => ∃ w', r = ([.int .i64 (if s.open.1 = 0 then (s.len : Int) else 0), .int .i64 s.open.1], w') ∧ Dk w' S d s.open.2 ∧ Gx S w w' := by
  obtain ⟨mb, fp, h⟩ := h
  rw [disk_Disk_Size_eq]
  refine Rt.fin (Rt.al fun w1 l1 k1 s1 => ?_)
  have h0 := h.kp k1
  have hS : ¬ S w.heap.size := fun hj => by obtain ⟨A, c, hd⟩ := h; have := hd.lt _ hj; omega
  obtain ⟨r, hr, w2, rfl, h2, g2⟩ := open_spec h0 l1 hS hn
  refine Rt.cl hr ?_
  have gg : Gx S w w2 := k1.gx.tr g2
  by_cases ho : s.open.1 = 0
  · rw [if_pos ho, if_pos ho, ho]
    obtain ⟨f, hf⟩ := s.open_ok ho
    obtain ⟨A, c, hd⟩ := id h2
    have hfl := hd.fl
    rw [s.open_len.2, hf] at hfl
    obtain ⟨p, rfl, _, _, _, _, _, B, e, hp, _⟩ := hfl.some'
    show Rt (tC [pt p, .int .i64 0] _) _
    (repeat' (first|(with_reducible (first|apply Rt.fin|apply Rt.tL|apply Rt.tI|apply Rt.tB|apply Rt.tS|apply Rt.tP|apply Rt.tD|apply Rt.tM|apply Rt.tC|apply Rt.tN|apply Rt.tA|apply Rt.tG|apply Rt.tF|apply Rt.os|apply Rt.clS|apply Rt.jmN|apply Rt.jbN|apply Rt.jbE|apply Rt.ckR|exact Rt.some' rfl))|((with_reducible (first|apply Rt.ld0|apply Rt.ld1|apply Rt.ld2|apply Rt.ld3|apply Rt.ld4|apply Rt.ld5)); first|assumption|exact Lc.kp (by assumption) (by assumption))|((with_reducible apply Rt.ol); first|assumption|exact cell_kp (by assumption) (by assumption))|fail))
    refine Rt.cN (fun _ => ?_) fun e => absurd rfl e
    (repeat' (first|(with_reducible (first|apply Rt.fin|apply Rt.tL|apply Rt.tI|apply Rt.tB|apply Rt.tS|apply Rt.tP|apply Rt.tD|apply Rt.tM|apply Rt.tC|apply Rt.tN|apply Rt.tA|apply Rt.tG|apply Rt.tF|apply Rt.os|apply Rt.clS|apply Rt.jmN|apply Rt.jbN|apply Rt.jbE|apply Rt.ckR|exact Rt.some' rfl))|((with_reducible (first|apply Rt.ld0|apply Rt.ld1|apply Rt.ld2|apply Rt.ld3|apply Rt.ld4|apply Rt.ld5)); first|assumption|exact Lc.kp (by assumption) (by assumption))|((with_reducible apply Rt.ol); first|assumption|exact cell_kp (by assumption) (by assumption))|fail))
    refine Rt.some' ⟨rfl, w2, ?_, ⟨mb, _, h2⟩, gg⟩
    rw [show s.len = f.1.length by unfold DS.len; rw [hf]]
  · rw [if_neg ho, if_neg ho]
    show Rt (tC [.pointer none, .int .i64 s.open.1] _) _
    (repeat' (first|(with_reducible (first|apply Rt.fin|apply Rt.tL|apply Rt.tI|apply Rt.tB|apply Rt.tS|apply Rt.tP|apply Rt.tD|apply Rt.tM|apply Rt.tC|apply Rt.tN|apply Rt.tA|apply Rt.tG|apply Rt.tF|apply Rt.os|apply Rt.clS|apply Rt.jmN|apply Rt.jbN|apply Rt.jbE|apply Rt.ckR|exact Rt.some' rfl))|((with_reducible (first|apply Rt.ld0|apply Rt.ld1|apply Rt.ld2|apply Rt.ld3|apply Rt.ld4|apply Rt.ld5)); first|assumption|exact Lc.kp (by assumption) (by assumption))|((with_reducible apply Rt.ol); first|assumption|exact cell_kp (by assumption) (by assumption))|fail))
    refine Rt.cN (fun e => absurd e ho) fun _ => ?_
    exact Rt.some' ⟨rfl, w2, rfl, ⟨mb, _, h2⟩, gg⟩
theorem DxA.turn {s' : DS} {fp' : Option Nat} (hd : DxA w S d mb fp s A c) (g : Gx T w w') (hT : ∀ j, T j → ¬ On (.slice A s.fails.length c) j) (hS : ∀ j, S j → S' j) (hlt : ∀ j, S' j → j < w'.heap.size)
    (lc : Lc w' d [.int .i64 s'.room, .map (some mb), .int .i64 (s'.len : Int), .slice A s'.fails.length c, .int .i64 s'.failed]) (hf : s'.fails = s.fails) (hr : s'.room = s.room) (fl : Fl w' S' (fun j => j = d ∨ j = mb ∨ On (.slice A s.fails.length c) j) fp' s'.file) (fm : Fm w' mb fp') : DxA w' S' d mb fp' s' A c := by
  obtain ⟨room, file, fails, failed⟩ := s
  obtain ⟨room', file', fails', failed'⟩ := s'
  dsimp only at hf hr
  subst hf hr
  exact ⟨lc, Bv.gx' hd.fa g fun j hj ht => hT j ht hj, fm, fl, fun j hj => ⟨hS _ (hd.sf j hj).1, (hd.sf j hj).2⟩, hS _ hd.sd, hS _ hd.sm, hd.ne, hlt, hd.room⟩
def DS.sync (s : DS) : Int × DS := (s.open.1, if s.open.1 = 0 then { s.open.2 with file := s.open.2.file.map fun f => (f.1, f.1.length) } else s.open.2)
theorem Sync_spec (h : Dk w S d s) (hn : 10 < n) : Rt (disk_Disk_Sync n [pt d, .string nl] w) fun r => ∃ w', r = ([.int .i64 s.sync.1], w') ∧ Dk w' S d s.sync.2 ∧ Gx S w w' := by
  obtain ⟨mb, fp, h⟩ := h
  rw [disk_Disk_Sync_eq]
  refine Rt.fin (Rt.al fun w1 l1 k1 s1 => ?_)
  have h0 := h.kp k1
  have hS : ¬ S w.heap.size := fun hj => by obtain ⟨A, c, hd⟩ := h; have := hd.lt _ hj; omega
  obtain ⟨r, hr, w2, rfl, h2, g2⟩ := open_spec h0 l1 hS hn
  refine Rt.cl hr ?_
  have gg : Gx S w w2 := k1.gx.tr g2
  unfold DS.sync
  by_cases ho : s.open.1 = 0
  · rw [if_pos ho, if_pos ho, ho]
    obtain ⟨f, hf⟩ := s.open_ok ho
    obtain ⟨A, c, hd⟩ := id h2
    have hfl := hd.fl
    rw [s.open_len.2, hf] at hfl
    obtain ⟨p, rfl, i1, i2, i3, i4, i5, B, e, hp, i6, i7⟩ := hfl.some'
    show Rt (tC [pt p, .int .i64 0] _) _
    (repeat' (first|(with_reducible (first|apply Rt.fin|apply Rt.tL|apply Rt.tI|apply Rt.tB|apply Rt.tS|apply Rt.tP|apply Rt.tD|apply Rt.tM|apply Rt.tC|apply Rt.tN|apply Rt.tA|apply Rt.tG|apply Rt.tF|apply Rt.os|apply Rt.clS|apply Rt.jmN|apply Rt.jbN|apply Rt.jbE|apply Rt.ckR|exact Rt.some' rfl))|((with_reducible (first|apply Rt.ld0|apply Rt.ld1|apply Rt.ld2|apply Rt.ld3|apply Rt.ld4|apply Rt.ld5)); first|assumption|exact Lc.kp (by assumption) (by assumption))|((with_reducible apply Rt.ol); first|assumption|exact cell_kp (by assumption) (by assumption))|fail))
    refine Rt.jm (Rt.cQ (fun _ => ?_) fun e => absurd rfl e)
    (repeat' (first|(with_reducible (first|apply Rt.fin|apply Rt.tL|apply Rt.tI|apply Rt.tB|apply Rt.tS|apply Rt.tP|apply Rt.tD|apply Rt.tM|apply Rt.tC|apply Rt.tN|apply Rt.tA|apply Rt.tG|apply Rt.tF|apply Rt.os|apply Rt.clS|apply Rt.jmN|apply Rt.jbN|apply Rt.jbE|apply Rt.ckR|exact Rt.some' rfl))|((with_reducible (first|apply Rt.ld0|apply Rt.ld1|apply Rt.ld2|apply Rt.ld3|apply Rt.ld4|apply Rt.ld5)); first|assumption|exact Lc.kp (by assumption) (by assumption))|((with_reducible apply Rt.ol); first|assumption|exact cell_kp (by assumption) (by assumption))|fail))
    refine Rt.st1 hp fun w3 l3 g3 => Rt.some' ⟨rfl, ?_⟩
    (repeat' (first|(with_reducible (first|apply Rt.fin|apply Rt.tL|apply Rt.tI|apply Rt.tB|apply Rt.tS|apply Rt.tP|apply Rt.tD|apply Rt.tM|apply Rt.tC|apply Rt.tN|apply Rt.tA|apply Rt.tG|apply Rt.tF|apply Rt.os|apply Rt.clS|apply Rt.jmN|apply Rt.jbN|apply Rt.jbE|apply Rt.ckR|exact Rt.some' rfl))|((with_reducible (first|apply Rt.ld0|apply Rt.ld1|apply Rt.ld2|apply Rt.ld3|apply Rt.ld4|apply Rt.ld5)); first|assumption|exact Lc.kp (by assumption) (by assumption))|((with_reducible apply Rt.ol); first|assumption|exact cell_kp (by assumption) (by assumption))|fail))
    refine Rt.some' ⟨rfl, w3, rfl, ⟨mb, some p, A, c, ?_⟩, gg.tr (g3.wide fun k _ e => e ▸ i1)⟩
    have hlen : s.open.2.file = some f := by rw [s.open_len.2, hf]
    refine DxA.turn hd g3 (fun j hj hO => i2 (by subst hj; exact .inr (.inr hO))) (fun _ h => h) (fun j hj => Nat.lt_of_lt_of_le (hd.lt j hj) g3.size) ?_ rfl rfl ?_ (hd.fm.gx g3 fun e => i2 (by rw [← e]; exact .inr (.inl rfl)))
    · have := hd.lc.gx g3 (fun e => i2 (by rw [← e]; exact .inl rfl))
      rw [show s.open.2.len = f.1.length by unfold DS.len; rw [hlen]] at this
      rw [hlen]
      exact this
    · rw [hlen]
      exact ⟨i1, i2, i3, Nat.le_refl _, i5, B, e, l3, i6.gx g3 fun j hj ht => (i7 j hj).2.2 ht, i7⟩
  · rw [if_neg ho, if_neg ho]
    show Rt (tC [.pointer none, .int .i64 s.open.1] _) _
    (repeat' (first|(with_reducible (first|apply Rt.fin|apply Rt.tL|apply Rt.tI|apply Rt.tB|apply Rt.tS|apply Rt.tP|apply Rt.tD|apply Rt.tM|apply Rt.tC|apply Rt.tN|apply Rt.tA|apply Rt.tG|apply Rt.tF|apply Rt.os|apply Rt.clS|apply Rt.jmN|apply Rt.jbN|apply Rt.jbE|apply Rt.ckR|exact Rt.some' rfl))|((with_reducible (first|apply Rt.ld0|apply Rt.ld1|apply Rt.ld2|apply Rt.ld3|apply Rt.ld4|apply Rt.ld5)); first|assumption|exact Lc.kp (by assumption) (by assumption))|((with_reducible apply Rt.ol); first|assumption|exact cell_kp (by assumption) (by assumption))|fail))
    refine Rt.jm (Rt.cQ (fun e => absurd e ho) fun _ => Rt.some' ⟨rfl, ?_⟩)
    (repeat' (first|(with_reducible (first|apply Rt.fin|apply Rt.tL|apply Rt.tI|apply Rt.tB|apply Rt.tS|apply Rt.tP|apply Rt.tD|apply Rt.tM|apply Rt.tC|apply Rt.tN|apply Rt.tA|apply Rt.tG|apply Rt.tF|apply Rt.os|apply Rt.clS|apply Rt.jmN|apply Rt.jbN|apply Rt.jbE|apply Rt.ckR|exact Rt.some' rfl))|((with_reducible (first|apply Rt.ld0|apply Rt.ld1|apply Rt.ld2|apply Rt.ld3|apply Rt.ld4|apply Rt.ld5)); first|assumption|exact Lc.kp (by assumption) (by assumption))|((with_reducible apply Rt.ol); first|assumption|exact cell_kp (by assumption) (by assumption))|fail))
    exact Rt.some' ⟨rfl, w2, rfl, ⟨mb, _, h2⟩, gg⟩
end
end Go.Proofs.YtdcdgmiojlldaaaDoor.Wl
/- The disk: Append, Read. -/
namespace Go.Proofs.YtdcdgmiojlldaaaDoor.Wl
open Go Big Go.RowKit Go.IntWalk Var Low
set_option linter.unusedVariables false
set_option linter.unusedSimpArgs false
section
variable {α : Type} {Q : α → Prop} {n m : Nat} {w w' w0 w1 : World} {A B C : Option Addr} {l c c' d base e mb p b : Nat} {k : IntKind} {x r out o zs xs : List Int} {S S' T : Nat → Prop} {fp : Option Nat} {s : DS}
def DS.append (s : DS) (xs : List Int) : Int × DS :=
  if s.begin.1 ≠ 0 then s.begin else if (xs.length : Int) > 16777216 - s.len then (3, s.begin.2) else if (xs.length : Int) > s.room - s.len then (7, s.begin.2)
  else (0, { s.begin.2 with file := some (match s.file with | none => (xs, 0) | some f => (f.1 ++ xs, f.2)) })
theorem app_tail {f : List Int × Nat} (hd : DxA w S d mb (some p) s A c) (hf : s.file = some f) (hx : Bv .u8 w B l c' xs) (hle : f.1.length + l ≤ 16777216) :
    Rt (opt (some (⟨p, 0, none⟩ : Addr)) fun ad90 => opt (w.cell? ad90) fun v91 => tL v91 fun A92 l93 c94 => rn Tryd.prog (Builtin.append_ #[28, 28] 28 #[.slice A92 l93 c94, .slice B l c']) w fun v98 w99 => tL v98 fun A95 l96 c97 => opt (some (⟨p, 0, none⟩ : Addr)) fun ad100 => stC w99 ad100 (.slice A95 l96 c97) fun w101 => opt (some (⟨d, 0, none⟩ : Addr)) fun ad102 => opt (w101.cell? (Addr.add ad102 2)) fun v103 => tI .i64 v103 fun n104 => opt (some (⟨d, 0, none⟩ : Addr)) fun ad105 => stC w101 (Addr.add ad105 2) (.int .i64 (IntKind.i64.wrap (n104 + (l : Int)))) fun w106 => some (⟨.ret, [.int .i64 0], w106⟩ : Res))
      fun r => ∃ w' S', r = ⟨.ret, [.int .i64 0], w'⟩ ∧ Dx w' S' d mb (some p) { s with file := some (f.1 ++ xs, f.2) } ∧ Gx S w w' ∧ ∀ j, S' j → S j ∨ w.heap.size ≤ j := by
  obtain ⟨i, hT⟩ := slB
  have hfl := hd.fl
  rw [hf] at hfl
  obtain ⟨_, e, i1, i2, i3, i4, i5, B0, e0, hp, i6, i7⟩ := hfl.some'
  injection e with e
  subst e
  have hxl := hx.len
  have hlen : s.len = f.1.length := by unfold DS.len; rw [hf]
  (repeat' (first|(with_reducible (first|apply Rt.fin|apply Rt.tL|apply Rt.tI|apply Rt.tB|apply Rt.tS|apply Rt.tP|apply Rt.tD|apply Rt.tM|apply Rt.tC|apply Rt.tN|apply Rt.tA|apply Rt.tG|apply Rt.tF|apply Rt.os|apply Rt.clS|apply Rt.jmN|apply Rt.jbN|apply Rt.jbE|apply Rt.ckR|exact Rt.some' rfl))|((with_reducible (first|apply Rt.ld0|apply Rt.ld1|apply Rt.ld2|apply Rt.ld3|apply Rt.ld4|apply Rt.ld5)); first|assumption|exact Lc.kp (by assumption) (by assumption))|((with_reducible apply Rt.ol); first|assumption|exact cell_kp (by assumption) (by assumption))|fail))
  refine Rt.appO hT i6 hx.sl hx.nil (by omega) (Nat.zero_le _) fun A2 c2 w2 o2 f2 g2 => ?_
  have hOnS : ∀ j, On (.slice B0 f.1.length e0) j → S j := fun j hj => (i7 j hj).1
  have npp : ¬ On (.slice B0 f.1.length e0) p := fun h => (i7 p h).2.2 rfl
  have np2 : ¬ On (.slice A2 (f.1.length + l) c2) p := fun h => (f2 p h).elim npp fun h => by have := hp.lt; omega
  have nd : d ≠ p := fun h => i2 (.inl h.symm)
  have nd2 : ¬ On (.slice A2 (f.1.length + l) c2) d := fun h => (f2 d h).elim (fun h => (i7 d h).2.1 (.inl rfl)) fun h => by have := hd.lc.lt; omega
  have hl2 := hd.lc.gx g2 fun h => (i7 d h).2.1 (.inl rfl)
  (repeat' (first|(with_reducible (first|apply Rt.fin|apply Rt.tL|apply Rt.tI|apply Rt.tB|apply Rt.tS|apply Rt.tP|apply Rt.tD|apply Rt.tM|apply Rt.tC|apply Rt.tN|apply Rt.tA|apply Rt.tG|apply Rt.tF|apply Rt.os|apply Rt.clS|apply Rt.jmN|apply Rt.jbN|apply Rt.jbE|apply Rt.ckR|exact Rt.some' rfl))|((with_reducible (first|apply Rt.ld0|apply Rt.ld1|apply Rt.ld2|apply Rt.ld3|apply Rt.ld4|apply Rt.ld5)); first|assumption|exact Lc.kp (by assumption) (by assumption))|((with_reducible apply Rt.ol); first|assumption|exact cell_kp (by assumption) (by assumption))|fail))
  refine Rt.st0 (hp.gx g2 npp) fun w3 l3 g3 => ?_
  have hl3 := hl2.gx g3 nd
  (repeat' (first|(with_reducible (first|apply Rt.fin|apply Rt.tL|apply Rt.tI|apply Rt.tB|apply Rt.tS|apply Rt.tP|apply Rt.tD|apply Rt.tM|apply Rt.tC|apply Rt.tN|apply Rt.tA|apply Rt.tG|apply Rt.tF|apply Rt.os|apply Rt.clS|apply Rt.jmN|apply Rt.jbN|apply Rt.jbE|apply Rt.ckR|exact Rt.some' rfl))|((with_reducible (first|apply Rt.ld0|apply Rt.ld1|apply Rt.ld2|apply Rt.ld3|apply Rt.ld4|apply Rt.ld5)); first|assumption|exact Lc.kp (by assumption) (by assumption))|((with_reducible apply Rt.ol); first|assumption|exact cell_kp (by assumption) (by assumption))|fail))
  refine Rt.st2 hl3 fun w4 l4 g4 => ?_
  have gT : Gx (fun j => On (.slice B0 f.1.length e0) j ∨ j = p ∨ j = d) w w4 := ((g2.wide fun j _ h => .inl h).tr (g3.wide fun j _ h => .inr (.inl h))).tr (g4.wide fun j _ h => .inr (.inr h))
  have gS : Gx S w w4 := gT.wide fun j _ h => h.elim (hOnS j) fun h => h.elim (fun h => h ▸ i1) fun h => h ▸ hd.sd
  have o4 : Own .u8 5 w4 0 (.slice A2 (f.1.length + l) c2) (f.1 ++ xs) := (o2.gx g3 fun j hj h => np2 (h ▸ hj)).gx g4 fun j hj h => nd2 (h ▸ hj)
  have hal : (f.1 ++ xs).length = f.1.length + l := by rw [List.length_append, hxl]
  refine Rt.some' ⟨w4, fun j => S j ∨ On (.slice A2 (f.1.length + l) c2) j, rfl, ⟨A, c, ?_⟩, gS, fun j hj => hj.elim .inl fun h => (f2 j h).imp (hOnS j) id⟩
  refine DxA.turn hd gT ?_ (fun _ h => .inl h) ?_ ?_ rfl rfl ?_ (hd.fm.gx gT ?_)
  · rintro j (h | rfl | rfl) hO
    · exact (i7 j h).2.1 (.inr (.inr hO))
    · exact i2 (.inr (.inr hO))
    · exact (hd.sf j hO).2.1 rfl
  · rintro j (h | h)
    · exact Nat.lt_of_lt_of_le (hd.lt j h) gS.size
    · exact (o4.lt j h).2
  · have e1 : IntKind.i64.wrap ((s.len : Int) + (l : Int)) = (((⟨s.room, some (f.1 ++ xs, f.2), s.fails, s.failed⟩ : DS).len : Nat) : Int) := by
      unfold DS.len; rw [hf]; dsimp only; rw [hal, i64_in _ (by omega)]; omega
    rw [e1] at l4
    exact l4
  · refine ⟨.inl i1, i2, fun z hz => (List.mem_append.1 hz).elim (i3 z) (hx.rng z), by rw [hal]; omega, by rw [hal]; omega, A2, c2, ?_, ?_, ?_⟩
    · show Lc w4 p [.slice A2 (f.1 ++ xs).length c2, .int .i64 (f.2 : Int)]
      rw [hal]
      exact l3.gx g4 fun h => nd h.symm
    · show Own .u8 5 w4 0 (.slice A2 (f.1 ++ xs).length c2) (f.1 ++ xs)
      rw [hal]; exact o4
    · intro j hj
      dsimp only at hj
      rw [hal] at hj
      refine ⟨.inr hj, fun hN => ?_, fun h => np2 (h ▸ hj)⟩
      rcases f2 j hj with h | h
      · exact (i7 j h).2.1 hN
      · rcases hN with h' | h' | h'
        · have := hd.lc.lt; omega
        · have := hd.fm.lt; omega
        · have := hd.lt j (hd.sf j h').1; omega
  · rintro (h | h | h)
    · exact (i7 mb h).2.1 (.inr (.inl rfl))
    · exact i2 (h ▸ .inr (.inl rfl))
    · exact hd.ne h
theorem Append_spec (h : Dk w S d s) (hx : Stb (fun j => S j ∨ w.heap.size ≤ j) (fun w => Bv .u8 w B l c' xs) w) (hn : 10 < n) : Rt (disk_Disk_Append n [pt d, .string nl, .slice B l c'] w) (RK S w d [.int .i64 (s.append xs).1] (s.append xs).2) := by
  obtain ⟨mb, fp, h⟩ := h
  have hxl := hx.out.len
  have hst : ∀ {w' : World}, Gx S w w' → Bv .u8 w' B l c' xs := fun g => hx _ (g.wide fun _ _ h => .inl h)
  rw [disk_Disk_Append_eq]
  refine Rt.fin (Rt.al fun w1 l1 k1 s1 => ?_)
  have h0 := h.kp k1
  have hS : ¬ S w.heap.size := fun hj => by obtain ⟨A, c, hd⟩ := h; have := hd.lt _ hj; omega
  obtain ⟨r, hr, w2, rfl, h2, g2⟩ := begin_spec h0 l1 hS hn
  refine Rt.cl hr ?_
  have gg : Gx S w w2 := k1.gx.tr g2
  (repeat' (first|(with_reducible (first|apply Rt.fin|apply Rt.tL|apply Rt.tI|apply Rt.tB|apply Rt.tS|apply Rt.tP|apply Rt.tD|apply Rt.tM|apply Rt.tC|apply Rt.tN|apply Rt.tA|apply Rt.tG|apply Rt.tF|apply Rt.os|apply Rt.clS|apply Rt.jmN|apply Rt.jbN|apply Rt.jbE|apply Rt.ckR|exact Rt.some' rfl))|((with_reducible (first|apply Rt.ld0|apply Rt.ld1|apply Rt.ld2|apply Rt.ld3|apply Rt.ld4|apply Rt.ld5)); first|assumption|exact Lc.kp (by assumption) (by assumption))|((with_reducible apply Rt.ol); first|assumption|exact cell_kp (by assumption) (by assumption))|fail))
  refine Rt.cN (fun hb => ?_) fun hb => ?_
  · have hb : s.begin.1 = 0 := hb
    obtain ⟨A, c, hd⟩ := id h2
    have hl := hd.lc
    have hlen := s.begin_len
    have hroom := hd.room
    rw [s.begin_file.2] at hroom
    rw [hlen, s.begin_file.2] at hl
    (repeat' (first|(with_reducible (first|apply Rt.fin|apply Rt.tL|apply Rt.tI|apply Rt.tB|apply Rt.tS|apply Rt.tP|apply Rt.tD|apply Rt.tM|apply Rt.tC|apply Rt.tN|apply Rt.tA|apply Rt.tG|apply Rt.tF|apply Rt.os|apply Rt.clS|apply Rt.jmN|apply Rt.jbN|apply Rt.jbE|apply Rt.ckR|exact Rt.some' rfl))|((with_reducible (first|apply Rt.ld0|apply Rt.ld1|apply Rt.ld2|apply Rt.ld3|apply Rt.ld4|apply Rt.ld5)); first|assumption|exact Lc.kp (by assumption) (by assumption))|((with_reducible apply Rt.ol); first|assumption|exact cell_kp (by assumption) (by assumption))|fail))
    refine Rt.lookF hd.fm ?_
    have hfl := hd.fl
    rw [s.begin_file.1] at hfl
    cases hf : s.file with
    | none =>
      obtain rfl := hfl.none_iff.2 hf
      have hl0 : s.len = 0 := by unfold DS.len; rw [hf]
      show Rt (tP (.pointer none) _) _
      (repeat' (first|(with_reducible (first|apply Rt.fin|apply Rt.tL|apply Rt.tI|apply Rt.tB|apply Rt.tS|apply Rt.tP|apply Rt.tD|apply Rt.tM|apply Rt.tC|apply Rt.tN|apply Rt.tA|apply Rt.tG|apply Rt.tF|apply Rt.os|apply Rt.clS|apply Rt.jmN|apply Rt.jbN|apply Rt.jbE|apply Rt.ckR|exact Rt.some' rfl))|((with_reducible (first|apply Rt.ld0|apply Rt.ld1|apply Rt.ld2|apply Rt.ld3|apply Rt.ld4|apply Rt.ld5)); first|assumption|exact Lc.kp (by assumption) (by assumption))|((with_reducible apply Rt.ol); first|assumption|exact cell_kp (by assumption) (by assumption))|fail))
      refine Rt.jm (Rt.cF rfl ?_)
      refine Rt.some' ⟨rfl, ?_⟩
      (repeat' (first|(with_reducible (first|apply Rt.fin|apply Rt.tL|apply Rt.tI|apply Rt.tB|apply Rt.tS|apply Rt.tP|apply Rt.tD|apply Rt.tM|apply Rt.tC|apply Rt.tN|apply Rt.tA|apply Rt.tG|apply Rt.tF|apply Rt.os|apply Rt.clS|apply Rt.jmN|apply Rt.jbN|apply Rt.jbE|apply Rt.ckR|exact Rt.some' rfl))|((with_reducible (first|apply Rt.ld0|apply Rt.ld1|apply Rt.ld2|apply Rt.ld3|apply Rt.ld4|apply Rt.ld5)); first|assumption|exact Lc.kp (by assumption) (by assumption))|((with_reducible apply Rt.ol); first|assumption|exact cell_kp (by assumption) (by assumption))|fail))
      refine Rt.jb ?_
      have e0 : IntKind.i64.wrap (16777216 - 0) = 16777216 := by decide
      rw [e0]
      refine Rt.cD (fun hc => ?_) fun hc => ?_
      · have e : s.append xs = (3, s.begin.2) := by unfold DS.append; rw [if_neg (by simpa using hb), if_pos (by omega)]
        rw [e]
        exact Rt.some' (.inr ⟨rfl, rfl, w2, S, rfl, gg, fun _ h => .inl h, mb, none, h2⟩)
      refine Rt.cT rfl ?_
      (repeat' (first|(with_reducible (first|apply Rt.fin|apply Rt.tL|apply Rt.tI|apply Rt.tB|apply Rt.tS|apply Rt.tP|apply Rt.tD|apply Rt.tM|apply Rt.tC|apply Rt.tN|apply Rt.tA|apply Rt.tG|apply Rt.tF|apply Rt.os|apply Rt.clS|apply Rt.jmN|apply Rt.jbN|apply Rt.jbE|apply Rt.ckR|exact Rt.some' rfl))|((with_reducible (first|apply Rt.ld0|apply Rt.ld1|apply Rt.ld2|apply Rt.ld3|apply Rt.ld4|apply Rt.ld5)); first|assumption|exact Lc.kp (by assumption) (by assumption))|((with_reducible apply Rt.ol); first|assumption|exact cell_kp (by assumption) (by assumption))|fail))
      refine Rt.lenF hd.fm ?_
      (repeat' (first|(with_reducible (first|apply Rt.fin|apply Rt.tL|apply Rt.tI|apply Rt.tB|apply Rt.tS|apply Rt.tP|apply Rt.tD|apply Rt.tM|apply Rt.tC|apply Rt.tN|apply Rt.tA|apply Rt.tG|apply Rt.tF|apply Rt.os|apply Rt.clS|apply Rt.jmN|apply Rt.jbN|apply Rt.jbE|apply Rt.ckR|exact Rt.some' rfl))|((with_reducible (first|apply Rt.ld0|apply Rt.ld1|apply Rt.ld2|apply Rt.ld3|apply Rt.ld4|apply Rt.ld5)); first|assumption|exact Lc.kp (by assumption) (by assumption))|((with_reducible apply Rt.ol); first|assumption|exact cell_kp (by assumption) (by assumption))|fail))
      refine Rt.cDF (by decide) ?_
      have hld := hl.kp (Kp.rfl' w2).dr
      (repeat' (first|(with_reducible (first|apply Rt.fin|apply Rt.tL|apply Rt.tI|apply Rt.tB|apply Rt.tS|apply Rt.tP|apply Rt.tD|apply Rt.tM|apply Rt.tC|apply Rt.tN|apply Rt.tA|apply Rt.tG|apply Rt.tF|apply Rt.os|apply Rt.clS|apply Rt.jmN|apply Rt.jbN|apply Rt.jbE|apply Rt.ckR|exact Rt.some' rfl))|((with_reducible (first|apply Rt.ld0|apply Rt.ld1|apply Rt.ld2|apply Rt.ld3|apply Rt.ld4|apply Rt.ld5)); first|assumption|exact Lc.kp (by assumption) (by assumption))|((with_reducible apply Rt.ol); first|assumption|exact cell_kp (by assumption) (by assumption))|fail))
      have e1 : IntKind.i64.wrap (s.room - (s.len : Int)) = s.room - s.len := by rw [i64_in _ (by omega)]
      rw [e1]
      refine Rt.cD (fun hc2 => ?_) fun hc2 => ?_
      · have e : s.append xs = (7, s.begin.2) := by unfold DS.append; rw [if_neg (by simpa using hb), if_neg (by omega), if_pos (by omega)]
        rw [e]
        exact Rt.some' (.inr ⟨rfl, rfl, w2.drew, S, rfl, gg.dr, fun _ h => .inl h, mb, none, h2.kp (Kp.rfl' w2).dr⟩)
      refine Rt.some' (.inl ⟨.inl rfl, ?_⟩)
      (repeat' (first|(with_reducible (first|apply Rt.fin|apply Rt.tL|apply Rt.tI|apply Rt.tB|apply Rt.tS|apply Rt.tP|apply Rt.tD|apply Rt.tM|apply Rt.tC|apply Rt.tN|apply Rt.tA|apply Rt.tG|apply Rt.tF|apply Rt.os|apply Rt.clS|apply Rt.jmN|apply Rt.jbN|apply Rt.jbE|apply Rt.ckR|exact Rt.some' rfl))|((with_reducible (first|apply Rt.ld0|apply Rt.ld1|apply Rt.ld2|apply Rt.ld3|apply Rt.ld4|apply Rt.ld5)); first|assumption|exact Lc.kp (by assumption) (by assumption))|((with_reducible apply Rt.ol); first|assumption|exact cell_kp (by assumption) (by assumption))|fail))
      refine Rt.jm (Rt.cT rfl (Rt.al fun w3 l3 k3 s3 => ?_))
      have hl3 := hld.kp k3
      (repeat' (first|(with_reducible (first|apply Rt.fin|apply Rt.tL|apply Rt.tI|apply Rt.tB|apply Rt.tS|apply Rt.tP|apply Rt.tD|apply Rt.tM|apply Rt.tC|apply Rt.tN|apply Rt.tA|apply Rt.tG|apply Rt.tF|apply Rt.os|apply Rt.clS|apply Rt.jmN|apply Rt.jbN|apply Rt.jbE|apply Rt.ckR|exact Rt.some' rfl))|((with_reducible (first|apply Rt.ld0|apply Rt.ld1|apply Rt.ld2|apply Rt.ld3|apply Rt.ld4|apply Rt.ld5)); first|assumption|exact Lc.kp (by assumption) (by assumption))|((with_reducible apply Rt.ol); first|assumption|exact cell_kp (by assumption) (by assumption))|fail))
      refine Rt.putF ((hd.fm.kp (Kp.rfl' w2).dr).kp k3) fun w4 m4 g4 => ?_
      refine Rt.some' ⟨rfl, ?_⟩
      have kk : Kp w2 w3 := (Kp.rfl' w2).dr.tr k3
      have gT : Gx (fun j => j = mb) w2 w4 := kk.gx.tr g4
      have hsz : w2.drew.heap.size < w4.heap.size := Nat.lt_of_lt_of_le s3 g4.size
      have hsz2 : w2.drew.heap.size = w2.heap.size := rfl
      have hsd : ∀ j, S j → j < w2.heap.size := hd.lt
      have hd4 : DxA w4 (fun j => S j ∨ j = w2.drew.heap.size) d mb (some w2.drew.heap.size) { s.begin.2 with file := some ([], 0) } A c := by
        refine DxA.turn hd gT (fun j hj hO => (hd.sf j hO).2.2 hj) (fun _ h => .inl h) (fun j hj => ?_) ?_ rfl rfl ?_ m4
        · rcases hj with h | h
          · have := hsd j h; omega
          · omega
        · have := hl3.gx g4 fun h => hd.ne h.symm
          rw [hl0, ← s.begin_file.2] at this
          exact this
        · refine ⟨.inr rfl, fun hN => ?_, fun z hz => (by cases hz), Nat.le_refl _, by simp, none, 0, l3.gx g4 fun h => ?_, Own.nil _ _, fun j hj => by cases hj⟩
          · rcases hN with h | h | h
            · have := hsd d hd.sd; omega
            · have := hsd mb hd.sm; omega
            · have := hsd _ (hd.sf _ h).1; omega
          · have h' : w2.heap.size = mb := h
            have := hsd mb hd.sm; omega
      refine Rt.mono (app_tail hd4 rfl (hst (gg.tr (gT.wide fun j _ h => h ▸ hd.sm))) (by simp; omega)) ?_
      · rintro _ ⟨w5, S5, rfl, h5, g5, hS5⟩
        have e : s.append xs = (0, { s.begin.2 with file := some (xs, 0) }) := by unfold DS.append; rw [if_neg (by simpa using hb), if_neg (by omega), if_neg (by omega), hf]
        rw [e]
        refine ⟨rfl, w5, S5, rfl, (gg.tr (gT.wide fun j _ h => h ▸ hd.sm)).tr' g5 fun j hj h => ?_, fun j hj => ?_, mb, _, h5⟩
        · rcases h with h | h
          · exact h
          · have := gg.size; omega
        · have := gg.size
          have := gT.size
          rcases hS5 j hj with (h | h) | h
          · exact .inl h
          · have h : j = w2.heap.size := h
            exact .inr (by omega)
          · have h : w4.heap.size ≤ j := h
            exact .inr (by omega)
    | some f =>
      have hfl' := hfl
      rw [hf] at hfl'
      obtain ⟨p, rfl, i1, i2, i3, i4, i5, B0, e0, hp, i6, i7⟩ := hfl'.some'
      have hl0 : s.len = f.1.length := by unfold DS.len; rw [hf]
      show Rt (tP (pt p) _) _
      (repeat' (first|(with_reducible (first|apply Rt.fin|apply Rt.tL|apply Rt.tI|apply Rt.tB|apply Rt.tS|apply Rt.tP|apply Rt.tD|apply Rt.tM|apply Rt.tC|apply Rt.tN|apply Rt.tA|apply Rt.tG|apply Rt.tF|apply Rt.os|apply Rt.clS|apply Rt.jmN|apply Rt.jbN|apply Rt.jbE|apply Rt.ckR|exact Rt.some' rfl))|((with_reducible (first|apply Rt.ld0|apply Rt.ld1|apply Rt.ld2|apply Rt.ld3|apply Rt.ld4|apply Rt.ld5)); first|assumption|exact Lc.kp (by assumption) (by assumption))|((with_reducible apply Rt.ol); first|assumption|exact cell_kp (by assumption) (by assumption))|fail))
      refine Rt.jm (Rt.cT rfl ?_)
      (repeat' (first|(with_reducible (first|apply Rt.fin|apply Rt.tL|apply Rt.tI|apply Rt.tB|apply Rt.tS|apply Rt.tP|apply Rt.tD|apply Rt.tM|apply Rt.tC|apply Rt.tN|apply Rt.tA|apply Rt.tG|apply Rt.tF|apply Rt.os|apply Rt.clS|apply Rt.jmN|apply Rt.jbN|apply Rt.jbE|apply Rt.ckR|exact Rt.some' rfl))|((with_reducible (first|apply Rt.ld0|apply Rt.ld1|apply Rt.ld2|apply Rt.ld3|apply Rt.ld4|apply Rt.ld5)); first|assumption|exact Lc.kp (by assumption) (by assumption))|((with_reducible apply Rt.ol); first|assumption|exact cell_kp (by assumption) (by assumption))|fail))
      refine Rt.some' ⟨rfl, ?_⟩
      (repeat' (first|(with_reducible (first|apply Rt.fin|apply Rt.tL|apply Rt.tI|apply Rt.tB|apply Rt.tS|apply Rt.tP|apply Rt.tD|apply Rt.tM|apply Rt.tC|apply Rt.tN|apply Rt.tA|apply Rt.tG|apply Rt.tF|apply Rt.os|apply Rt.clS|apply Rt.jmN|apply Rt.jbN|apply Rt.jbE|apply Rt.ckR|exact Rt.some' rfl))|((with_reducible (first|apply Rt.ld0|apply Rt.ld1|apply Rt.ld2|apply Rt.ld3|apply Rt.ld4|apply Rt.ld5)); first|assumption|exact Lc.kp (by assumption) (by assumption))|((with_reducible apply Rt.ol); first|assumption|exact cell_kp (by assumption) (by assumption))|fail))
      refine Rt.jb ?_
      have e0 : IntKind.i64.wrap (16777216 - (f.1.length : Int)) = 16777216 - f.1.length := i64_in _ (by omega)
      rw [e0]
      refine Rt.cD (fun hc => ?_) fun hc => ?_
      · have e : s.append xs = (3, s.begin.2) := by unfold DS.append; rw [if_neg (by simpa using hb), if_pos (by omega)]
        rw [e]
        exact Rt.some' (.inr ⟨rfl, rfl, w2, S, rfl, gg, fun _ h => .inl h, mb, _, h2⟩)
      refine Rt.cF rfl ?_
      have hld := hl.kp (Kp.rfl' w2).dr
      (repeat' (first|(with_reducible (first|apply Rt.fin|apply Rt.tL|apply Rt.tI|apply Rt.tB|apply Rt.tS|apply Rt.tP|apply Rt.tD|apply Rt.tM|apply Rt.tC|apply Rt.tN|apply Rt.tA|apply Rt.tG|apply Rt.tF|apply Rt.os|apply Rt.clS|apply Rt.jmN|apply Rt.jbN|apply Rt.jbE|apply Rt.ckR|exact Rt.some' rfl))|((with_reducible (first|apply Rt.ld0|apply Rt.ld1|apply Rt.ld2|apply Rt.ld3|apply Rt.ld4|apply Rt.ld5)); first|assumption|exact Lc.kp (by assumption) (by assumption))|((with_reducible apply Rt.ol); first|assumption|exact cell_kp (by assumption) (by assumption))|fail))
      have e1 : IntKind.i64.wrap (s.room - (s.len : Int)) = s.room - s.len := by rw [i64_in _ (by omega)]
      rw [e1]
      refine Rt.cD (fun hc2 => ?_) fun hc2 => ?_
      · have e : s.append xs = (7, s.begin.2) := by unfold DS.append; rw [if_neg (by simpa using hb), if_neg (by omega), if_pos (by omega)]
        rw [e]
        exact Rt.some' (.inr ⟨rfl, rfl, w2.drew, S, rfl, gg.dr, fun _ h => .inl h, mb, _, h2.kp (Kp.rfl' w2).dr⟩)
      refine Rt.some' (.inl ⟨.inl rfl, ?_⟩)
      (repeat' (first|(with_reducible (first|apply Rt.fin|apply Rt.tL|apply Rt.tI|apply Rt.tB|apply Rt.tS|apply Rt.tP|apply Rt.tD|apply Rt.tM|apply Rt.tC|apply Rt.tN|apply Rt.tA|apply Rt.tG|apply Rt.tF|apply Rt.os|apply Rt.clS|apply Rt.jmN|apply Rt.jbN|apply Rt.jbE|apply Rt.ckR|exact Rt.some' rfl))|((with_reducible (first|apply Rt.ld0|apply Rt.ld1|apply Rt.ld2|apply Rt.ld3|apply Rt.ld4|apply Rt.ld5)); first|assumption|exact Lc.kp (by assumption) (by assumption))|((with_reducible apply Rt.ol); first|assumption|exact cell_kp (by assumption) (by assumption))|fail))
      refine Rt.jm (Rt.cF rfl (Rt.some' ⟨rfl, ?_⟩))
      obtain ⟨A9, c9, hd9⟩ := h2.kp (Kp.rfl' w2).dr
      refine Rt.mono (app_tail hd9 (s.begin_file.1.trans hf) (hst gg.dr) (by omega)) ?_
      rintro _ ⟨w5, S5, rfl, h5, g5, hS5⟩
      have e : s.append xs = (0, { s.begin.2 with file := some (f.1 ++ xs, f.2) }) := by unfold DS.append; rw [if_neg (by simpa using hb), if_neg (by omega), if_neg (by omega), hf]
      rw [e]
      refine ⟨rfl, w5, S5, rfl, gg.dr.tr g5, fun j hj => ?_, mb, _, h5⟩
      have := gg.size
      rcases hS5 j hj with h | h
      · exact .inl h
      · have h : w2.heap.size ≤ j := h
        exact .inr (by omega)
  · have hb : s.begin.1 ≠ 0 := hb
    have e : s.append xs = s.begin := if_pos hb
    rw [e]
    exact Rt.some' ⟨rfl, w2, S, rfl, gg, fun _ h => .inl h, mb, fp, h2⟩
theorem Read_spec (h : Dk w S d s) {k : Int} (hk : ∀ f, s.file = some f → k = f.1.length) (h0 : 0 ≤ k) (hn : 10 < n) : Rt (disk_Disk_Read n [pt d, .string nl, .int .i64 0, .int .i64 k] w) fun r => ∃ B c w' xs, r = ([.slice B xs.length c, .int .i64 s.open.1], w') ∧ Own .u8 5 w' w.heap.size (.slice B xs.length c) xs ∧ Bytes xs ∧ (s.open.1 = 0 → ∃ f, s.file = some f ∧ xs = f.1) ∧ xs.length ≤ 16777216 ∧ Dk w' S d s.open.2 ∧ Gx S w w' := by
  obtain ⟨mb, fp, h⟩ := h
  rw [disk_Disk_Read_eq]
  refine Rt.fin (Rt.al fun w1 l1 k1 s1 => ?_)
  have h0' := h.kp k1
  have hS : ¬ S w.heap.size := fun hj => by obtain ⟨A, c, hd⟩ := h; have := hd.lt _ hj; omega
  obtain ⟨r, hr, w2, rfl, h2, g2⟩ := open_spec h0' l1 hS hn
  refine Rt.cl hr ?_
  have gg : Gx S w w2 := k1.gx.tr g2
  by_cases ho : s.open.1 = 0
  · rw [if_pos ho, ho]
    obtain ⟨f, hf⟩ := s.open_ok ho
    obtain ⟨A, c, hd⟩ := id h2
    have hfl := hd.fl
    rw [s.open_len.2, hf] at hfl
    obtain ⟨p, rfl, i1, i2, i3, i4, i5, B, e, hp, i6, i7⟩ := hfl.some'
    obtain rfl := hk f hf
    show Rt (tC [pt p, .int .i64 0] _) _
    (repeat' (first|(with_reducible (first|apply Rt.fin|apply Rt.tL|apply Rt.tI|apply Rt.tB|apply Rt.tS|apply Rt.tP|apply Rt.tD|apply Rt.tM|apply Rt.tC|apply Rt.tN|apply Rt.tA|apply Rt.tG|apply Rt.tF|apply Rt.os|apply Rt.clS|apply Rt.jmN|apply Rt.jbN|apply Rt.jbE|apply Rt.ckR|exact Rt.some' rfl))|((with_reducible (first|apply Rt.ld0|apply Rt.ld1|apply Rt.ld2|apply Rt.ld3|apply Rt.ld4|apply Rt.ld5)); first|assumption|exact Lc.kp (by assumption) (by assumption))|((with_reducible apply Rt.ol); first|assumption|exact cell_kp (by assumption) (by assumption))|fail))
    refine Rt.cN (fun _ => ?_) fun e => absurd rfl e
    rw [show (if (f.1.length : Int) < 0 then (f.1.length : Int) else 0) = 0 by rw [if_neg (by omega)]]
    refine Rt.cDF (by omega) ?_
    (repeat' (first|(with_reducible (first|apply Rt.fin|apply Rt.tL|apply Rt.tI|apply Rt.tB|apply Rt.tS|apply Rt.tP|apply Rt.tD|apply Rt.tM|apply Rt.tC|apply Rt.tN|apply Rt.tA|apply Rt.tG|apply Rt.tF|apply Rt.os|apply Rt.clS|apply Rt.jmN|apply Rt.jbN|apply Rt.jbE|apply Rt.ckR|exact Rt.some' rfl))|((with_reducible (first|apply Rt.ld0|apply Rt.ld1|apply Rt.ld2|apply Rt.ld3|apply Rt.ld4|apply Rt.ld5)); first|assumption|exact Lc.kp (by assumption) (by assumption))|((with_reducible apply Rt.ol); first|assumption|exact cell_kp (by assumption) (by assumption))|fail))
    refine Rt.cDF (by omega) ?_
    have hpd := hp.kp (Kp.rfl' w2).dr
    (repeat' (first|(with_reducible (first|apply Rt.fin|apply Rt.tL|apply Rt.tI|apply Rt.tB|apply Rt.tS|apply Rt.tP|apply Rt.tD|apply Rt.tM|apply Rt.tC|apply Rt.tN|apply Rt.tA|apply Rt.tG|apply Rt.tF|apply Rt.os|apply Rt.clS|apply Rt.jmN|apply Rt.jbN|apply Rt.jbE|apply Rt.ckR|exact Rt.some' rfl))|((with_reducible (first|apply Rt.ld0|apply Rt.ld1|apply Rt.ld2|apply Rt.ld3|apply Rt.ld4|apply Rt.ld5)); first|assumption|exact Lc.kp (by assumption) (by assumption))|((with_reducible apply Rt.ol); first|assumption|exact cell_kp (by assumption) (by assumption))|fail))
    have e1 : IntKind.i64.wrap ((f.1.length : Int) - 0) = f.1.length := by rw [i64_in _ (by omega)]; omega
    rw [e1, show (if (f.1.length : Int) < (f.1.length : Int) then (f.1.length : Int) else (f.1.length : Int)) = f.1.length by split <;> rfl, show IntKind.i64.wrap (0 + (f.1.length : Int)) = f.1.length by rw [i64_in _ (by omega)]; omega]
    refine Rt.cut (i6.bv i3) (by omega) (by omega) (Int.le_refl _) fun B2 hB2 => ?_
    have e2 : ((f.1.length : Nat) : Int).toNat - (0 : Int).toNat = f.1.length := by simp
    have e3 : List.drop (0 : Int).toNat (List.take ((f.1.length : Nat) : Int).toNat f.1) = f.1 := by simp
    rw [e2, e3] at hB2
    rw [e2]
    refine Rt.cO (CloneB_spec (hB2.kp (Kp.rfl' w2).dr) (by omega)) fun B3 d3 w3 o3 k3 => ?_
    have g3 : Gx S w w3 := gg.dr.tr k3.gx
    exact Rt.some' ⟨rfl, B3, d3, w3, f.1, rfl, o3.mono (by have := gg.size; exact this), i3, fun _ => ⟨f, hf, rfl⟩, i5, ⟨mb, _, (h2.kp (Kp.rfl' w2).dr).kp k3⟩, g3⟩
  · rw [if_neg ho]
    show Rt (tC [.pointer none, .int .i64 s.open.1] _) _
    (repeat' (first|(with_reducible (first|apply Rt.fin|apply Rt.tL|apply Rt.tI|apply Rt.tB|apply Rt.tS|apply Rt.tP|apply Rt.tD|apply Rt.tM|apply Rt.tC|apply Rt.tN|apply Rt.tA|apply Rt.tG|apply Rt.tF|apply Rt.os|apply Rt.clS|apply Rt.jmN|apply Rt.jbN|apply Rt.jbE|apply Rt.ckR|exact Rt.some' rfl))|((with_reducible (first|apply Rt.ld0|apply Rt.ld1|apply Rt.ld2|apply Rt.ld3|apply Rt.ld4|apply Rt.ld5)); first|assumption|exact Lc.kp (by assumption) (by assumption))|((with_reducible apply Rt.ol); first|assumption|exact cell_kp (by assumption) (by assumption))|fail))
    refine Rt.cN (fun e => absurd e ho) fun _ => ?_
    exact Rt.some' ⟨rfl, none, 0, w2, [], rfl, Own.nil _ _, fun z hz => (by cases hz), fun h => absurd h ho, by simp, ⟨mb, _, h2⟩, gg⟩
end
end Go.Proofs.YtdcdgmiojlldaaaDoor.Wl
/- The log: Append. -/
namespace Go.Proofs.YtdcdgmiojlldaaaDoor.Wl
open Go Big Go.RowKit Go.IntWalk Var Low
set_option linter.unusedVariables false
set_option linter.unusedSimpArgs false
open Fr (sm hsm IsPut)
open Ba (bv opEl bytesB OpD)
noncomputable def putF (size : Nat) (r : List Int) : List Int := Classical.choose (IsPut.total sm size r)
theorem putF_is (size : Nat) (r : List Int) : IsPut sm size r (putF size r) := Classical.choose_spec (IsPut.total sm size r)
noncomputable def DS.wapp (s : DS) (bb : List Int × Int) (sync : Bool) : Int × DS :=
  if bb.2 ≠ 0 then (bb.2, s) else if s.open.1 ≠ 0 ∧ s.open.1 ≠ 8 then s.open
  else if (s.open.2.append (putF (if s.open.1 = 0 then s.len else 0) bb.1)).1 ≠ 0 ∨ sync = false then s.open.2.append (putF (if s.open.1 = 0 then s.len else 0) bb.1)
  else (s.open.2.append (putF (if s.open.1 = 0 then s.len else 0) bb.1)).2.sync
section
variable {α : Type} {Q : α → Prop} {n m : Nat} {w w' w0 w1 : World} {A B C : Option Addr} {l c c' d base e mb p b : Nat} {k q : Int} {x r out o zs : List Int} {xs : List OpD} {S S' T : Nat → Prop} {fp : Option Nat} {s : DS} {sync : Bool}
theorem Dk.lt (h : Dk w S d s) : ∀ j, S j → j < w.heap.size := by
  obtain ⟨mb, fp, A, c, h⟩ := h
  exact h.lt
theorem WApp_tail (h : Dk w S d s) {xs : List Int} (hx : Bv .u8 w B l c xs) (hst : Stb (fun j => S j ∨ w.heap.size ≤ j) (fun w => Bv .u8 w B l c xs) w) (hn : 10 < n) :
    Rt (cl (disk_Disk_Append n [pt d, .string nl, .slice B l c] w) fun vs52 w53 => tC vs52 fun v54 cs55 => tI .i64 v54 fun n56 => tN cs55 (cond (n56 != 0) (some (⟨.ret, [.int .i64 n56], w53⟩ : Res)) (cond (!sync) (some (⟨.ret, [.int .i64 n56], w53⟩ : Res)) (cl (disk_Disk_Sync n [pt d, .string nl] w53) fun vs57 w58 => tC vs57 fun v59 cs60 => tI .i64 v59 fun n61 => tN cs60 (some (⟨.ret, [.int .i64 n61], w58⟩ : Res))))))
      fun r => ∃ w' S', r = ⟨.ret, [.int .i64 (if (s.append xs).1 ≠ 0 ∨ sync = false then s.append xs else (s.append xs).2.sync).1], w'⟩ ∧ Gx S w w' ∧ (∀ j, S' j → S j ∨ w.heap.size ≤ j) ∧ Dk w' S' d (if (s.append xs).1 ≠ 0 ∨ sync = false then s.append xs else (s.append xs).2.sync).2 := by
  obtain ⟨_, hr, w2, S2, rfl, g2, hs2, h2⟩ := Append_spec h hst hn
  refine Rt.cl hr ?_
  (repeat' (first|(with_reducible (first|apply Rt.fin|apply Rt.tL|apply Rt.tI|apply Rt.tB|apply Rt.tS|apply Rt.tP|apply Rt.tD|apply Rt.tM|apply Rt.tC|apply Rt.tN|apply Rt.tA|apply Rt.tG|apply Rt.tF|apply Rt.os|apply Rt.clS|apply Rt.jmN|apply Rt.jbN|apply Rt.jbE|apply Rt.ckR|exact Rt.some' rfl))|((with_reducible (first|apply Rt.ld0|apply Rt.ld1|apply Rt.ld2|apply Rt.ld3|apply Rt.ld4|apply Rt.ld5)); first|assumption|exact Lc.kp (by assumption) (by assumption))|((with_reducible apply Rt.ol); first|assumption|exact cell_kp (by assumption) (by assumption))|fail))
  refine Rt.cN (fun h0 => ?_) fun h0 => ?_
  · have h0 : (s.append xs).1 = 0 := h0
    cases sync with
    | false =>
      refine Rt.cT rfl (Rt.some' ⟨w2, S2, ?_, g2, hs2, ?_⟩)
      · rw [if_pos (.inr rfl)]
      · rw [if_pos (.inr rfl)]; exact h2
    | true =>
      refine Rt.cF rfl ?_
      obtain ⟨_, hr3, w3, rfl, h3, g3⟩ := Sync_spec h2 hn
      refine Rt.cl hr3 ?_
      (repeat' (first|(with_reducible (first|apply Rt.fin|apply Rt.tL|apply Rt.tI|apply Rt.tB|apply Rt.tS|apply Rt.tP|apply Rt.tD|apply Rt.tM|apply Rt.tC|apply Rt.tN|apply Rt.tA|apply Rt.tG|apply Rt.tF|apply Rt.os|apply Rt.clS|apply Rt.jmN|apply Rt.jbN|apply Rt.jbE|apply Rt.ckR|exact Rt.some' rfl))|((with_reducible (first|apply Rt.ld0|apply Rt.ld1|apply Rt.ld2|apply Rt.ld3|apply Rt.ld4|apply Rt.ld5)); first|assumption|exact Lc.kp (by assumption) (by assumption))|((with_reducible apply Rt.ol); first|assumption|exact cell_kp (by assumption) (by assumption))|fail))
      refine Rt.some' ⟨w3, S2, ?_, g2.tr' g3 fun j hj h => (hs2 j h).elim id fun h => by omega, hs2, ?_⟩
      · rw [if_neg (by simpa using h0)]
      · rw [if_neg (by simpa using h0)]; exact h3
  · have h0 : (s.append xs).1 ≠ 0 := h0
    refine Rt.some' ⟨w2, S2, ?_, g2, hs2, ?_⟩
    · rw [if_pos (.inl h0)]
    · rw [if_pos (.inl h0)]; exact h2
theorem WApp_spec (h : Dk w S d s) (hq : 0 ≤ q ∧ q < 2 ^ 64) (hx : Ev opEl w A l c xs) (hn : 2 ^ 50 < n) : Rt (wal_Append n [pt d, .string nl, bv q A l c, .bool sync] w) (RK S w d [.int .i64 (s.wapp (bytesB q xs) sync).1] (s.wapp (bytesB q xs) sync).2) := by
  show Rt (wal_Append n [pt d, .string nl, .agg #[.int .u64 q, .slice A l c], .bool sync] w) _
  rw [wal_Append_eq]
  refine Rt.fin (Rt.al fun w1 l1 k1 s1 => ?_)
  (repeat' (first|(with_reducible (first|apply Rt.fin|apply Rt.tL|apply Rt.tI|apply Rt.tB|apply Rt.tS|apply Rt.tP|apply Rt.tD|apply Rt.tM|apply Rt.tC|apply Rt.tN|apply Rt.tA|apply Rt.tG|apply Rt.tF|apply Rt.os|apply Rt.clS|apply Rt.jmN|apply Rt.jbN|apply Rt.jbE|apply Rt.ckR|exact Rt.some' rfl))|((with_reducible (first|apply Rt.ld0|apply Rt.ld1|apply Rt.ld2|apply Rt.ld3|apply Rt.ld4|apply Rt.ld5)); first|assumption|exact Lc.kp (by assumption) (by assumption))|((with_reducible apply Rt.ol); first|assumption|exact cell_kp (by assumption) (by assumption))|fail))
  have hbw := Ba.bytesB_wf (s := q) hx
  have hbl := Ba.bytesB_len (s := q) (xs := xs) fun _ _ => trivial
  refine Ba.Rt.cROe (Ba.Bytes_spec hq (hx.kp k1) (by omega)) fun B3 d3 w3 o3 k3 => ?_
  have k03 := k1.tr k3
  have hk3 := h.kp k03
  refine Rt.cN (fun h0 => ?_) fun h0 => ?_
  · obtain ⟨_, hr4, w4, rfl, h4, g4⟩ := Size_spec (n := n) hk3 (by omega)
    have o4 : Own .u8 5 w4 w1.heap.size (.slice B3 (bytesB q xs).1.length d3) (bytesB q xs).1 := o3.gx g4 fun j hj hs => by have := (o3.lt j hj).1; have := h.lt j hs; omega
    refine Rt.cl hr4 ?_
    (repeat' (first|(with_reducible (first|apply Rt.fin|apply Rt.tL|apply Rt.tI|apply Rt.tB|apply Rt.tS|apply Rt.tP|apply Rt.tD|apply Rt.tM|apply Rt.tC|apply Rt.tN|apply Rt.tA|apply Rt.tG|apply Rt.tF|apply Rt.os|apply Rt.clS|apply Rt.jmN|apply Rt.jbN|apply Rt.jbE|apply Rt.ckR|exact Rt.some' rfl))|((with_reducible (first|apply Rt.ld0|apply Rt.ld1|apply Rt.ld2|apply Rt.ld3|apply Rt.ld4|apply Rt.ld5)); first|assumption|exact Lc.kp (by assumption) (by assumption))|((with_reducible apply Rt.ol); first|assumption|exact cell_kp (by assumption) (by assumption))|fail))
    have g04 : Gx S w w4 := k03.gx.tr g4
    have hlt := h.lt
    have hlen : s.len ≤ 16777216 := by
      obtain ⟨mb, fp, A9, c9, hd⟩ := h
      unfold DS.len
      cases hf : s.file with
      | none => exact Nat.zero_le _
      | some f => have hfl := hd.fl; rw [hf] at hfl; obtain ⟨p, _, _, _, _, _, i5, _⟩ := hfl.some'; exact i5
    have fin_ : ∀ (a : Int), (a = (((if s.open.1 = 0 then s.len else 0 : Nat)) : Int)) → ¬ (s.open.1 ≠ 0 ∧ s.open.1 ≠ 8) → ∀ {X : Option Res},
        X = (cl (frame_Put n [.int .i64 a, .slice B3 (bytesB q xs).1.length d3] w4) fun vs45 w46 => tC vs45 fun v47 cs48 => tL v47 fun A49 l50 c51 => tN cs48 (cl (disk_Disk_Append n [pt d, .string nl, .slice A49 l50 c51] w46) fun vs52 w53 => tC vs52 fun v54 cs55 => tI .i64 v54 fun n56 => tN cs55 (cond (n56 != 0) (some (⟨.ret, [.int .i64 n56], w53⟩ : Res)) (cond (!sync) (some (⟨.ret, [.int .i64 n56], w53⟩ : Res)) (cl (disk_Disk_Sync n [pt d, .string nl] w53) fun vs57 w58 => tC vs57 fun v59 cs60 => tI .i64 v59 fun n61 => tN cs60 (some (⟨.ret, [.int .i64 n61], w58⟩ : Res))))))) →
        Rt X (fun r => r.ex = .ret ∧ RK S w d [.int .i64 (s.wapp (bytesB q xs) sync).1] (s.wapp (bytesB q xs) sync).2 (r.vals, r.w)) := by
      rintro a ha hno _ rfl
      have hat : a.toNat = (if s.open.1 = 0 then s.len else 0) := by omega
      have hp := putF_is (if s.open.1 = 0 then s.len else 0) (bytesB q xs).1
      refine Rt.cO (Fr.Put_spec hn (o4.bv hbw) (by omega) (by rw [ha]; split <;> omega) (by rw [hat]; exact hp)) fun B5 d5 w5 o5 k5 => ?_
      have hpb := hp.bytes hbw
      have hst : Stb (fun j => S j ∨ w5.heap.size ≤ j) (fun w => Bv .u8 w B5 (putF (if s.open.1 = 0 then s.len else 0) (bytesB q xs).1).length d5 (putF (if s.open.1 = 0 then s.len else 0) (bytesB q xs).1)) w5 :=
        Fr.Own_stb o5 hpb fun j hj hs => by
          have := o5.lt j hj
          have := g04.size
          rcases hs with hs | hs
          · have := hlt j hs; omega
          · omega
      refine Rt.mono (WApp_tail (h4.kp k5) (o5.bv hpb) hst (by omega)) ?_
      rintro _ ⟨w6, S6, rfl, g6, hs6, h6⟩
      have e : s.wapp (bytesB q xs) sync = (if (s.open.2.append (putF (if s.open.1 = 0 then s.len else 0) (bytesB q xs).1)).1 ≠ 0 ∨ sync = false then s.open.2.append (putF (if s.open.1 = 0 then s.len else 0) (bytesB q xs).1) else (s.open.2.append (putF (if s.open.1 = 0 then s.len else 0) (bytesB q xs).1)).2.sync) := by
        unfold DS.wapp; rw [if_neg (by simpa using h0), if_neg hno]
      rw [e]
      refine ⟨rfl, w6, S6, rfl, (g04.tr k5.gx).tr g6, fun j hj => (hs6 j hj).imp id fun h => ?_, h6⟩
      have := (g04.tr k5.gx).size
      omega
    by_cases ho : s.open.1 = 0
    · rw [ho, if_pos rfl]
      refine Rt.jmX (Rt.cN (fun _ => Rt.some' (.inl ⟨rfl, ?_⟩)) fun e => absurd rfl e)
      exact fin_ _ (by rw [if_pos ho]) (fun h => h.1 ho) rfl
    · rw [if_neg ho]
      refine Rt.jmX (Rt.cN (fun e => absurd e ho) fun _ => Rt.cN (fun h8 => ?_) fun h8 => ?_)
      · exact Rt.some' (.inl ⟨rfl, fin_ _ (by rw [if_neg ho]; rfl) (fun h => h.2 h8) rfl⟩)
      · have e : s.wapp (bytesB q xs) sync = s.open := by unfold DS.wapp; rw [if_neg (by simpa using h0), if_pos ⟨ho, h8⟩]
        rw [e]
        exact Rt.some' (.inr ⟨by simp, rfl, w4, S, rfl, g04, fun _ h => .inl h, h4⟩)
  · have e : s.wapp (bytesB q xs) sync = ((bytesB q xs).2, s) := if_pos h0
    rw [e]
    exact Rt.some' ⟨rfl, w3, S, rfl, k03.gx, fun _ h => .inl h, hk3⟩
end
end Go.Proofs.YtdcdgmiojlldaaaDoor.Wl
/- The log: Recover. -/
namespace Go.Proofs.YtdcdgmiojlldaaaDoor.Wl
open Go Big Go.RowKit Go.IntWalk Var Low Par
set_option linter.unusedVariables false
set_option linter.unusedSimpArgs false
open Fr (sm hsm IsPut byEl lookP_go RAll)
open Ba (bv opEl bytesB OpD batchP encB checkC numC)
abbrev BatD := Int × List OpD
def batEl : El BatD where
  sz := 2
  rd w vs x := ∃ A c, vs = [.int .u64 x.1, .slice A x.2.length c] ∧ (0 ≤ x.1 ∧ x.1 < 2 ^ 64) ∧ Ev opEl w A x.2.length c x.2
  kp := fun hk ⟨A, c, e, h0, h⟩ => ⟨A, c, e, h0, h.kp hk⟩
  one := fun ⟨A, c, e, _⟩ u hu => by
    subst e
    simp at hu
    rcases hu with rfl | rfl <;> rfl
theorem slBt : ∃ i v, SlTE Tryd.prog 36 33 2 i v := slTE (by kernel_rfl)
theorem Rd_len {sm : List Int → Int} {a : Nat} {s : List Int} {wi : Bool} {now : List Int} {d d' : Nat} {rs : List (List Int)} {c : Int} (h : Fr.Rd sm a s wi now d rs d' c) : rs.length ≤ s.length ∧ ∀ r ∈ rs, r.length ≤ now.length + s.length := by
  induction h with
  | stop h => exact ⟨Nat.zero_le _, fun r hr => by cases hr⟩
  | more h t ih =>
    obtain ⟨h1, h2, _, h3, _⟩ := lookP_go h
    rw [List.length_drop, List.length_append] at ih
    exact ⟨by omega, fun r hr => by have := ih.2 r hr; omega⟩
  | last h t ih =>
    obtain ⟨h1, h2, _, h3, _⟩ := lookP_go h
    rw [List.length_drop] at ih
    refine ⟨by rw [List.length_cons]; omega, fun r hr => ?_⟩
    rcases List.mem_cons.1 hr with rfl | hr
    · rw [List.length_append]; omega
    · have := ih.2 r hr; rw [List.length_nil] at this; omega
noncomputable def recF : List (List Int) → Int → List BatD × Bool
  | [], _ => ([], false)
  | r :: rs, last => if (allP batchP r).1 ≠ 0 ∨ (allP batchP r).2.1 ≤ last then ([], true)
    else ((allP batchP r).2 :: (recF rs ((allP batchP r).2.1 + (((allP batchP r).2.2.length : Nat) : Int) - 1)).1, (recF rs ((allP batchP r).2.1 + (((allP batchP r).2.2.length : Nat) : Int) - 1)).2)
section
variable {α : Type} {Q : α → Prop} {n m : Nat} {w w' w0 w1 : World} {A B C R : Option Addr} {l c c' d base e mb p b L rc : Nat} {k q cls : Int} {x r o zs : List Int} {rs : List (List Int)} {out xs : List BatD} {S S' T : Nat → Prop} {fp : Option Nat} {s : DS} {sync : Bool}
theorem can_ok {s : Int} {ops : List OpD} (hx : Bytes x) (h : allP batchP x = (0, s, ops)) : (1 ≤ s ∧ s + ops.length < 2 ^ 57) ∧ 1 ≤ ops.length ∧ ops.length ≤ 100 := by
  obtain ⟨_, hc, hn, h0⟩ := allP_can Ba.can_batch hx h
  obtain ⟨h1, h2, _⟩ := Ba.checkC_ok.1 hc
  obtain ⟨h3, h4, h5⟩ := hn
  dsimp only at h1 h2 h3 h4 h5
  omega
theorem Rec_l0 (hn : 2 ^ 59 < n) (hr : Ev byEl w0 R L rc rs) (hL : L ≤ 2 ^ 30) (hrl : ∀ r ∈ rs, r.length ≤ 2 ^ 30) : ∀ (q i j : Nat) (w : World) (A : Option Addr) (c : Nat) (out : List BatD) (last : Int), i + q = L → q < j → Kp w0 w → OwnX (fun k => k < w0.heap.size) batEl 33 w w0.heap.size (.slice A out.length c) out → out.length ≤ i → 0 ≤ last →
    Rt (wal_Recover.l0 n j cls A out.length c last R L rc (L : Int) (i : Int) w) fun r => ∃ A' c' w', Kp w0 w' ∧ OwnX (fun k => k < w0.heap.size) batEl 33 w' w0.heap.size (.slice A' (out ++ (recF (rs.drop i) last).1).length c') (out ++ (recF (rs.drop i) last).1) ∧
      ((recF (rs.drop i) last).2 = false ∧ r = ⟨.exit 0, [.int .i64 cls, .slice A' (out ++ (recF (rs.drop i) last).1).length c'], w'⟩ ∨ (recF (rs.drop i) last).2 = true ∧ r = ⟨.ret, [.slice A' (out ++ (recF (rs.drop i) last).1).length c', .int .i64 2, .int .i64 0], w'⟩) := by
  obtain ⟨ti, tz, hT⟩ := slBt
  have hrs := hr.len
  intro q
  induction q with
  | zero =>
    intro i j w A c out last hi hj hk ho hol hla
    obtain ⟨j, rfl⟩ : ∃ j', j = j' + 1 := ⟨j - 1, by omega⟩
    rw [wal_Recover.l0_succ]
    refine Rt.cDF (by omega) ?_
    rw [List.drop_of_length_le (by omega)]
    have e : recF [] last = ([], false) := rfl
    rw [e]
    dsimp only
    rw [List.append_nil]
    exact Rt.some' ⟨A, c, w, hk, ho, .inl ⟨rfl, rfl⟩⟩
  | succ q ih =>
    intro i j w A c out last hi hj hk ho hol hla
    obtain ⟨j, rfl⟩ : ∃ j', j = j' + 1 := ⟨j - 1, by omega⟩
    rw [wal_Recover.l0_succ]
    refine Rt.cDT (by omega) (Fr.Rt.ixB (hr.kp hk).sl (by omega) (by omega) fun x a B m d ex hv hc => ?_)
    rw [Int.toNat_natCast] at ex
    have hxm : x ∈ rs := List.mem_of_getElem? ex
    have hdr : rs.drop i = x :: rs.drop (i + 1) := by
      obtain ⟨hlt, e⟩ := List.getElem?_eq_some_iff.1 ex
      rw [List.drop_eq_getElem_cons hlt, e]
    have hvl := hv.len
    have hxl := hrl x hxm
    (repeat' (first|(with_reducible (first|apply Rt.fin|apply Rt.tL|apply Rt.tI|apply Rt.tB|apply Rt.tS|apply Rt.tP|apply Rt.tD|apply Rt.tM|apply Rt.tC|apply Rt.tN|apply Rt.tA|apply Rt.tG|apply Rt.tF|apply Rt.os|apply Rt.clS|apply Rt.jmN|apply Rt.jbN|apply Rt.jbE|apply Rt.ckR|exact Rt.some' rfl))|((with_reducible (first|apply Rt.ld0|apply Rt.ld1|apply Rt.ld2|apply Rt.ld3|apply Rt.ld4|apply Rt.ld5)); first|assumption|exact Lc.kp (by assumption) (by assumption))|((with_reducible apply Rt.ol); first|assumption|exact cell_kp (by assumption) (by assumption))|fail))
    refine Ba.Rt.cBat (Ba.Read_spec hv (by omega) hn) fun B2 d2 w1 o1 k1 => ?_
    have hcan := fun s ops => can_ok (x := x) (s := s) (ops := ops) hv.rng
    have hre : recF (x :: rs.drop (i + 1)) last = if (allP batchP x).1 ≠ 0 ∨ (allP batchP x).2.1 ≤ last then ([], true)
      else ((allP batchP x).2 :: (recF (rs.drop (i + 1)) ((allP batchP x).2.1 + (((allP batchP x).2.2.length : Nat) : Int) - 1)).1, (recF (rs.drop (i + 1)) ((allP batchP x).2.1 + (((allP batchP x).2.2.length : Nat) : Int) - 1)).2) := rfl
    rw [hdr]
    generalize allP batchP x = y at o1 hcan hre ⊢
    obtain ⟨e, s, ops⟩ := y
    dsimp only at o1 hcan hre ⊢
    have bad : (e ≠ 0 ∨ s ≤ last) → ∀ w', Kp w w' → Rt (some (⟨.ret, [.slice A out.length c, .int .i64 2, .int .i64 0], w'⟩ : Res)) fun r => ∃ A' c' w', Kp w0 w' ∧ OwnX (fun k => k < w0.heap.size) batEl 33 w' w0.heap.size (.slice A' (out ++ (recF (x :: rs.drop (i + 1)) last).1).length c') (out ++ (recF (x :: rs.drop (i + 1)) last).1) ∧
      ((recF (x :: rs.drop (i + 1)) last).2 = false ∧ r = ⟨.exit 0, [.int .i64 cls, .slice A' (out ++ (recF (x :: rs.drop (i + 1)) last).1).length c'], w'⟩ ∨ (recF (x :: rs.drop (i + 1)) last).2 = true ∧ r = ⟨.ret, [.slice A' (out ++ (recF (x :: rs.drop (i + 1)) last).1).length c', .int .i64 2, .int .i64 0], w'⟩) := by
      intro h w' hk'
      rw [hre, if_pos h]
      dsimp only
      rw [List.append_nil]
      exact Rt.some' ⟨A, c, w', hk.tr hk', ho.kp hk', .inr ⟨rfl, rfl⟩⟩
    refine Ba.Rt.al2 fun w2 l2 k2 s2 => ?_
    refine Rt.cN (fun h0 => ?_) fun h0 => bad (.inl h0) _ (k1.tr k2)
    have h0 : e = 0 := h0
    subst h0
    obtain ⟨⟨hs1, hs2⟩, ho1, ho2⟩ := hcan s ops rfl
    (repeat' (first|(with_reducible (first|apply Rt.fin|apply Rt.tL|apply Rt.tI|apply Rt.tB|apply Rt.tS|apply Rt.tP|apply Rt.tD|apply Rt.tM|apply Rt.tC|apply Rt.tN|apply Rt.tA|apply Rt.tG|apply Rt.tF|apply Rt.os|apply Rt.clS|apply Rt.jmN|apply Rt.jbN|apply Rt.jbE|apply Rt.ckR|exact Rt.some' rfl))|((with_reducible (first|apply Rt.ld0|apply Rt.ld1|apply Rt.ld2|apply Rt.ld3|apply Rt.ld4|apply Rt.ld5)); first|assumption|exact Lc.kp (by assumption) (by assumption))|((with_reducible apply Rt.ol); first|assumption|exact cell_kp (by assumption) (by assumption))|fail))
    refine Rt.cD (fun h1 => bad (.inr h1) _ (k1.tr k2)) fun h1 => ?_
    have kd : Kp w2 w2.drew := (Kp.rfl' w2).dr
    have l2d := l2.kp kd
    (repeat' (first|(with_reducible (first|apply Rt.fin|apply Rt.tL|apply Rt.tI|apply Rt.tB|apply Rt.tS|apply Rt.tP|apply Rt.tD|apply Rt.tM|apply Rt.tC|apply Rt.tN|apply Rt.tA|apply Rt.tG|apply Rt.tF|apply Rt.os|apply Rt.clS|apply Rt.jmN|apply Rt.jbN|apply Rt.jbE|apply Rt.ckR|exact Rt.some' rfl))|((with_reducible (first|apply Rt.ld0|apply Rt.ld1|apply Rt.ld2|apply Rt.ld3|apply Rt.ld4|apply Rt.ld5)); first|assumption|exact Lc.kp (by assumption) (by assumption))|((with_reducible apply Rt.ol); first|assumption|exact cell_kp (by assumption) (by assumption))|fail))
    have k02 : Kp w w2.drew := (k1.tr k2).tr kd
    refine Rt.al fun w3 l3 k3 s3 => ?_
    have k03 : Kp w w3 := k02.tr k3
    have hlt : ∀ j, On (.slice A out.length c) j → w0.heap.size ≤ j ∧ j < w.heap.size := fun j hj => ho.lt j hj
    have hw1 := k1.size
    have hw0 := hk.size
    have o3 : OwnX (fun j => j < w.heap.size) opEl 30 w3 w.heap.size (.slice B2 ops.length d2) ops := ((o1.kp k2).kp kd).kp k3
    refine Rt.app1L rfl hT (ho.kp k03) l3 rfl (x := (s, ops)) ?_ (by omega) (by have := k03.size; omega) fun A4 c4 w4 o4 g4 s4 => ?_
    · have hst := (o3.stb fun k h => h).less (S' := fun k => k < w0.heap.size ∨ On (.slice A out.length c) k) fun k _ h => h.elim (fun h => by omega) fun h => (hlt k h).2
      exact fun w' hg => ⟨B2, d2, rfl, ⟨by dsimp only; omega, by dsimp only; omega⟩, hst w' hg⟩
    have l33 := l2d.kp k3
    have l4 := l33.gx g4 (fun h => by have := (hlt _ h).2; omega)
    (repeat' (first|(with_reducible (first|apply Rt.fin|apply Rt.tL|apply Rt.tI|apply Rt.tB|apply Rt.tS|apply Rt.tP|apply Rt.tD|apply Rt.tM|apply Rt.tC|apply Rt.tN|apply Rt.tA|apply Rt.tG|apply Rt.tF|apply Rt.os|apply Rt.clS|apply Rt.jmN|apply Rt.jbN|apply Rt.jbE|apply Rt.ckR|exact Rt.some' rfl))|((with_reducible (first|apply Rt.ld0|apply Rt.ld1|apply Rt.ld2|apply Rt.ld3|apply Rt.ld4|apply Rt.ld5)); first|assumption|exact Lc.kp (by assumption) (by assumption))|((with_reducible apply Rt.ol); first|assumption|exact cell_kp (by assumption) (by assumption))|fail))
    have e1 : IntKind.u64.wrap (s + IntKind.u64.wrap (IntKind.i64.wrap ((ops.length : Int) - 1))) = s + ops.length - 1 := by
      rw [i64_in _ (by omega), u64_in ((ops.length : Int) - 1) (by omega), u64_in _ (by omega)]; omega
    have e2 : IntKind.i64.wrap ((i : Int) + 1) = ((i + 1 : Nat) : Int) := by rw [i64_in _ (by omega)]; omega
    rw [e1, e2]
    have hll : (out ++ [(s, ops)]).length = out.length + 1 := by rw [List.length_append]; rfl
    have hk4 : Kp w0 w4 := (hk.tr k03).tx g4 fun j hj => (hlt j hj).1
    have := ih (i + 1) j w4 A4 c4 (out ++ [(s, ops)]) (s + ops.length - 1) (by omega) (by omega) hk4 (by rw [hll]; exact o4) (by omega) (by omega)
    rw [hll] at this
    refine Rt.mono this ?_
    rintro r ⟨A', c', w', h2, h3, h4⟩
    rw [hre, if_neg (by omega)]
    dsimp only
    rw [List.append_assoc] at h3 h4
    exact ⟨A', c', w', h2, h3, h4⟩
theorem rd_ex (b : List Int) : ∃ x : List (List Int) × Nat × Int, Fr.Rd sm 0 b false [] 0 x.1 x.2.1 x.2.2 := by
  obtain ⟨rs, d', c, h⟩ := Fr.Rd.total sm b.length 0 b false [] 0 (Nat.le_refl _)
  exact ⟨(rs, d', c), h⟩
noncomputable def rdF (b : List Int) : List (List Int) × Nat × Int := Classical.choose (rd_ex b)
theorem rdF_is (b : List Int) : Fr.Rd sm 0 b false [] 0 (rdF b).1 (rdF b).2.1 (rdF b).2.2 := Classical.choose_spec (rd_ex b)
theorem rdF_eq {b : List Int} {rs : List (List Int)} {d : Nat} {c : Int} (h : Fr.Rd sm 0 b false [] 0 rs d c) : rdF b = (rs, d, c) := by
  obtain ⟨h1, h2, h3⟩ := (rdF_is b).det h
  rw [← h1, ← h2, ← h3]
def DS.bytes (s : DS) : List Int := match s.file with
  | none => []
  | some f => f.1
noncomputable def logF (b : List Int) : List BatD × Int := ((recF (rdF b).1 0).1, if (recF (rdF b).1 0).2 = true then 2 else (rdF b).2.2)
noncomputable def DS.rec_ (s : DS) : (List BatD × Int × Int) × DS :=
  if s.open.1 ≠ 0 then (([], 0, s.open.1), s.open.2) else if s.open.2.open.1 ≠ 0 then (([], 0, s.open.2.open.1), s.open.2.open.2) else (((logF s.bytes).1, (logF s.bytes).2, 0), s.open.2.open.2)
def RRec (S : Nat → Prop) (w : World) (d : Nat) (x : List BatD × Int × Int) (s : DS) : List Value × World → Prop := fun r => ∃ A c w', r = ([.slice A x.1.length c, .int .i64 x.2.1, .int .i64 x.2.2], w') ∧ OwnX (fun k => k < w.heap.size) batEl 33 w' w.heap.size (.slice A x.1.length c) x.1 ∧ Dk w' S d s ∧ Gx S w w'
theorem Recover_spec (h : Dk w S d s) (hn : 2 ^ 59 < n) : Rt (wal_Recover n [pt d, .string nl] w) (RRec S w d s.rec_.1 s.rec_.2) := by
  rw [wal_Recover_eq]
  refine Rt.fin ?_
  obtain ⟨_, hr1, w1, rfl, h1, g1⟩ := Size_spec (n := n) h (by omega)
  refine Rt.cl hr1 ?_
  (repeat' (first|(with_reducible (first|apply Rt.fin|apply Rt.tL|apply Rt.tI|apply Rt.tB|apply Rt.tS|apply Rt.tP|apply Rt.tD|apply Rt.tM|apply Rt.tC|apply Rt.tN|apply Rt.tA|apply Rt.tG|apply Rt.tF|apply Rt.os|apply Rt.clS|apply Rt.jmN|apply Rt.jbN|apply Rt.jbE|apply Rt.ckR|exact Rt.some' rfl))|((with_reducible (first|apply Rt.ld0|apply Rt.ld1|apply Rt.ld2|apply Rt.ld3|apply Rt.ld4|apply Rt.ld5)); first|assumption|exact Lc.kp (by assumption) (by assumption))|((with_reducible apply Rt.ol); first|assumption|exact cell_kp (by assumption) (by assumption))|fail))
  refine Rt.cN (fun h0 => ?_) fun h0 => ?_
  · have h0 : s.open.1 = 0 := h0
    obtain ⟨f, hf⟩ := s.open_ok h0
    rw [if_pos h0]
    have hb : s.bytes = f.1 := by unfold DS.bytes; rw [hf]
    obtain ⟨_, hr2, B, c2, w2, xs, rfl, o2, b2, hx, hxl, h2, g2⟩ := Read_spec (n := n) (k := (s.len : Int)) h1 (fun f' hf' => by
      rw [s.open_len.2, hf] at hf'; rw [← Option.some.inj hf']; unfold DS.len; rw [hf]) (by omega) (by omega)
    refine Rt.cl hr2 ?_
    have g02 := g1.tr g2
    (repeat' (first|(with_reducible (first|apply Rt.fin|apply Rt.tL|apply Rt.tI|apply Rt.tB|apply Rt.tS|apply Rt.tP|apply Rt.tD|apply Rt.tM|apply Rt.tC|apply Rt.tN|apply Rt.tA|apply Rt.tG|apply Rt.tF|apply Rt.os|apply Rt.clS|apply Rt.jmN|apply Rt.jbN|apply Rt.jbE|apply Rt.ckR|exact Rt.some' rfl))|((with_reducible (first|apply Rt.ld0|apply Rt.ld1|apply Rt.ld2|apply Rt.ld3|apply Rt.ld4|apply Rt.ld5)); first|assumption|exact Lc.kp (by assumption) (by assumption))|((with_reducible apply Rt.ol); first|assumption|exact cell_kp (by assumption) (by assumption))|fail))
    refine Rt.cN (fun h3 => ?_) fun h3 => ?_
    · have h3 : s.open.2.open.1 = 0 := h3
      obtain ⟨f', hf', hxf⟩ := hx h3
      rw [s.open_len.2, hf] at hf'
      have hxf : xs = f.1 := by rw [hxf, Option.some.inj hf']
      subst hxf
      have hrd := rdF_is f.1
      obtain ⟨hl1, hl2⟩ := Rd_len hrd
      rw [List.length_nil] at hl2
      refine Fr.Rt.callAll (Fr.All_spec (by omega) (o2.bv b2) (by omega) hrd) fun R rc w3 e3 k3 => ?_
      have g03 := g02.tr k3.gx (S := S)
      refine Rt.jb (Rt.mono (Rec_l0 hn e3 (by omega) (fun r hr => by have := hl2 r hr; omega) _ 0 n w3 none 0 [] 0 (Nat.zero_add _) (by omega) (Kp.rfl' w3) (OwnX.nil _ _ _) (Nat.zero_le _) (Int.le_refl _)) ?_)
      rintro r ⟨A', c', w4, k4, o4, hc⟩
      rw [List.drop_zero, List.nil_append] at o4 hc
      have e : s.rec_ = (((logF s.bytes).1, (logF s.bytes).2, 0), s.open.2.open.2) := by unfold DS.rec_; rw [if_neg (by simpa using h0), if_neg (by simpa using h3)]
      rw [e, hb]
      have o5 : OwnX (fun k => k < w.heap.size) batEl 33 w4 w.heap.size (.slice A' (recF (rdF f.1).1 0).1.length c') (recF (rdF f.1).1 0).1 := (o4.less fun k hk => by have := g03.size; omega).mono g03.size
      have d5 := (h2.kp k3).kp k4
      rcases hc with ⟨hc, rfl⟩ | ⟨hc, rfl⟩
      · refine .inl ⟨.inr rfl, ?_⟩
        (repeat' (first|(with_reducible (first|apply Rt.fin|apply Rt.tL|apply Rt.tI|apply Rt.tB|apply Rt.tS|apply Rt.tP|apply Rt.tD|apply Rt.tM|apply Rt.tC|apply Rt.tN|apply Rt.tA|apply Rt.tG|apply Rt.tF|apply Rt.os|apply Rt.clS|apply Rt.jmN|apply Rt.jbN|apply Rt.jbE|apply Rt.ckR|exact Rt.some' rfl))|((with_reducible (first|apply Rt.ld0|apply Rt.ld1|apply Rt.ld2|apply Rt.ld3|apply Rt.ld4|apply Rt.ld5)); first|assumption|exact Lc.kp (by assumption) (by assumption))|((with_reducible apply Rt.ol); first|assumption|exact cell_kp (by assumption) (by assumption))|fail))
        refine Rt.some' ⟨rfl, A', c', w4, ?_, o5, d5, g03.tr k4.gx⟩
        unfold logF
        rw [if_neg (by rw [hc]; simp)]
      · refine .inr ⟨rfl, rfl, A', c', w4, ?_, o5, d5, g03.tr k4.gx⟩
        unfold logF
        rw [if_pos hc]
    · have h3 : s.open.2.open.1 ≠ 0 := h3
      have e : s.rec_ = (([], 0, s.open.2.open.1), s.open.2.open.2) := by unfold DS.rec_; rw [if_neg (by simpa using h0), if_pos h3]
      rw [e]
      exact Rt.some' ⟨rfl, none, 0, w2, rfl, OwnX.nil _ _ _, h2, g02⟩
  · have h0 : s.open.1 ≠ 0 := h0
    have e : s.rec_ = (([], 0, s.open.1), s.open.2) := by unfold DS.rec_; rw [if_pos h0]
    rw [e]
    exact Rt.some' ⟨rfl, none, 0, w1, rfl, OwnX.nil _ _ _, h1, g1⟩
end
end Go.Proofs.YtdcdgmiojlldaaaDoor.Wl
/- The log, plainly: what is written is recovered. -/
namespace Go.Proofs.YtdcdgmiojlldaaaDoor.Wl
open Go Big Go.RowKit Go.IntWalk Var Low Par
set_option linter.unusedVariables false
set_option linter.unusedSimpArgs false
open Fr (sm hsm IsPut IsLog byEl upTo)
open Ba (bv opEl bytesB OpD batchP encB checkC numC rightO)
def DS.sy (s : DS) : Nat := match s.file with
  | none => 0
  | some f => f.2
section
variable {s : DS} {xs ys : List BatD} {bb : List Int × Int} {sync : Bool} {b : List Int} {es : List Nat} {last : Int} {x : BatD}
theorem DS.bytes_len (s : DS) : s.bytes.length = s.len := by unfold DS.bytes DS.len; cases s.file <;> rfl
theorem DS.begin_nil (h : s.fails = []) : s.begin = (0, s) := by unfold DS.begin; rw [h]
theorem DS.open_nil (h : s.fails = []) : s.open = (if s.file = none then 8 else 0, s) := by
  unfold DS.open
  rw [s.begin_nil h, if_neg (by simp)]
  split <;> rfl
theorem DS.append_nil (h : s.fails = []) {o : List Int} (h1 : s.len + o.length ≤ 16777216) (h2 : ((s.len + o.length : Nat) : Int) ≤ s.room) : s.append o = (0, { s with file := some (s.bytes ++ o, s.sy) }) := by
  unfold DS.append
  rw [s.begin_nil h, if_neg (by simp), if_neg (by omega), if_neg (by omega)]
  unfold DS.bytes DS.sy
  cases s.file <;> rfl
theorem DS.wapp_nil (h : s.fails = []) (hb : bb.2 = 0) (h1 : s.len + (putF s.len bb.1).length ≤ 16777216) (h2 : ((s.len + (putF s.len bb.1).length : Nat) : Int) ≤ s.room) :
    s.wapp bb sync = (0, { s with file := some (s.bytes ++ putF s.len bb.1, if sync = true then s.len + (putF s.len bb.1).length else s.sy) }) := by
  have ho := s.open_nil h
  have hl : (if s.open.1 = 0 then s.len else 0) = s.len := by
    rw [ho]
    unfold DS.len
    cases s.file <;> rfl
  unfold DS.wapp
  rw [if_neg (by simpa using hb), if_neg (by rw [ho]; rintro ⟨h3, h4⟩; dsimp only at h3 h4; split at h3 <;> simp_all), hl]
  have ho2 : s.open.2 = s := by rw [ho]
  rw [ho2, s.append_nil h h1 h2]
  dsimp only
  cases sync with
  | false => rw [if_pos (.inr rfl)]; rfl
  | true =>
    rw [if_neg (by simp)]
    unfold DS.sync
    rw [DS.open_nil (s := { s with file := some (s.bytes ++ putF s.len bb.1, s.sy) }) h]
    simp only [reduceCtorEq, if_false, if_true]
    congr 3
    show some (s.bytes ++ putF s.len bb.1, (s.bytes ++ putF s.len bb.1).length) = _
    rw [List.length_append, s.bytes_len]
def Asc : Int → List BatD → Prop
  | _, [] => True
  | last, x :: xs => (0 ≤ x.1 ∧ x.1 < 2 ^ 64) ∧ checkC x.2 = 0 ∧ numC x.1 x.2.length ∧ last < x.1 ∧ Asc (x.1 + x.2.length - 1) xs
def encs (xs : List BatD) : List (List Int) := xs.map fun x => encB x.1 x.2
theorem recF_asc : ∀ {xs : List BatD} {last : Int}, Asc last xs → recF (encs xs) last = (xs, false)
  | [], _, _ => rfl
  | x :: xs, last, ⟨h0, h1, h2, h3, h4⟩ => by
    have e : allP batchP (encB x.1 x.2) = (0, x) := allP_enc (Ba.enc_batch h0 h1 h2)
    have ih := recF_asc h4
    show recF (encB x.1 x.2 :: encs xs) last = _
    unfold recF
    rw [e]
    dsimp only
    rw [if_neg (by omega), ih]
def lastB : Int → List BatD → Int
  | last, [] => last
  | _, x :: xs => lastB (x.1 + x.2.length - 1) xs
theorem Asc.snoc : ∀ {xs : List BatD} {last : Int}, Asc last xs → (0 ≤ x.1 ∧ x.1 < 2 ^ 64) → checkC x.2 = 0 → numC x.1 x.2.length → lastB last xs < x.1 → Asc last (xs ++ [x])
  | [], _, _, h0, h1, h2, h3 => ⟨h0, h1, h2, h3, trivial⟩
  | y :: xs, last, ⟨i0, i1, i2, i3, i4⟩, h0, h1, h2, h3 => ⟨i0, i1, i2, i3, Asc.snoc i4 h0 h1 h2 h3⟩
theorem logF_whole (h : IsLog sm 0 (encs xs) b es) (ha : Asc 0 xs) : logF b = (xs, 0) := by
  unfold logF
  rw [rdF_eq (Fr.Rd.whole hsm h)]
  dsimp only
  rw [recF_asc ha]
  rfl
theorem Log_snoc (h : IsLog sm 0 (encs xs) b es) (x : BatD) : IsLog sm 0 (encs (xs ++ [x])) (b ++ putF b.length (encB x.1 x.2)) (es ++ [b.length + (putF b.length (encB x.1 x.2)).length]) := by
  have := h.snoc (r := encB x.1 x.2) (o := putF b.length (encB x.1 x.2)) (by rw [Nat.zero_add]; exact putF_is _ _)
  rw [Nat.zero_add] at this
  unfold encs
  rw [List.map_append]
  exact this
end
end Go.Proofs.YtdcdgmiojlldaaaDoor.Wl
/- The disk: Crash; batches compared; alive. -/
namespace Go.Proofs.YtdcdgmiojlldaaaDoor.Wl
open Go Big Go.RowKit Go.IntWalk Var Low Par
set_option linter.unusedVariables false
set_option linter.unusedSimpArgs false
open Fr (sm hsm IsPut IsLog byEl upTo)
open Ba (bv opEl bytesB OpD batchP encB checkC numC rightO)
def crashN (f : List Int × Nat) (keep : Int) : Nat := f.2 + min (f.1.length - f.2) keep.toNat
def DS.crash (s : DS) (keep : Int) : DS := { s with file := s.file.map fun f => (f.1.take (crashN f keep), crashN f keep) }
section
variable {α : Type} {Q : α → Prop} {n m : Nat} {w w' w0 w1 : World} {A B C R : Option Addr} {l c c' d base e mb p b L rc : Nat} {k q cls keep : Int} {x r o zs : List Int} {rs : List (List Int)} {out xs ys : List BatD} {S S' T : Nat → Prop} {fp : Option Nat} {s : DS} {sync : Bool}
theorem Rt.ixBt (hs : SlE batEl w A l xs) {i : Int} (h0 : 0 ≤ i) (h1 : i < l) {f : Addr → Option α}
    (h : ∀ (x : BatD) (a : Addr) (B : Option Addr) (d : Nat), xs[i.toNat]? = some x → (0 ≤ x.1 ∧ x.1 < 2 ^ 64) → Ev opEl w B x.2.length d x.2 → w.cell? a = some (.int .u64 x.1) → w.cell? (Addr.add a 1) = some (.slice B x.2.length d) → Rt (f a) Q) : Rt (ixA A l i 2 f) Q := by
  refine Rt.ixe hs rfl h0 h1 fun x a us e1 _ e3 e4 => ?_
  obtain ⟨B, d, rfl, hx, hv⟩ := e3
  have c0 := e4 0 _ rfl
  rw [Addr.add_zero'] at c0
  exact h x a B d e1 hx hv c0 (e4 1 _ rfl)
theorem SameBs_l0 (hn : 2 ^ 62 < n) (hx : Ev batEl w0 A l c xs) (hy : Ev batEl w0 B l c' ys) (hl : l < 2 ^ 60) (hol : ∀ x ∈ xs, x.2.length < 2 ^ 62) : ∀ (q i j : Nat) (w : World), i + q = l → q < j → Kp w0 w → xs.take i = ys.take i →
    Rt (butteryref1_SameBatches.l0 n j A l c B l c' (i : Int) w) fun r => Kp w0 r.w ∧ (r.ex = .exit 0 ∧ r.vals = [] ∧ xs = ys ∨ r.ex = .ret ∧ r.vals = [.bool false] ∧ xs ≠ ys) := by
  intro q
  have hxl := hx.len
  have hyl := hy.len
  induction q with
  | zero =>
    intro i j w hi hj hk hr
    obtain ⟨j, rfl⟩ : ∃ j', j = j' + 1 := ⟨j - 1, by omega⟩
    rw [butteryref1_SameBatches.l0_succ]
    exact Rt.cDF (by omega) (Rt.some' ⟨hk, .inl ⟨rfl, rfl, by rwa [List.take_of_length_le (by omega), List.take_of_length_le (by omega)] at hr⟩⟩)
  | succ q ih =>
    intro i j w hi hj hk hr
    obtain ⟨j, rfl⟩ : ∃ j', j = j' + 1 := ⟨j - 1, by omega⟩
    rw [butteryref1_SameBatches.l0_succ]
    have hkd := hk.dr
    refine Rt.cDT (by omega) (Rt.ixBt (hx.kp hkd).sl (by omega) (by omega) fun x a B1 d1 ex hx0 hxv c0 c1 => ?_)
    rw [Int.toNat_natCast] at ex
    (repeat' (first|(with_reducible (first|apply Rt.fin|apply Rt.tL|apply Rt.tI|apply Rt.tB|apply Rt.tS|apply Rt.tP|apply Rt.tD|apply Rt.tM|apply Rt.tC|apply Rt.tN|apply Rt.tA|apply Rt.tG|apply Rt.tF|apply Rt.os|apply Rt.clS|apply Rt.jmN|apply Rt.jbN|apply Rt.jbE|apply Rt.ckR|exact Rt.some' rfl))|((with_reducible (first|apply Rt.ld0|apply Rt.ld1|apply Rt.ld2|apply Rt.ld3|apply Rt.ld4|apply Rt.ld5)); first|assumption|exact Lc.kp (by assumption) (by assumption))|((with_reducible apply Rt.ol); first|assumption|exact cell_kp (by assumption) (by assumption))|fail))
    refine Rt.ixBt (hy.kp hkd).sl (by omega) (by omega) fun y a' B2 d2 ey hy0 hyv c2 c3 => ?_
    rw [Int.toNat_natCast] at ey
    (repeat' (first|(with_reducible (first|apply Rt.fin|apply Rt.tL|apply Rt.tI|apply Rt.tB|apply Rt.tS|apply Rt.tP|apply Rt.tD|apply Rt.tM|apply Rt.tC|apply Rt.tN|apply Rt.tA|apply Rt.tG|apply Rt.tF|apply Rt.os|apply Rt.clS|apply Rt.jmN|apply Rt.jbN|apply Rt.jbE|apply Rt.ckR|exact Rt.some' rfl))|((with_reducible (first|apply Rt.ld0|apply Rt.ld1|apply Rt.ld2|apply Rt.ld3|apply Rt.ld4|apply Rt.ld5)); first|assumption|exact Lc.kp (by assumption) (by assumption))|((with_reducible apply Rt.ol); first|assumption|exact cell_kp (by assumption) (by assumption))|fail))
    have hxm := hol x (List.mem_of_getElem? ex)
    refine Rt.cBo (Ba.SameBatch_spec hxv hyv hxm (by omega)) fun b w2 hb k2 => ?_
    have k02 := hkd.tr k2
    have hne : x ≠ y → xs ≠ ys := fun h h' => by subst h'; rw [ex] at ey; exact h (Option.some.inj ey)
    cases b with
    | false =>
      refine Rt.cT rfl (Rt.some' ⟨k02, .inr ⟨rfl, rfl, hne fun h => ?_⟩⟩)
      subst h
      have := hb.2 ⟨rfl, rfl⟩
      cases this
    | true =>
      have hxy : x = y := Prod.ext (hb.1 rfl).1 (hb.1 rfl).2
      subst hxy
      refine Rt.cF rfl ?_
      have e2 : IntKind.i64.wrap ((i : Int) + 1) = ((i + 1 : Nat) : Int) := by rw [i64_in _ (by omega)]; omega
      rw [e2]
      refine ih (i + 1) j w2 (by omega) (by omega) k02 ?_
      obtain ⟨h1, h2⟩ := List.getElem?_eq_some_iff.1 ex
      obtain ⟨h3, h4⟩ := List.getElem?_eq_some_iff.1 ey
      rw [List.take_succ_eq_append_getElem h1, List.take_succ_eq_append_getElem h3, hr, h2, h4]
theorem SameBs_spec (hn : 2 ^ 63 < n) (hx : Ev batEl w A l c xs) (hy : Ev batEl w B m c' ys) (hl : l < 2 ^ 60) (hol : ∀ x ∈ xs, x.2.length < 2 ^ 62) : Rt (butteryref1_SameBatches n [.slice A l c, .slice B m c'] w) (RB (xs = ys) w) := by
  have hxl := hx.len
  have hyl := hy.len
  rw [butteryref1_SameBatches_eq]
  refine Rt.fin (Rt.cN (fun h => ?_) fun h => ?_)
  · have : l = m := by omega
    subst this
    refine Rt.jb (Rt.mono (SameBs_l0 (n := n) (by omega) hx hy hl hol l 0 n w (by omega) (by omega) (Kp.rfl' w) rfl) ?_)
    rintro ⟨ex, vs, w1⟩ ⟨k1, ⟨h2, h3, h4⟩ | ⟨h2, h3, h4⟩⟩
    · dsimp only at k1 h2 h3; subst h2 h3
      refine .inl ⟨.inr rfl, ?_⟩
      (repeat' (first|(with_reducible (first|apply Rt.fin|apply Rt.tL|apply Rt.tI|apply Rt.tB|apply Rt.tS|apply Rt.tP|apply Rt.tD|apply Rt.tM|apply Rt.tC|apply Rt.tN|apply Rt.tA|apply Rt.tG|apply Rt.tF|apply Rt.os|apply Rt.clS|apply Rt.jmN|apply Rt.jbN|apply Rt.jbE|apply Rt.ckR|exact Rt.some' rfl))|((with_reducible (first|apply Rt.ld0|apply Rt.ld1|apply Rt.ld2|apply Rt.ld3|apply Rt.ld4|apply Rt.ld5)); first|assumption|exact Lc.kp (by assumption) (by assumption))|((with_reducible apply Rt.ol); first|assumption|exact cell_kp (by assumption) (by assumption))|fail))
      exact Rt.endB (by simpa using h4) k1
    · dsimp only at k1 h2 h3; subst h2 h3
      exact .inr ⟨rfl, rfl, false, w1, rfl, by simpa using h4, k1⟩
  · exact Rt.endB (by simp only [Bool.false_eq_true, false_iff]; intro h'; subst h'; omega) (Kp.rfl' w)
end
end Go.Proofs.YtdcdgmiojlldaaaDoor.Wl
/- The disk: Crash; alive. -/
namespace Go.Proofs.YtdcdgmiojlldaaaDoor.Wl
open Go Big Go.RowKit Go.IntWalk Var Low Par
set_option linter.unusedVariables false
set_option linter.unusedSimpArgs false
open Fr (sm hsm IsPut IsLog byEl upTo)
open Ba (bv opEl bytesB OpD batchP encB checkC numC rightO)
section
variable {α : Type} {Q : α → Prop} {n m : Nat} {w w' w0 w1 : World} {A B C R : Option Addr} {l c c' d base e mb p b L rc : Nat} {k q cls keep : Int} {x r o zs : List Int} {rs : List (List Int)} {out xs ys : List BatD} {S S' T : Nat → Prop} {fp : Option Nat} {s : DS} {sync : Bool}
theorem on_len {l' c' j : Nat} (h : On (.slice B l c) j) : On (.slice B l' c') j := by
  cases B <;> exact h
theorem Own.cut0 {K : IntKind} {zs : List Int} (h : Own K e w base (.slice A zs.length c) zs) {i : Nat} (hi : i ≤ zs.length) {f : Option Addr → Nat → Nat → Option α} (hf : Own K e w base (.slice A i c) (zs.take i) → Rt (f A i c) Q) : Rt (cutS A c 0 (i : Int) 1 f) Q := by
  rcases h.2 with ⟨h', hn'⟩ | ⟨g, cap, cur, h', hb, hg, hnc, hcm, _⟩
  · injection h' with h1 h2 h3
    subst h1 h3
    have hi0 : i = 0 := by omega
    subst hi0
    exact hf (by rw [List.take_zero]; exact Own.nil w base)
  · injection h' with h1 h2 h3
    subst h1 h3
    have e1 : ∀ x, (if c = (0 : Int).toNat then (some (⟨g, 0, none⟩ : Addr)) else x) = if c = 0 then some ⟨g, 0, none⟩ else x := fun _ => rfl
    rw [cutS, if_pos ⟨Int.le_refl _, by omega, by omega⟩, show (if c = (0 : Int).toNat then (some (⟨g, 0, none⟩ : Addr)) else (some (⟨g, 0, none⟩ : Addr)).map (·.add ((0 : Int).toNat * 1))) = some ⟨g, 0, none⟩ by split <;> rfl]
    exact hf (Own.less h hi)
theorem Crash_spec (h : Dk w S d s) (hn : 10 < n) : Rt (disk_Disk_Crash n [pt d, .int .i64 keep] w) fun r => ∃ w', r = ([], w') ∧ Dk w' S d (s.crash keep) ∧ Gx S w w' := by
  obtain ⟨mb, fp, A, c, hd⟩ := h
  have hl := hd.lc
  rw [disk_Disk_Crash_eq]
  refine Rt.fin ?_
  (repeat' (first|(with_reducible (first|apply Rt.fin|apply Rt.tL|apply Rt.tI|apply Rt.tB|apply Rt.tS|apply Rt.tP|apply Rt.tD|apply Rt.tM|apply Rt.tC|apply Rt.tN|apply Rt.tA|apply Rt.tG|apply Rt.tF|apply Rt.os|apply Rt.clS|apply Rt.jmN|apply Rt.jbN|apply Rt.jbE|apply Rt.ckR|exact Rt.some' rfl))|((with_reducible (first|apply Rt.ld0|apply Rt.ld1|apply Rt.ld2|apply Rt.ld3|apply Rt.ld4|apply Rt.ld5)); first|assumption|exact Lc.kp (by assumption) (by assumption))|((with_reducible apply Rt.ol); first|assumption|exact cell_kp (by assumption) (by assumption))|fail))
  refine Rt.st2 hl fun w2 l2 g2 => ?_
  (repeat' (first|(with_reducible (first|apply Rt.fin|apply Rt.tL|apply Rt.tI|apply Rt.tB|apply Rt.tS|apply Rt.tP|apply Rt.tD|apply Rt.tM|apply Rt.tC|apply Rt.tN|apply Rt.tA|apply Rt.tG|apply Rt.tF|apply Rt.os|apply Rt.clS|apply Rt.jmN|apply Rt.jbN|apply Rt.jbE|apply Rt.ckR|exact Rt.some' rfl))|((with_reducible (first|apply Rt.ld0|apply Rt.ld1|apply Rt.ld2|apply Rt.ld3|apply Rt.ld4|apply Rt.ld5)); first|assumption|exact Lc.kp (by assumption) (by assumption))|((with_reducible apply Rt.ol); first|assumption|exact cell_kp (by assumption) (by assumption))|fail))
  refine Rt.range (hd.fm.gx g2 hd.ne) fun w3 r3 k3 s3 => ?_
  refine Rt.tD ?_
  obtain ⟨m, rfl⟩ := Nat.exists_eq_add_of_le' (show 2 ≤ n by omega)
  rw [disk_Disk_Crash.l0_succ]
  have l3 := l2.kp k3
  have hsd := hd.lt
  have hw2 := g2.size
  have hit : ∀ j, S j → j ≠ w2.heap.size := fun j hj => by have := hsd j hj; omega
  cases hf : s.file with
  | none =>
    have hfl := hd.fl
    obtain rfl := hfl.none_iff.2 hf
    refine Rt.jb (Rt.next0 r3 ?_)
    refine Rt.some' (.inl ⟨.inr rfl, ?_⟩)
    (repeat' (first|(with_reducible (first|apply Rt.fin|apply Rt.tL|apply Rt.tI|apply Rt.tB|apply Rt.tS|apply Rt.tP|apply Rt.tD|apply Rt.tM|apply Rt.tC|apply Rt.tN|apply Rt.tA|apply Rt.tG|apply Rt.tF|apply Rt.os|apply Rt.clS|apply Rt.jmN|apply Rt.jbN|apply Rt.jbE|apply Rt.ckR|exact Rt.some' rfl))|((with_reducible (first|apply Rt.ld0|apply Rt.ld1|apply Rt.ld2|apply Rt.ld3|apply Rt.ld4|apply Rt.ld5)); first|assumption|exact Lc.kp (by assumption) (by assumption))|((with_reducible apply Rt.ol); first|assumption|exact cell_kp (by assumption) (by assumption))|fail))
    have gg : Gx (fun j => j = d) w w3 := g2.tr k3.gx
    refine Rt.some' ⟨rfl, w3, rfl, ⟨mb, none, A, c, ?_⟩, gg.wide fun j _ hj => hj ▸ hd.sd⟩
    refine DxA.turn hd gg (fun j hj hO => (hd.sf j hO).2.1 hj) (fun _ h => h) (fun j hj => Nat.lt_of_lt_of_le (hsd j hj) gg.size) ?_ rfl rfl ?_ r3.fm
    · have e : (s.crash keep).len = 0 := by unfold DS.len DS.crash; rw [hf]; rfl
      rw [e]; exact l3
    · show Fl w3 S _ none (s.file.map _)
      rw [hf]; exact trivial
  | some f =>
    have hfl := hd.fl
    rw [hf] at hfl
    obtain ⟨p, rfl, i1, i2, i3, i4, i5, B, e, hp, i6, i7⟩ := hfl.some'
    have npd : p ≠ d := fun h => i2 (.inl h)
    have npi := hit p i1
    refine Rt.jb (Rt.next1 r3 fun w4 r4 g4 => ?_)
    show Rt (tP (pt p) _) _
    have gT : Gx (fun j => j = d ∨ j = w2.heap.size) w w4 := ((g2.wide fun j _ h => .inl h).tr k3.gx).tr' (g4.wide fun j _ h => .inr h) fun j _ h => h
    have hp4 : Lc w4 p [.slice B f.1.length e, .int .i64 (f.2 : Int)] := hp.gx gT fun h => h.elim npd npi
    have o4 : Own .u8 5 w4 0 (.slice B f.1.length e) f.1 := i6.gx gT fun j hj h => h.elim (fun h => (i7 j hj).2.1 (.inl h)) (hit j (i7 j hj).1)
    have l4 := l3.gx g4 (hit d hd.sd)
    have kd : Kp w4 w4.drew.drew := (Kp.rfl' w4).dr.dr
    have hp4d := hp4.kp (Kp.rfl' w4).dr
    have hp4dd := hp4.kp kd
    (repeat' (first|(with_reducible (first|apply Rt.fin|apply Rt.tL|apply Rt.tI|apply Rt.tB|apply Rt.tS|apply Rt.tP|apply Rt.tD|apply Rt.tM|apply Rt.tC|apply Rt.tN|apply Rt.tA|apply Rt.tG|apply Rt.tF|apply Rt.os|apply Rt.clS|apply Rt.jmN|apply Rt.jbN|apply Rt.jbE|apply Rt.ckR|exact Rt.some' rfl))|((with_reducible (first|apply Rt.ld0|apply Rt.ld1|apply Rt.ld2|apply Rt.ld3|apply Rt.ld4|apply Rt.ld5)); first|assumption|exact Lc.kp (by assumption) (by assumption))|((with_reducible apply Rt.ol); first|assumption|exact cell_kp (by assumption) (by assumption))|fail))
    have e1 : IntKind.i64.wrap ((f.1.length : Int) - f.2) = ((f.1.length - f.2 : Nat) : Int) := by rw [i64_in _ (by omega)]; omega
    have e2 : IntKind.i64.wrap ((f.2 : Int) + if IntKind.i64.wrap ((f.1.length : Int) - f.2) < (if 0 < keep then keep else 0) then IntKind.i64.wrap ((f.1.length : Int) - f.2) else (if 0 < keep then keep else 0)) = (crashN f keep : Int) := by
      rw [e1]
      have e3 : (if ((f.1.length - f.2 : Nat) : Int) < (if 0 < keep then keep else 0) then ((f.1.length - f.2 : Nat) : Int) else (if 0 < keep then keep else 0)) = ((min (f.1.length - f.2) keep.toNat : Nat) : Int) := by
        split <;> split at * <;> omega
      rw [e3, i64_in _ (by omega)]
      unfold crashN
      omega
    rw [e2]
    have hcn : crashN f keep ≤ f.1.length := by unfold crashN; omega
    refine Own.cut0 (o4.kp kd) hcn fun o5 => ?_
    (repeat' (first|(with_reducible (first|apply Rt.fin|apply Rt.tL|apply Rt.tI|apply Rt.tB|apply Rt.tS|apply Rt.tP|apply Rt.tD|apply Rt.tM|apply Rt.tC|apply Rt.tN|apply Rt.tA|apply Rt.tG|apply Rt.tF|apply Rt.os|apply Rt.clS|apply Rt.jmN|apply Rt.jbN|apply Rt.jbE|apply Rt.ckR|exact Rt.some' rfl))|((with_reducible (first|apply Rt.ld0|apply Rt.ld1|apply Rt.ld2|apply Rt.ld3|apply Rt.ld4|apply Rt.ld5)); first|assumption|exact Lc.kp (by assumption) (by assumption))|((with_reducible apply Rt.ol); first|assumption|exact cell_kp (by assumption) (by assumption))|fail))
    refine Rt.st0 hp4dd fun w6 l6 g6 => ?_
    (repeat' (first|(with_reducible (first|apply Rt.fin|apply Rt.tL|apply Rt.tI|apply Rt.tB|apply Rt.tS|apply Rt.tP|apply Rt.tD|apply Rt.tM|apply Rt.tC|apply Rt.tN|apply Rt.tA|apply Rt.tG|apply Rt.tF|apply Rt.os|apply Rt.clS|apply Rt.jmN|apply Rt.jbN|apply Rt.jbE|apply Rt.ckR|exact Rt.some' rfl))|((with_reducible (first|apply Rt.ld0|apply Rt.ld1|apply Rt.ld2|apply Rt.ld3|apply Rt.ld4|apply Rt.ld5)); first|assumption|exact Lc.kp (by assumption) (by assumption))|((with_reducible apply Rt.ol); first|assumption|exact cell_kp (by assumption) (by assumption))|fail))
    refine Rt.st1 l6 fun w7 l7 g7 => ?_
    have l7d := ((((l4.kp kd).gx g6 (fun h => npd h.symm)).gx g7 (fun h => npd h.symm)).kp (Kp.rfl' w7).dr)
    have l7p := l7.kp (Kp.rfl' w7).dr
    (repeat' (first|(with_reducible (first|apply Rt.fin|apply Rt.tL|apply Rt.tI|apply Rt.tB|apply Rt.tS|apply Rt.tP|apply Rt.tD|apply Rt.tM|apply Rt.tC|apply Rt.tN|apply Rt.tA|apply Rt.tG|apply Rt.tF|apply Rt.os|apply Rt.clS|apply Rt.jmN|apply Rt.jbN|apply Rt.jbE|apply Rt.ckR|exact Rt.some' rfl))|((with_reducible (first|apply Rt.ld0|apply Rt.ld1|apply Rt.ld2|apply Rt.ld3|apply Rt.ld4|apply Rt.ld5)); first|assumption|exact Lc.kp (by assumption) (by assumption))|((with_reducible apply Rt.ol); first|assumption|exact cell_kp (by assumption) (by assumption))|fail))
    refine Rt.st2 l7d fun w8 l8 g8 => ?_
    have gU : Gx (fun j => j = p ∨ j = d) w4 w8 := (kd.gx.tr ((g6.tr g7).wide fun j _ h => .inl h)).dr.tr (g8.wide fun j _ h => .inr h)
    have e3 : IntKind.i64.wrap (0 + (crashN f keep : Int)) = (crashN f keep : Int) := by rw [i64_in _ (by omega)]; omega
    rw [e3] at l8
    have r8 := r4.gx gU (fun h => h.elim (fun h => i2 (.inr (.inl h.symm))) hd.ne) (fun h => h.elim (fun h => npi h.symm) fun h => hit d hd.sd h.symm)
    rw [disk_Disk_Crash.l0_succ]
    refine Rt.next0 r8 ?_
    refine Rt.some' (.inl ⟨.inr rfl, ?_⟩)
    (repeat' (first|(with_reducible (first|apply Rt.fin|apply Rt.tL|apply Rt.tI|apply Rt.tB|apply Rt.tS|apply Rt.tP|apply Rt.tD|apply Rt.tM|apply Rt.tC|apply Rt.tN|apply Rt.tA|apply Rt.tG|apply Rt.tF|apply Rt.os|apply Rt.clS|apply Rt.jmN|apply Rt.jbN|apply Rt.jbE|apply Rt.ckR|exact Rt.some' rfl))|((with_reducible (first|apply Rt.ld0|apply Rt.ld1|apply Rt.ld2|apply Rt.ld3|apply Rt.ld4|apply Rt.ld5)); first|assumption|exact Lc.kp (by assumption) (by assumption))|((with_reducible apply Rt.ol); first|assumption|exact cell_kp (by assumption) (by assumption))|fail))
    have gA : Gx (fun j => j = d ∨ j = p ∨ j = w2.heap.size) w w8 := (gT.wide fun j _ h => h.imp id .inr).tr (gU.wide fun j _ h => h.elim (fun h => .inr (.inl h)) .inl)
    have gS : Gx S w w8 := gA.wide fun j hj h => h.elim (fun h => h ▸ hd.sd) fun h => h.elim (fun h => h ▸ i1) fun h => by omega
    refine Rt.some' ⟨rfl, w8, rfl, ⟨mb, some p, A, c, ?_⟩, gS⟩
    have hfile : (s.crash keep).file = some (f.1.take (crashN f keep), crashN f keep) := by unfold DS.crash; rw [hf]; rfl
    have hlt : (f.1.take (crashN f keep)).length = crashN f keep := by rw [List.length_take]; omega
    have o8 : Own .u8 5 w8 0 (.slice B (crashN f keep) e) (f.1.take (crashN f keep)) := ((o5.gx (g6.tr g7) fun j hj h => (i7 j (on_len hj)).2.2 h).dr).gx g8 fun j hj h => (i7 j (on_len hj)).2.1 (.inl h)
    refine DxA.turn hd gA (fun j hj hO => ?_) (fun _ h => h) (fun j hj => Nat.lt_of_lt_of_le (hsd j hj) gS.size) ?_ rfl rfl ?_ r8.fm
    · rcases hj with h | h | h
      · exact (hd.sf j hO).2.1 h
      · exact i2 (h ▸ .inr (.inr hO))
      · exact hit j (hd.sf j hO).1 h
    · have e : (s.crash keep).len = crashN f keep := by unfold DS.len; rw [hfile]; exact hlt
      rw [e]; exact l8
    · rw [hfile]
      refine ⟨i1, i2, fun z hz => i3 z (List.mem_of_mem_take hz), by rw [hlt]; exact Nat.le_refl _, by rw [hlt]; omega, B, e, ?_, ?_, fun j hj => i7 j (on_len hj)⟩
      · show Lc w8 p [.slice B (f.1.take (crashN f keep)).length e, .int .i64 (crashN f keep : Int)]
        rw [hlt]
        exact l7p.gx g8 npd
      · show Own .u8 5 w8 0 (.slice B (f.1.take (crashN f keep)).length e) (f.1.take (crashN f keep))
        rw [hlt]; exact o8
theorem num8_spec (e : Int) : butterylaw8_num n [.int .i64 e] w = some ([.int .i64 e], w) := by rw [butterylaw8_num_eq, fin_ret]
theorem bytesB_good {q : Int} {ops : List OpD} (hc : checkC ops = 0) (hnum : numC q ops.length) : bytesB q ops = (encB q ops, 0) := by
  have h1 := Ba.checkC_ok.1 hc
  unfold Ba.bytesB
  simp [hc, hnum]
theorem one_good {q : Int} {o : OpD} (ho : rightO o) (h1 : 1 ≤ q) (h2 : q ≤ 72057594037927935) : checkC [o] = 0 ∧ numC q [o].length := by
  refine ⟨Ba.checkC_ok.2 ⟨by simp, by simp, fun o' h => ?_⟩, h1, h2, ?_⟩
  · rw [List.mem_singleton.1 h]; exact ho
  · simp; omega
theorem putF_len (a : Nat) (r : List Int) : 7 + r.length ≤ (putF a r).length ∧ (putF a r).length ≤ 20 + 2 * r.length := (putF_is a r).len
def oA : OpD := ⟨0, [97], []⟩
theorem oA_right : rightO oA := ⟨.inl ⟨rfl, rfl⟩, by decide, by decide, by decide⟩
theorem encB_one {o : OpD} (hk : o.key.length < 2 ^ 63) (hv : o.val.length < 2 ^ 63) : (encB q [o]).length ≤ 33 + o.key.length + o.val.length := by
  have h1 := Ba.enc_len10 (x := o.key.length) (by omega)
  have h2 := Ba.enc_len10 (x := o.val.length) (by omega)
  have e : (encB q [o]).length = 12 + (Ba.encO o).length := by
    unfold Ba.encB Ba.bodyB
    simp [lowB_len]; omega
  rw [e]
  unfold Ba.encO
  split <;> simp <;> omega
theorem rec_none (hf : s.fails = []) (h : s.file = none) : s.rec_ = (([], 0, 8), s) := by
  unfold DS.rec_
  rw [s.open_nil hf, if_pos h, if_pos (by simp)]
theorem rec_some (hf : s.fails = []) {f : List Int × Nat} (h : s.file = some f) : s.rec_ = (((logF s.bytes).1, (logF s.bytes).2, 0), s) := by
  unfold DS.rec_
  rw [s.open_nil hf, h, if_neg (by simp)]
  dsimp only
  rw [s.open_nil hf, h, if_neg (by simp)]
structure LogD (w0 w : World) (d : Nat) (xs : List BatD) (s : DS) : Prop where
  dk : ∃ S, Dk w S d s ∧ (∀ j, S j → w0.heap.size ≤ j)
  kp : Kp w0 w
  fa : s.fails = []
  lg : ∃ es, IsLog sm 0 (encs xs) s.bytes es
  asc : Asc 0 xs
theorem LogD.kp' (h : LogD w0 w d xs s) (k : Kp w w') : LogD w0 w' d xs s := by
  obtain ⟨⟨S, h1, h2⟩, h3, h4, h5, h6⟩ := h
  exact ⟨⟨S, h1.kp k, h2⟩, h3.tr k, h4, h5, h6⟩
theorem LogD.new {room : Int} (hr : room < 2 ^ 63) : Rt (disk_New n [.int .i64 room] w) fun r => ∃ d w', r = ([pt d], w') ∧ LogD w w' d [] ⟨if 0 < room then room else 0, none, [], 0⟩ := by
  obtain ⟨_, hr1, d, w1, S, rfl, h1, k1, hS⟩ := New_spec (n := n) (w := w) hr
  exact ⟨_, hr1, d, w1, rfl, ⟨S, h1, hS⟩, k1, rfl, ⟨[], .nil⟩, trivial⟩
noncomputable def DS.with (s : DS) (x : BatD) (sync : Bool) : DS := { s with file := some (s.bytes ++ putF s.len (encB x.1 x.2), if sync = true then s.len + (putF s.len (encB x.1 x.2)).length else s.sy) }
theorem LogD.app (h : LogD w0 w d xs s) {x : BatD} (hx0 : 0 ≤ x.1 ∧ x.1 < 2 ^ 64) (hc : checkC x.2 = 0) (hnum : numC x.1 x.2.length) (hla : lastB 0 xs < x.1) (hx : Ev opEl w A l c x.2)
    (h1 : s.len + (20 + 2 * (encB x.1 x.2).length) ≤ 16777216) (h2 : ((s.len + (20 + 2 * (encB x.1 x.2).length) : Nat) : Int) ≤ s.room) (hn : 2 ^ 50 < n) :
    Rt (wal_Append n [pt d, .string nl, bv x.1 A l c, .bool sync] w) fun r => ∃ w', r = ([.int .i64 0], w') ∧ LogD w0 w' d (xs ++ [x]) (s.with x sync) := by
  obtain ⟨⟨S, hd, hS⟩, hk, hf, ⟨es, hlg⟩, hasc⟩ := h
  have hb := bytesB_good hc hnum
  have hp := putF_len s.len (encB x.1 x.2)
  have e := DS.wapp_nil (bb := bytesB x.1 x.2) (sync := sync) hf (by rw [hb]) (by rw [hb]; dsimp only; omega) (by rw [hb]; dsimp only; omega)
  obtain ⟨_, hr, w2, S2, rfl, g2, hs2, h2⟩ := WApp_spec (sync := sync) hd hx0 hx hn
  rw [e] at hr h2
  rw [hb] at h2
  refine ⟨_, hr, w2, rfl, ⟨S2, h2, fun j hj => (hs2 j hj).elim (hS j) fun h => Nat.le_trans hk.size h⟩, hk.tx g2 hS, hf, ?_, hasc.snoc hx0 hc hnum hla⟩
  have := Log_snoc hlg x
  rw [s.bytes_len] at this
  exact ⟨_, this⟩
theorem LogD.rec_ (h : LogD w0 w d xs s) (hne : s.file ≠ none) (hn : 2 ^ 59 < n) : Rt (wal_Recover n [pt d, .string nl] w) fun r => ∃ A c w', r = ([.slice A xs.length c, .int .i64 0, .int .i64 0], w') ∧ Ev batEl w' A xs.length c xs ∧ Kp w0 w' := by
  obtain ⟨⟨S, hd, hS⟩, hk, hf, ⟨es, hlg⟩, hasc⟩ := h
  obtain ⟨f, hf'⟩ := Option.ne_none_iff_exists'.1 hne
  have e : s.rec_ = ((xs, 0, 0), s) := by rw [rec_some hf hf', logF_whole hlg hasc]
  obtain ⟨_, hr, A, c, w2, rfl, o2, h2, g2⟩ := Recover_spec hd hn
  rw [e] at hr o2
  exact ⟨_, hr, A, c, w2, rfl, o2.ownE.ev, hk.tx g2 hS⟩
theorem rec_empty (h : LogD w0 w d xs s) (hne : s.file = none) (hn : 2 ^ 59 < n) : Rt (wal_Recover n [pt d, .string nl] w) fun r => ∃ w' A c, r = ([.slice A 0 c, .int .i64 0, .int .i64 8], w') ∧ LogD w0 w' d xs s := by
  obtain ⟨⟨S, hd, hS⟩, hk, hf, hl, hasc⟩ := h
  obtain ⟨_, hr, A, c, w2, rfl, o2, h2, g2⟩ := Recover_spec hd hn
  rw [rec_none hf hne] at hr h2
  exact ⟨_, hr, w2, A, c, rfl, ⟨S, h2, hS⟩, hk.tx g2 hS, hf, hl, hasc⟩
end
end Go.Proofs.YtdcdgmiojlldaaaDoor.Wl
/- WAL: alive. -/
namespace Go.Proofs.YtdcdgmiojlldaaaDoor.Wl
open Go Big Go.RowKit Go.IntWalk Var Low Par
set_option linter.unusedVariables false
set_option linter.unusedSimpArgs false
open Fr (sm hsm IsPut IsLog byEl upTo)
open Ba (bv opEl bytesB OpD batchP encB checkC numC rightO)
section
variable {α : Type} {Q : α → Prop} {n m : Nat} {w w' w0 w1 : World} {A B C R : Option Addr} {l c c' d base e mb p b L rc : Nat} {k q cls keep : Int} {x r o zs : List Int} {rs : List (List Int)} {out xs ys : List BatD} {S S' T : Nat → Prop} {fp : Option Nat} {s : DS} {sync : Bool}
theorem nilB (w : World) : Bv .u8 w none 0 0 [] := ⟨Sl.nil .., fun _ => ⟨rfl, rfl⟩, Nat.le_refl _, Nat.zero_le _, by simp⟩
theorem op_lc {b : Nat} {o : OpD} (hl : Lc w b [.int .i64 o.kind, .slice A l c, .slice B m d]) (hk : (Lit.int .i64 o.kind).wf = true) (h1 : Bv .u8 w A l c o.key) (h2 : Bv .u8 w B m d o.val) : Ev opEl w (some ⟨b, 0, none⟩) 1 1 [o] :=
  Lc.ev1 hl ⟨_, _, _, _, _, _, _, rfl, rfl, hk, h1, h2⟩ rfl
theorem alive_spec (hn : 2 ^ 63 < n) : Rt (butterylaw8_alive n [] w) (RB True w) := by
  rw [butterylaw8_alive_eq]
  refine Rt.fin ?_
  obtain ⟨_, hr1, d, w1, rfl, h1⟩ := LogD.new (n := n) (w := w) (room := 1000) (by omega)
  refine Rt.cl hr1 ?_
  (repeat' (first|(with_reducible (first|apply Rt.fin|apply Rt.tL|apply Rt.tI|apply Rt.tB|apply Rt.tS|apply Rt.tP|apply Rt.tD|apply Rt.tM|apply Rt.tC|apply Rt.tN|apply Rt.tA|apply Rt.tG|apply Rt.tF|apply Rt.os|apply Rt.clS|apply Rt.jmN|apply Rt.jbN|apply Rt.jbE|apply Rt.ckR|exact Rt.some' rfl))|((with_reducible (first|apply Rt.ld0|apply Rt.ld1|apply Rt.ld2|apply Rt.ld3|apply Rt.ld4|apply Rt.ld5)); first|assumption|exact Lc.kp (by assumption) (by assumption))|((with_reducible apply Rt.ol); first|assumption|exact cell_kp (by assumption) (by assumption))|fail))
  obtain ⟨_, hr2, w2, A2, c2, rfl, h2⟩ := rec_empty (n := n) h1 rfl (by omega)
  refine Rt.cl hr2 ?_
  (repeat' (first|(with_reducible (first|apply Rt.fin|apply Rt.tL|apply Rt.tI|apply Rt.tB|apply Rt.tS|apply Rt.tP|apply Rt.tD|apply Rt.tM|apply Rt.tC|apply Rt.tN|apply Rt.tA|apply Rt.tG|apply Rt.tF|apply Rt.os|apply Rt.clS|apply Rt.jmN|apply Rt.jbN|apply Rt.jbE|apply Rt.ckR|exact Rt.some' rfl))|((with_reducible (first|apply Rt.ld0|apply Rt.ld1|apply Rt.ld2|apply Rt.ld3|apply Rt.ld4|apply Rt.ld5)); first|assumption|exact Lc.kp (by assumption) (by assumption))|((with_reducible apply Rt.ol); first|assumption|exact cell_kp (by assumption) (by assumption))|fail))
  refine Rt.lit Fr.conv [97] 1 rfl rfl (by decide) (by decide) fun A3 w3 b3 k3 => ?_
  (repeat' (first|(with_reducible (first|apply Rt.fin|apply Rt.tL|apply Rt.tI|apply Rt.tB|apply Rt.tS|apply Rt.tP|apply Rt.tD|apply Rt.tM|apply Rt.tC|apply Rt.tN|apply Rt.tA|apply Rt.tG|apply Rt.tF|apply Rt.os|apply Rt.clS|apply Rt.jmN|apply Rt.jbN|apply Rt.jbE|apply Rt.ckR|exact Rt.some' rfl))|((with_reducible (first|apply Rt.ld0|apply Rt.ld1|apply Rt.ld2|apply Rt.ld3|apply Rt.ld4|apply Rt.ld5)); first|assumption|exact Lc.kp (by assumption) (by assumption))|((with_reducible apply Rt.ol); first|assumption|exact cell_kp (by assumption) (by assumption))|fail))
  refine Rt.al fun w4 l4 k4 s4 => ?_
  have h4 := (h2.kp' k3).kp' k4
  obtain ⟨hc, hnum⟩ := one_good (q := 1) oA_right (by omega) (by omega)
  have hel : (encB 1 [oA]).length ≤ 34 := encB_one (o := oA) (by decide) (by decide)
  obtain ⟨_, hr5, w5, rfl, h5⟩ := LogD.app (n := n) (sync := true) h4 (x := (1, [oA])) (by decide) hc hnum (by decide) (op_lc l4 (by decide) (b3.kp k4) (nilB w4)) (by show 0 + (20 + 2 * (encB 1 [oA]).length) ≤ _; omega) (by show ((0 + (20 + 2 * (encB 1 [oA]).length) : Nat) : Int) ≤ (if (0 : Int) < 1000 then 1000 else 0); rw [if_pos (by omega)]; omega) (by omega)
  refine Rt.cl hr5 ?_
  (repeat' (first|(with_reducible (first|apply Rt.fin|apply Rt.tL|apply Rt.tI|apply Rt.tB|apply Rt.tS|apply Rt.tP|apply Rt.tD|apply Rt.tM|apply Rt.tC|apply Rt.tN|apply Rt.tA|apply Rt.tG|apply Rt.tF|apply Rt.os|apply Rt.clS|apply Rt.jmN|apply Rt.jbN|apply Rt.jbE|apply Rt.ckR|exact Rt.some' rfl))|((with_reducible (first|apply Rt.ld0|apply Rt.ld1|apply Rt.ld2|apply Rt.ld3|apply Rt.ld4|apply Rt.ld5)); first|assumption|exact Lc.kp (by assumption) (by assumption))|((with_reducible apply Rt.ol); first|assumption|exact cell_kp (by assumption) (by assumption))|fail))
  obtain ⟨_, hr6, A6, c6, w6, rfl, e6, k6⟩ := LogD.rec_ (n := n) h5 (by unfold DS.with; simp) (by omega)
  refine Rt.cl hr6 ?_
  (repeat' (first|(with_reducible (first|apply Rt.fin|apply Rt.tL|apply Rt.tI|apply Rt.tB|apply Rt.tS|apply Rt.tP|apply Rt.tD|apply Rt.tM|apply Rt.tC|apply Rt.tN|apply Rt.tA|apply Rt.tG|apply Rt.tF|apply Rt.os|apply Rt.clS|apply Rt.jmN|apply Rt.jbN|apply Rt.jbE|apply Rt.ckR|exact Rt.some' rfl))|((with_reducible (first|apply Rt.ld0|apply Rt.ld1|apply Rt.ld2|apply Rt.ld3|apply Rt.ld4|apply Rt.ld5)); first|assumption|exact Lc.kp (by assumption) (by assumption))|((with_reducible apply Rt.ol); first|assumption|exact cell_kp (by assumption) (by assumption))|fail))
  rw [num8_spec]
  (repeat' (first|(with_reducible (first|apply Rt.fin|apply Rt.tL|apply Rt.tI|apply Rt.tB|apply Rt.tS|apply Rt.tP|apply Rt.tD|apply Rt.tM|apply Rt.tC|apply Rt.tN|apply Rt.tA|apply Rt.tG|apply Rt.tF|apply Rt.os|apply Rt.clS|apply Rt.jmN|apply Rt.jbN|apply Rt.jbE|apply Rt.ckR|exact Rt.some' rfl))|((with_reducible (first|apply Rt.ld0|apply Rt.ld1|apply Rt.ld2|apply Rt.ld3|apply Rt.ld4|apply Rt.ld5)); first|assumption|exact Lc.kp (by assumption) (by assumption))|((with_reducible apply Rt.ol); first|assumption|exact cell_kp (by assumption) (by assumption))|fail))
  refine Rt.cT rfl ?_
  rw [num8_spec]
  (repeat' (first|(with_reducible (first|apply Rt.fin|apply Rt.tL|apply Rt.tI|apply Rt.tB|apply Rt.tS|apply Rt.tP|apply Rt.tD|apply Rt.tM|apply Rt.tC|apply Rt.tN|apply Rt.tA|apply Rt.tG|apply Rt.tF|apply Rt.os|apply Rt.clS|apply Rt.jmN|apply Rt.jbN|apply Rt.jbE|apply Rt.ckR|exact Rt.some' rfl))|((with_reducible (first|apply Rt.ld0|apply Rt.ld1|apply Rt.ld2|apply Rt.ld3|apply Rt.ld4|apply Rt.ld5)); first|assumption|exact Lc.kp (by assumption) (by assumption))|((with_reducible apply Rt.ol); first|assumption|exact cell_kp (by assumption) (by assumption))|fail))
  refine Rt.cT rfl ?_
  rw [num8_spec]
  (repeat' (first|(with_reducible (first|apply Rt.fin|apply Rt.tL|apply Rt.tI|apply Rt.tB|apply Rt.tS|apply Rt.tP|apply Rt.tD|apply Rt.tM|apply Rt.tC|apply Rt.tN|apply Rt.tA|apply Rt.tG|apply Rt.tF|apply Rt.os|apply Rt.clS|apply Rt.jmN|apply Rt.jbN|apply Rt.jbE|apply Rt.ckR|exact Rt.some' rfl))|((with_reducible (first|apply Rt.ld0|apply Rt.ld1|apply Rt.ld2|apply Rt.ld3|apply Rt.ld4|apply Rt.ld5)); first|assumption|exact Lc.kp (by assumption) (by assumption))|((with_reducible apply Rt.ol); first|assumption|exact cell_kp (by assumption) (by assumption))|fail))
  refine Rt.cT rfl ?_
  exact Rt.endB (by simp) k6
end
end Go.Proofs.YtdcdgmiojlldaaaDoor.Wl
/- The definition's disk in memory; the begin of a call. -/
namespace Go.Proofs.YtdcdgmiojlldaaaDoor.Wl
open Go Big Go.RowKit Go.IntWalk Var Low Par
set_option linter.unusedVariables false
set_option linter.unusedSimpArgs false
open Fr (sm hsm IsPut IsLog byEl upTo)
open Ba (bv opEl bytesB OpD batchP encB checkC numC rightO)
section
variable {α : Type} {Q : α → Prop} {n m : Nat} {w w' w0 w1 : World} {A B C F : Option Addr} {l c c' d base e g b L cl rc : Nat} {k q cls keep : Int} {x r o zs : List Int} {S S' T N : Nat → Prop} {s : DS} {sync : Bool}
def Rf (w : World) (S : Nat → Prop) (r : Nat) (N : Nat → Prop) (A : Option Addr) (l c : Nat) : Option (List Int × Nat) → Prop
  | none => A = none ∧ l = 0 ∧ c = 0
  | some f => l = 1 ∧ 1 ≤ c ∧ c ≤ maxLen ∧ ∃ g B e rest, A = some ⟨g, 0, none⟩ ∧ S g ∧ ¬ N g ∧ g ≠ r ∧ Lc w g (.string nl :: .slice B f.1.length e :: .int .i64 (f.2 : Int) :: rest) ∧ Bv .u8 w B f.1.length e f.1 ∧ (∀ j, On (.slice B f.1.length e) j → S j ∧ j ≠ r ∧ j ≠ g) ∧ f.2 ≤ f.1.length ∧ f.1.length ≤ 16777216
structure RxA (w : World) (S : Nat → Prop) (r : Nat) (s : DS) (A : Option Addr) (l c : Nat) (F : Option Addr) (e : Nat) : Prop where
  lc : ∃ room : Int, s.room = (if 0 < room then room else 0) ∧ room < 2 ^ 63 ∧ Lc w r [.int .i64 room, .slice A l c, .slice F s.fails.length e, .int .i64 s.failed]
  fa : Bv .i64 w F s.fails.length e s.fails
  fo : ∀ j, On (.slice F s.fails.length e) j → S j ∧ j ≠ r
  fl : Rf w S r (On (.slice F s.fails.length e)) A l c s.file
  sr : S r
  lt : ∀ j, S j → j < w.heap.size
def Rx (w : World) (S : Nat → Prop) (r : Nat) (s : DS) : Prop := ∃ A l c F e, RxA w S r s A l c F e
theorem Rf.gx {f : Option (List Int × Nat)} {r : Nat} (h : Rf w S r N A l c f) (g : Gx T w w') (hT : ∀ j, T j → j = r ∨ N j ∧ False ∨ ¬ S j) : Rf w' S r N A l c f := by
  unfold Rf at h ⊢
  cases f with
  | none => exact h
  | some f =>
    obtain ⟨h1, h2, h3, g', B, e, rest, h4, h5, h6, h7, h8, h9, h10, h11⟩ := h
    refine ⟨h1, h2, h3, g', B, e, rest, h4, h5, h6, h7, h8.gx g fun ht => ?_, Bv.gx' h9 g fun j hj ht => ?_, h10, h11⟩
    · rcases hT _ ht with h | h | h
      · exact h7 h
      · exact h.2
      · exact h h5
    · rcases hT _ ht with h | h | h
      · exact (h10 j hj).2.1 h
      · exact h.2
      · exact h (h10 j hj).1
theorem Rf.less {f : Option (List Int × Nat)} {r : Nat} {N' : Nat → Prop} (h : Rf w S r N A l c f) (hN : ∀ j, N' j → N j) : Rf w S r N' A l c f := by
  unfold Rf at h ⊢
  cases f with
  | none => exact h
  | some f =>
    obtain ⟨h1, h2, h3, g', B, e, rest, h4, h5, h6, h7⟩ := h
    exact ⟨h1, h2, h3, g', B, e, rest, h4, h5, fun h => h6 (hN _ h), h7⟩
theorem Rx.gx {r : Nat} (h : Rx w S r s) (g : Gx T w w') (hT : ∀ j, T j → ¬ S j) : Rx w' S r s := by
  obtain ⟨A, l, c, F, e, ⟨room, h1, h1', h2⟩, h3, h4, h5, h6, h7⟩ := h
  exact ⟨A, l, c, F, e, ⟨room, h1, h1', h2.gx g fun ht => hT _ ht h6⟩, Bv.gx' h3 g fun j hj ht => hT j ht (h4 j hj).1, h4, h5.gx g fun j hj => .inr (.inr (hT j hj)), h6, fun j hj => Nat.lt_of_lt_of_le (h7 j hj) g.size⟩
theorem Rx.kp {r : Nat} (h : Rx w S r s) (k : Kp w w') : Rx w' S r s := h.gx (T := fun _ => False) k.gx fun _ h => h.elim
theorem RxA.kp {r : Nat} (h : RxA w S r s A l c F e) (k : Kp w w') : RxA w' S r s A l c F e := by
  obtain ⟨⟨room, h1, h1', h2⟩, h3, h4, h5, h6, h7⟩ := h
  exact ⟨⟨room, h1, h1', h2.kp k⟩, h3.kp k, h4, h5.gx (T := fun _ => False) k.gx fun _ h => h.elim, h6, fun j hj => Nat.lt_of_lt_of_le (h7 j hj) k.size⟩
theorem down_spec {r : Nat} (h : RxA w S r s A l c F e) : Rt (butteryref6_Disk_down n [pt r] w) fun y => ∃ w' F' e', y = ([.bool (decide (s.begin.1 ≠ 0))], w') ∧ RxA w' S r s.begin.2 A l c F' e' ∧ Gx S w w' := by
  obtain ⟨⟨room0, hr1, hr2, hl⟩, hfa, hfo, hfl, hsr, hlt⟩ := h
  obtain ⟨room, file, fails, failed⟩ := s
  rw [butteryref6_Disk_down_eq]
  refine Rt.fin ?_
  cases fails with
  | nil =>
    (repeat' (first|(with_reducible (first|apply Rt.fin|apply Rt.tL|apply Rt.tI|apply Rt.tB|apply Rt.tS|apply Rt.tP|apply Rt.tD|apply Rt.tM|apply Rt.tC|apply Rt.tN|apply Rt.tA|apply Rt.tG|apply Rt.tF|apply Rt.os|apply Rt.clS|apply Rt.jmN|apply Rt.jbN|apply Rt.jbE|apply Rt.ckR|exact Rt.some' rfl))|((with_reducible (first|apply Rt.ld0|apply Rt.ld1|apply Rt.ld2|apply Rt.ld3|apply Rt.ld4|apply Rt.ld5)); first|assumption|exact Lc.kp (by assumption) (by assumption))|((with_reducible apply Rt.ol); first|assumption|exact cell_kp (by assumption) (by assumption))|fail))
    refine Rt.cT (by simp) ?_
    exact Rt.some' ⟨rfl, w, F, e, rfl, ⟨⟨room0, hr1, hr2, hl⟩, hfa, hfo, hfl, hsr, hlt⟩, Gx.rfl' _ _⟩
  | cons x xs =>
    (repeat' (first|(with_reducible (first|apply Rt.fin|apply Rt.tL|apply Rt.tI|apply Rt.tB|apply Rt.tS|apply Rt.tP|apply Rt.tD|apply Rt.tM|apply Rt.tC|apply Rt.tN|apply Rt.tA|apply Rt.tG|apply Rt.tF|apply Rt.os|apply Rt.clS|apply Rt.jmN|apply Rt.jbN|apply Rt.jbE|apply Rt.ckR|exact Rt.some' rfl))|((with_reducible (first|apply Rt.ld0|apply Rt.ld1|apply Rt.ld2|apply Rt.ld3|apply Rt.ld4|apply Rt.ld5)); first|assumption|exact Lc.kp (by assumption) (by assumption))|((with_reducible apply Rt.ol); first|assumption|exact cell_kp (by assumption) (by assumption))|fail))
    refine Rt.cF (by simp; omega) ?_
    (repeat' (first|(with_reducible (first|apply Rt.fin|apply Rt.tL|apply Rt.tI|apply Rt.tB|apply Rt.tS|apply Rt.tP|apply Rt.tD|apply Rt.tM|apply Rt.tC|apply Rt.tN|apply Rt.tA|apply Rt.tG|apply Rt.tF|apply Rt.os|apply Rt.clS|apply Rt.jmN|apply Rt.jbN|apply Rt.jbE|apply Rt.ckR|exact Rt.some' rfl))|((with_reducible (first|apply Rt.ld0|apply Rt.ld1|apply Rt.ld2|apply Rt.ld3|apply Rt.ld4|apply Rt.ld5)); first|assumption|exact Lc.kp (by assumption) (by assumption))|((with_reducible apply Rt.ol); first|assumption|exact cell_kp (by assumption) (by assumption))|fail))
    refine Rt.ix hfa.sl (by omega) (by simp) ?_
    (repeat' (first|(with_reducible (first|apply Rt.fin|apply Rt.tL|apply Rt.tI|apply Rt.tB|apply Rt.tS|apply Rt.tP|apply Rt.tD|apply Rt.tM|apply Rt.tC|apply Rt.tN|apply Rt.tA|apply Rt.tG|apply Rt.tF|apply Rt.os|apply Rt.clS|apply Rt.jmN|apply Rt.jbN|apply Rt.jbE|apply Rt.ckR|exact Rt.some' rfl))|((with_reducible (first|apply Rt.ld0|apply Rt.ld1|apply Rt.ld2|apply Rt.ld3|apply Rt.ld4|apply Rt.ld5)); first|assumption|exact Lc.kp (by assumption) (by assumption))|((with_reducible apply Rt.ol); first|assumption|exact cell_kp (by assumption) (by assumption))|fail))
    refine Rt.tail hfa fun B c' hB hO => ?_
    (repeat' (first|(with_reducible (first|apply Rt.fin|apply Rt.tL|apply Rt.tI|apply Rt.tB|apply Rt.tS|apply Rt.tP|apply Rt.tD|apply Rt.tM|apply Rt.tC|apply Rt.tN|apply Rt.tA|apply Rt.tG|apply Rt.tF|apply Rt.os|apply Rt.clS|apply Rt.jmN|apply Rt.jbN|apply Rt.jbE|apply Rt.ckR|exact Rt.some' rfl))|((with_reducible (first|apply Rt.ld0|apply Rt.ld1|apply Rt.ld2|apply Rt.ld3|apply Rt.ld4|apply Rt.ld5)); first|assumption|exact Lc.kp (by assumption) (by assumption))|((with_reducible apply Rt.ol); first|assumption|exact cell_kp (by assumption) (by assumption))|fail))
    refine Rt.st2 hl fun w1 l1 g1 => ?_
    have hD : ∀ (fl : Int) (w' : World), Lc w' r [.int .i64 room0, .slice A l c, .slice B xs.length c', .int .i64 fl] → Gx (fun k => k = r) w w' → RxA w' S r ⟨room, file, xs, fl⟩ A l c B c' := fun fl w' l2 g2 =>
      ⟨⟨room0, hr1, hr2, l2⟩, Bv.gx' hB g2 fun j hj hd' => (hfo j (hO j hj)).2 hd', fun j hj => hfo j (hO j hj), (hfl.gx g2 fun j hj => .inl hj).less hO, hsr, fun j hj => Nat.lt_of_lt_of_le (hlt j hj) g2.size⟩
    have gS : ∀ {w' : World}, Gx (fun k => k = r) w w' → Gx S w w' := fun g => g.wide fun k _ e => e ▸ hsr
    refine Rt.jm (Rt.cN (fun h0 => ?_) fun h0 => ?_)
    · have h0 : x = 0 := h0
      refine Rt.some' ⟨rfl, ?_⟩
      (repeat' (first|(with_reducible (first|apply Rt.fin|apply Rt.tL|apply Rt.tI|apply Rt.tB|apply Rt.tS|apply Rt.tP|apply Rt.tD|apply Rt.tM|apply Rt.tC|apply Rt.tN|apply Rt.tA|apply Rt.tG|apply Rt.tF|apply Rt.os|apply Rt.clS|apply Rt.jmN|apply Rt.jbN|apply Rt.jbE|apply Rt.ckR|exact Rt.some' rfl))|((with_reducible (first|apply Rt.ld0|apply Rt.ld1|apply Rt.ld2|apply Rt.ld3|apply Rt.ld4|apply Rt.ld5)); first|assumption|exact Lc.kp (by assumption) (by assumption))|((with_reducible apply Rt.ol); first|assumption|exact cell_kp (by assumption) (by assumption))|fail))
      refine Rt.some' ⟨rfl, w1, B, c', ?_, ?_, gS g1⟩
      · unfold DS.begin; simp [h0]
      · unfold DS.begin; simp only [h0, if_true]
        exact hD _ _ l1 g1
    · have h0 : x ≠ 0 := h0
      (repeat' (first|(with_reducible (first|apply Rt.fin|apply Rt.tL|apply Rt.tI|apply Rt.tB|apply Rt.tS|apply Rt.tP|apply Rt.tD|apply Rt.tM|apply Rt.tC|apply Rt.tN|apply Rt.tA|apply Rt.tG|apply Rt.tF|apply Rt.os|apply Rt.clS|apply Rt.jmN|apply Rt.jbN|apply Rt.jbE|apply Rt.ckR|exact Rt.some' rfl))|((with_reducible (first|apply Rt.ld0|apply Rt.ld1|apply Rt.ld2|apply Rt.ld3|apply Rt.ld4|apply Rt.ld5)); first|assumption|exact Lc.kp (by assumption) (by assumption))|((with_reducible apply Rt.ol); first|assumption|exact cell_kp (by assumption) (by assumption))|fail))
      refine Rt.st3 l1 fun w2 l2 g2 => ?_
      refine Rt.some' ⟨rfl, ?_⟩
      (repeat' (first|(with_reducible (first|apply Rt.fin|apply Rt.tL|apply Rt.tI|apply Rt.tB|apply Rt.tS|apply Rt.tP|apply Rt.tD|apply Rt.tM|apply Rt.tC|apply Rt.tN|apply Rt.tA|apply Rt.tG|apply Rt.tF|apply Rt.os|apply Rt.clS|apply Rt.jmN|apply Rt.jbN|apply Rt.jbE|apply Rt.ckR|exact Rt.some' rfl))|((with_reducible (first|apply Rt.ld0|apply Rt.ld1|apply Rt.ld2|apply Rt.ld3|apply Rt.ld4|apply Rt.ld5)); first|assumption|exact Lc.kp (by assumption) (by assumption))|((with_reducible apply Rt.ol); first|assumption|exact cell_kp (by assumption) (by assumption))|fail))
      refine Rt.some' ⟨rfl, w2, B, c', ?_, ?_, gS (g1.tr g2)⟩
      · unfold DS.begin; simp [h0]
      · unfold DS.begin; simp only [h0, if_false]
        exact hD _ _ l2 (g1.tr g2)
end
end Go.Proofs.YtdcdgmiojlldaaaDoor.Wl
/- The definition's disk: names, places, Size, Sync, Read. -/
namespace Go.Proofs.YtdcdgmiojlldaaaDoor.Wl
open Go Big Go.RowKit Go.IntWalk Var Low Par
set_option linter.unusedVariables false
set_option linter.unusedSimpArgs false
open Fr (sm hsm IsPut IsLog byEl upTo)
open Ba (bv opEl bytesB OpD batchP encB checkC numC rightO)
theorem less_self : ∀ l : List UInt8, Op.bytesLess l l = false
  | [] => rfl
  | a :: l => by
    unfold Op.bytesLess
    simp [less_self l]
section
variable {α : Type} {Q : α → Prop} {n m : Nat} {w w' w0 w1 : World} {A B C F : Option Addr} {l c c' d base e g b L cl rc : Nat} {k q cls keep : Int} {x o zs : List Int} {S S' T N : Nat → Prop} {s : DS} {sync : Bool} {r : Nat}
theorem ixS_l {f : Int → Option α} : ixS nl 0 f = f 108 := rfl
theorem Named_spec (hn : 10 < n) : Rt (butteryref6_Named n [.string nl] w) (RB True w) := by
  rw [butteryref6_Named_eq]
  obtain ⟨n, rfl⟩ := Nat.exists_eq_add_of_le' (show 2 ≤ n by omega)
  refine Rt.fin (Rt.jb ?_)
  rw [butteryref6_Named.l0_succ]
  refine Rt.cDT (by decide) (Rt.jb ?_)
  rw [ixS_l]
  refine Rt.cDF (by decide) (Rt.cDF (by decide) ?_)
  refine Rt.some' (.inl ⟨.inl rfl, ?_⟩)
  (repeat' (first|(with_reducible (first|apply Rt.fin|apply Rt.tL|apply Rt.tI|apply Rt.tB|apply Rt.tS|apply Rt.tP|apply Rt.tD|apply Rt.tM|apply Rt.tC|apply Rt.tN|apply Rt.tA|apply Rt.tG|apply Rt.tF|apply Rt.os|apply Rt.clS|apply Rt.jmN|apply Rt.jbN|apply Rt.jbE|apply Rt.ckR|exact Rt.some' rfl))|((with_reducible (first|apply Rt.ld0|apply Rt.ld1|apply Rt.ld2|apply Rt.ld3|apply Rt.ld4|apply Rt.ld5)); first|assumption|exact Lc.kp (by assumption) (by assumption))|((with_reducible apply Rt.ol); first|assumption|exact cell_kp (by assumption) (by assumption))|fail))
  rw [butteryref6_Named.l0_succ]
  refine Rt.cDF (by decide) ?_
  refine Rt.some' (.inl ⟨.inr rfl, ?_⟩)
  (repeat' (first|(with_reducible (first|apply Rt.fin|apply Rt.tL|apply Rt.tI|apply Rt.tB|apply Rt.tS|apply Rt.tP|apply Rt.tD|apply Rt.tM|apply Rt.tC|apply Rt.tN|apply Rt.tA|apply Rt.tG|apply Rt.tF|apply Rt.os|apply Rt.clS|apply Rt.jmN|apply Rt.jbN|apply Rt.jbE|apply Rt.ckR|exact Rt.some' rfl))|((with_reducible (first|apply Rt.ld0|apply Rt.ld1|apply Rt.ld2|apply Rt.ld3|apply Rt.ld4|apply Rt.ld5)); first|assumption|exact Lc.kp (by assumption) (by assumption))|((with_reducible apply Rt.ol); first|assumption|exact cell_kp (by assumption) (by assumption))|fail))
  refine Rt.cDT (by decide) ?_
  exact Rt.endB (by decide) (Kp.rfl' _)
theorem at_spec (h : RxA w S r s A l c F e) (hn : 10 < n) : Rt (butteryref6_Disk_at n [pt r, .string nl] w) fun y => ∃ w', y = ([.int .i64 0, .bool (decide (s.file ≠ none))], w') ∧ Kp w w' := by
  obtain ⟨⟨room0, hr1, hr2, hl⟩, hfa, hfo, hfl, hsr, hlt⟩ := h
  rw [butteryref6_Disk_at_eq]
  obtain ⟨n, rfl⟩ := Nat.exists_eq_add_of_le' (show 1 ≤ n by omega)
  refine Rt.fin (Rt.jb ?_)
  rw [butteryref6_Disk_at.l0_succ]
  have kd : Kp w w.drew := (Kp.rfl' w).dr
  have hld := hl.kp kd
  (repeat' (first|(with_reducible (first|apply Rt.fin|apply Rt.tL|apply Rt.tI|apply Rt.tB|apply Rt.tS|apply Rt.tP|apply Rt.tD|apply Rt.tM|apply Rt.tC|apply Rt.tN|apply Rt.tA|apply Rt.tG|apply Rt.tF|apply Rt.os|apply Rt.clS|apply Rt.jmN|apply Rt.jbN|apply Rt.jbE|apply Rt.ckR|exact Rt.some' rfl))|((with_reducible (first|apply Rt.ld0|apply Rt.ld1|apply Rt.ld2|apply Rt.ld3|apply Rt.ld4|apply Rt.ld5)); first|assumption|exact Lc.kp (by assumption) (by assumption))|((with_reducible apply Rt.ol); first|assumption|exact cell_kp (by assumption) (by assumption))|fail))
  cases hf : s.file with
  | none =>
    rw [hf] at hfl
    obtain ⟨rfl, rfl, rfl⟩ := hfl
    refine Rt.cDF (by decide) ?_
    refine Rt.some' (.inl ⟨.inr rfl, ?_⟩)
    (repeat' (first|(with_reducible (first|apply Rt.fin|apply Rt.tL|apply Rt.tI|apply Rt.tB|apply Rt.tS|apply Rt.tP|apply Rt.tD|apply Rt.tM|apply Rt.tC|apply Rt.tN|apply Rt.tA|apply Rt.tG|apply Rt.tF|apply Rt.os|apply Rt.clS|apply Rt.jmN|apply Rt.jbN|apply Rt.jbE|apply Rt.ckR|exact Rt.some' rfl))|((with_reducible (first|apply Rt.ld0|apply Rt.ld1|apply Rt.ld2|apply Rt.ld3|apply Rt.ld4|apply Rt.ld5)); first|assumption|exact Lc.kp (by assumption) (by assumption))|((with_reducible apply Rt.ol); first|assumption|exact cell_kp (by assumption) (by assumption))|fail))
    refine Rt.cDF (by decide) ?_
    exact Rt.some' ⟨rfl, w.drew, rfl, kd⟩
  | some f =>
    rw [hf] at hfl
    obtain ⟨rfl, h2, h3, g, B, e', rest, rfl, h5, h6, h7, h8, h9, h10, h11⟩ := hfl
    have h8d := h8.kp kd
    refine Rt.cDT (by decide) ?_
    (repeat' (first|(with_reducible (first|apply Rt.fin|apply Rt.tL|apply Rt.tI|apply Rt.tB|apply Rt.tS|apply Rt.tP|apply Rt.tD|apply Rt.tM|apply Rt.tC|apply Rt.tN|apply Rt.tA|apply Rt.tG|apply Rt.tF|apply Rt.os|apply Rt.clS|apply Rt.jmN|apply Rt.jbN|apply Rt.jbE|apply Rt.ckR|exact Rt.some' rfl))|((with_reducible (first|apply Rt.ld0|apply Rt.ld1|apply Rt.ld2|apply Rt.ld3|apply Rt.ld4|apply Rt.ld5)); first|assumption|exact Lc.kp (by assumption) (by assumption))|((with_reducible apply Rt.ol); first|assumption|exact cell_kp (by assumption) (by assumption))|fail))
    refine Rt.ix0 (by decide) ?_
    (repeat' (first|(with_reducible (first|apply Rt.fin|apply Rt.tL|apply Rt.tI|apply Rt.tB|apply Rt.tS|apply Rt.tP|apply Rt.tD|apply Rt.tM|apply Rt.tC|apply Rt.tN|apply Rt.tA|apply Rt.tG|apply Rt.tF|apply Rt.os|apply Rt.clS|apply Rt.jmN|apply Rt.jbN|apply Rt.jbE|apply Rt.ckR|exact Rt.some' rfl))|((with_reducible (first|apply Rt.ld0|apply Rt.ld1|apply Rt.ld2|apply Rt.ld3|apply Rt.ld4|apply Rt.ld5)); first|assumption|exact Lc.kp (by assumption) (by assumption))|((with_reducible apply Rt.ol); first|assumption|exact cell_kp (by assumption) (by assumption))|fail))
    refine Rt.cF (less_self _) ?_
    refine Rt.some' (.inl ⟨.inr rfl, ?_⟩)
    (repeat' (first|(with_reducible (first|apply Rt.fin|apply Rt.tL|apply Rt.tI|apply Rt.tB|apply Rt.tS|apply Rt.tP|apply Rt.tD|apply Rt.tM|apply Rt.tC|apply Rt.tN|apply Rt.tA|apply Rt.tG|apply Rt.tF|apply Rt.os|apply Rt.clS|apply Rt.jmN|apply Rt.jbN|apply Rt.jbE|apply Rt.ckR|exact Rt.some' rfl))|((with_reducible (first|apply Rt.ld0|apply Rt.ld1|apply Rt.ld2|apply Rt.ld3|apply Rt.ld4|apply Rt.ld5)); first|assumption|exact Lc.kp (by assumption) (by assumption))|((with_reducible apply Rt.ol); first|assumption|exact cell_kp (by assumption) (by assumption))|fail))
    refine Rt.cDT (by decide) ?_
    (repeat' (first|(with_reducible (first|apply Rt.fin|apply Rt.tL|apply Rt.tI|apply Rt.tB|apply Rt.tS|apply Rt.tP|apply Rt.tD|apply Rt.tM|apply Rt.tC|apply Rt.tN|apply Rt.tA|apply Rt.tG|apply Rt.tF|apply Rt.os|apply Rt.clS|apply Rt.jmN|apply Rt.jbN|apply Rt.jbE|apply Rt.ckR|exact Rt.some' rfl))|((with_reducible (first|apply Rt.ld0|apply Rt.ld1|apply Rt.ld2|apply Rt.ld3|apply Rt.ld4|apply Rt.ld5)); first|assumption|exact Lc.kp (by assumption) (by assumption))|((with_reducible apply Rt.ol); first|assumption|exact cell_kp (by assumption) (by assumption))|fail))
    refine Rt.ix0 (by decide) ?_
    (repeat' (first|(with_reducible (first|apply Rt.fin|apply Rt.tL|apply Rt.tI|apply Rt.tB|apply Rt.tS|apply Rt.tP|apply Rt.tD|apply Rt.tM|apply Rt.tC|apply Rt.tN|apply Rt.tA|apply Rt.tG|apply Rt.tF|apply Rt.os|apply Rt.clS|apply Rt.jmN|apply Rt.jbN|apply Rt.jbE|apply Rt.ckR|exact Rt.some' rfl))|((with_reducible (first|apply Rt.ld0|apply Rt.ld1|apply Rt.ld2|apply Rt.ld3|apply Rt.ld4|apply Rt.ld5)); first|assumption|exact Lc.kp (by assumption) (by assumption))|((with_reducible apply Rt.ol); first|assumption|exact cell_kp (by assumption) (by assumption))|fail))
    refine Rt.some' ⟨rfl, w.drew, ?_, kd⟩
    simp
theorem found_spec (h : RxA w S r s A l c F e) (hn : 10 < n) : Rt (butteryref6_Disk_found n [pt r, .string nl] w) fun y => ∃ w' F' e', y = ([.int .i64 0, .int .i64 s.open.1], w') ∧ RxA w' S r s.open.2 A l c F' e' ∧ Gx S w w' := by
  rw [butteryref6_Disk_found_eq]
  obtain ⟨_, hr1, w1, F1, e1, rfl, h1, g1⟩ := down_spec h
  refine Rt.fin (Rt.cl hr1 ?_)
  (repeat' (first|(with_reducible (first|apply Rt.fin|apply Rt.tL|apply Rt.tI|apply Rt.tB|apply Rt.tS|apply Rt.tP|apply Rt.tD|apply Rt.tM|apply Rt.tC|apply Rt.tN|apply Rt.tA|apply Rt.tG|apply Rt.tF|apply Rt.os|apply Rt.clS|apply Rt.jmN|apply Rt.jbN|apply Rt.jbE|apply Rt.ckR|exact Rt.some' rfl))|((with_reducible (first|apply Rt.ld0|apply Rt.ld1|apply Rt.ld2|apply Rt.ld3|apply Rt.ld4|apply Rt.ld5)); first|assumption|exact Lc.kp (by assumption) (by assumption))|((with_reducible apply Rt.ol); first|assumption|exact cell_kp (by assumption) (by assumption))|fail))
  by_cases hb : s.begin.1 = 0
  · refine Rt.cF (by simpa using hb) ?_
    refine Rt.cBt (Named_spec hn) trivial fun w2 k2 => ?_
    refine Rt.cF rfl ?_
    have h2 := h1.kp k2
    obtain ⟨_, hr3, w3, rfl, k3⟩ := at_spec h2 hn
    refine Rt.cl hr3 ?_
    (repeat' (first|(with_reducible (first|apply Rt.fin|apply Rt.tL|apply Rt.tI|apply Rt.tB|apply Rt.tS|apply Rt.tP|apply Rt.tD|apply Rt.tM|apply Rt.tC|apply Rt.tN|apply Rt.tA|apply Rt.tG|apply Rt.tF|apply Rt.os|apply Rt.clS|apply Rt.jmN|apply Rt.jbN|apply Rt.jbE|apply Rt.ckR|exact Rt.some' rfl))|((with_reducible (first|apply Rt.ld0|apply Rt.ld1|apply Rt.ld2|apply Rt.ld3|apply Rt.ld4|apply Rt.ld5)); first|assumption|exact Lc.kp (by assumption) (by assumption))|((with_reducible apply Rt.ol); first|assumption|exact cell_kp (by assumption) (by assumption))|fail))
    have h3 := h2.kp k3
    have g3 : Gx S w w3 := g1.tr (k2.tr k3).gx
    rw [s.begin_file.1]
    cases hf : s.file with
    | none =>
      have e : s.open = (8, s.begin.2) := by unfold DS.open; rw [if_neg (by simpa using hb), if_pos hf]
      rw [e]
      refine Rt.cT (by simp) ?_
      exact Rt.some' ⟨rfl, w3, F1, e1, rfl, h3, g3⟩
    | some f =>
      have e : s.open = (0, s.begin.2) := by unfold DS.open; rw [if_neg (by simpa using hb), if_neg (by rw [hf]; simp)]
      rw [e]
      refine Rt.cF (by simp) ?_
      exact Rt.some' ⟨rfl, w3, F1, e1, rfl, h3, g3⟩
  · refine Rt.cT (by simpa using hb) ?_
    have e : s.open = s.begin := if_pos hb
    have e2 : s.begin.1 = 11 := by
      unfold DS.begin at hb ⊢
      split <;> rename_i he
      · rw [he] at hb; exact absurd rfl hb
      · rw [he] at hb
        dsimp only at hb ⊢
        split at hb
        · exact absurd rfl hb
        · rename_i hne; rw [if_neg hne]
    rw [e, e2]
    exact Rt.some' ⟨rfl, w1, F1, e1, rfl, h1, g1⟩
end
end Go.Proofs.YtdcdgmiojlldaaaDoor.Wl
/- The definition's disk: New, Size, Sync, Read, Used, Failed, Fail. -/
namespace Go.Proofs.YtdcdgmiojlldaaaDoor.Wl
open Go Big Go.RowKit Go.IntWalk Var Low Par
set_option linter.unusedVariables false
set_option linter.unusedSimpArgs false
open Fr (sm hsm IsPut IsLog byEl upTo)
open Ba (bv opEl bytesB OpD batchP encB checkC numC rightO)
section
variable {α : Type} {Q : α → Prop} {n m : Nat} {w w' w0 w1 : World} {A B C F : Option Addr} {l c c' d base e g b L cl rc : Nat} {k q cls keep : Int} {x o zs : List Int} {S S' T N : Nat → Prop} {s : DS} {sync : Bool} {r : Nat}
theorem RNew_spec {room : Int} (hr : room < 2 ^ 63) : Rt (butteryref6_NewDisk n [.int .i64 room] w) fun y => ∃ r w' S, y = ([pt r], w') ∧ Rx w' S r ⟨if 0 < room then room else 0, none, [], 0⟩ ∧ Kp w w' ∧ ∀ j, S j → w.heap.size ≤ j := by
  rw [butteryref6_NewDisk_eq]
  refine Rt.fin (Rt.al fun w2 l2 k2 s2 => ?_)
  refine Rt.some' ⟨rfl, _, w2, fun j => j = w.heap.size, rfl, ⟨none, 0, 0, none, 0, ⟨room, rfl, hr, l2⟩, ⟨Sl.nil .., fun _ => ⟨rfl, rfl⟩, Nat.le_refl _, Nat.zero_le _, by simp⟩, (fun j hj => by cases hj), ⟨rfl, rfl, rfl⟩, rfl, fun j hj => ?_⟩, k2, fun j hj => ?_⟩
  · have hj : j = w.heap.size := hj
    omega
  · have hj : j = w.heap.size := hj
    omega
theorem RSize_spec (h : Rx w S r s) (hn : 10 < n) : Rt (butteryref6_Disk_Size n [pt r, .string nl] w) fun y => ∃ w', y = ([.int .i64 (if s.open.1 = 0 then (s.len : Int) else 0), .int .i64 s.open.1], w') ∧ Rx w' S r s.open.2 ∧ Gx S w w' := by
  obtain ⟨A, l, c, F, e, h⟩ := h
  rw [butteryref6_Disk_Size_eq]
  obtain ⟨_, hr1, w1, F1, e1, rfl, h1, g1⟩ := found_spec h hn
  refine Rt.fin (Rt.cl hr1 ?_)
  (repeat' (first|(with_reducible (first|apply Rt.fin|apply Rt.tL|apply Rt.tI|apply Rt.tB|apply Rt.tS|apply Rt.tP|apply Rt.tD|apply Rt.tM|apply Rt.tC|apply Rt.tN|apply Rt.tA|apply Rt.tG|apply Rt.tF|apply Rt.os|apply Rt.clS|apply Rt.jmN|apply Rt.jbN|apply Rt.jbE|apply Rt.ckR|exact Rt.some' rfl))|((with_reducible (first|apply Rt.ld0|apply Rt.ld1|apply Rt.ld2|apply Rt.ld3|apply Rt.ld4|apply Rt.ld5)); first|assumption|exact Lc.kp (by assumption) (by assumption))|((with_reducible apply Rt.ol); first|assumption|exact cell_kp (by assumption) (by assumption))|fail))
  by_cases ho : s.open.1 = 0
  · rw [ho, if_pos rfl]
    obtain ⟨f, hf⟩ := s.open_ok ho
    have hfl := h1.fl
    rw [s.open_len.2, hf] at hfl
    obtain ⟨rfl, h2, h3, g, B, e', rest, rfl, h5, h6, h7, h8, h9, h10, h11⟩ := hfl
    obtain ⟨room0, _, _, hl⟩ := h1.lc
    refine Rt.cN (fun _ => ?_) fun e => absurd rfl e
    (repeat' (first|(with_reducible (first|apply Rt.fin|apply Rt.tL|apply Rt.tI|apply Rt.tB|apply Rt.tS|apply Rt.tP|apply Rt.tD|apply Rt.tM|apply Rt.tC|apply Rt.tN|apply Rt.tA|apply Rt.tG|apply Rt.tF|apply Rt.os|apply Rt.clS|apply Rt.jmN|apply Rt.jbN|apply Rt.jbE|apply Rt.ckR|exact Rt.some' rfl))|((with_reducible (first|apply Rt.ld0|apply Rt.ld1|apply Rt.ld2|apply Rt.ld3|apply Rt.ld4|apply Rt.ld5)); first|assumption|exact Lc.kp (by assumption) (by assumption))|((with_reducible apply Rt.ol); first|assumption|exact cell_kp (by assumption) (by assumption))|fail))
    refine Rt.ix0 (by decide) ?_
    (repeat' (first|(with_reducible (first|apply Rt.fin|apply Rt.tL|apply Rt.tI|apply Rt.tB|apply Rt.tS|apply Rt.tP|apply Rt.tD|apply Rt.tM|apply Rt.tC|apply Rt.tN|apply Rt.tA|apply Rt.tG|apply Rt.tF|apply Rt.os|apply Rt.clS|apply Rt.jmN|apply Rt.jbN|apply Rt.jbE|apply Rt.ckR|exact Rt.some' rfl))|((with_reducible (first|apply Rt.ld0|apply Rt.ld1|apply Rt.ld2|apply Rt.ld3|apply Rt.ld4|apply Rt.ld5)); first|assumption|exact Lc.kp (by assumption) (by assumption))|((with_reducible apply Rt.ol); first|assumption|exact cell_kp (by assumption) (by assumption))|fail))
    refine Rt.some' ⟨rfl, w1, ?_, ⟨_, _, _, _, _, h1⟩, g1⟩
    rw [show s.len = f.1.length by unfold DS.len; rw [hf]]
  · rw [if_neg ho]
    refine Rt.cN (fun e => absurd e ho) fun _ => ?_
    exact Rt.some' ⟨rfl, w1, rfl, ⟨_, _, _, _, _, h1⟩, g1⟩
theorem RSync_spec (h : Rx w S r s) (hn : 10 < n) : Rt (butteryref6_Disk_Sync n [pt r, .string nl] w) fun y => ∃ w', y = ([.int .i64 s.sync.1], w') ∧ Rx w' S r s.sync.2 ∧ Gx S w w' := by
  obtain ⟨A, l, c, F, e, h⟩ := h
  rw [butteryref6_Disk_Sync_eq]
  obtain ⟨_, hr1, w1, F1, e1, rfl, h1, g1⟩ := found_spec h hn
  refine Rt.fin (Rt.cl hr1 ?_)
  (repeat' (first|(with_reducible (first|apply Rt.fin|apply Rt.tL|apply Rt.tI|apply Rt.tB|apply Rt.tS|apply Rt.tP|apply Rt.tD|apply Rt.tM|apply Rt.tC|apply Rt.tN|apply Rt.tA|apply Rt.tG|apply Rt.tF|apply Rt.os|apply Rt.clS|apply Rt.jmN|apply Rt.jbN|apply Rt.jbE|apply Rt.ckR|exact Rt.some' rfl))|((with_reducible (first|apply Rt.ld0|apply Rt.ld1|apply Rt.ld2|apply Rt.ld3|apply Rt.ld4|apply Rt.ld5)); first|assumption|exact Lc.kp (by assumption) (by assumption))|((with_reducible apply Rt.ol); first|assumption|exact cell_kp (by assumption) (by assumption))|fail))
  unfold DS.sync
  by_cases ho : s.open.1 = 0
  · rw [ho, if_pos rfl]
    obtain ⟨f, hf⟩ := s.open_ok ho
    have hfl := h1.fl
    rw [s.open_len.2, hf] at hfl
    obtain ⟨rfl, h2, h3, g, B, e', rest, rfl, h5, h6, h7, h8, h9, h10, h11, h12⟩ := hfl
    obtain ⟨room0, hq1, hq2, hl⟩ := h1.lc
    refine Rt.cN (fun _ => ?_) fun e => absurd rfl e
    have kd : Kp w1 w1.drew := (Kp.rfl' w1).dr
    have hld := hl.kp kd
    have h8d := h8.kp kd
    (repeat' (first|(with_reducible (first|apply Rt.fin|apply Rt.tL|apply Rt.tI|apply Rt.tB|apply Rt.tS|apply Rt.tP|apply Rt.tD|apply Rt.tM|apply Rt.tC|apply Rt.tN|apply Rt.tA|apply Rt.tG|apply Rt.tF|apply Rt.os|apply Rt.clS|apply Rt.jmN|apply Rt.jbN|apply Rt.jbE|apply Rt.ckR|exact Rt.some' rfl))|((with_reducible (first|apply Rt.ld0|apply Rt.ld1|apply Rt.ld2|apply Rt.ld3|apply Rt.ld4|apply Rt.ld5)); first|assumption|exact Lc.kp (by assumption) (by assumption))|((with_reducible apply Rt.ol); first|assumption|exact cell_kp (by assumption) (by assumption))|fail))
    refine Rt.ix0 (by decide) ?_
    (repeat' (first|(with_reducible (first|apply Rt.fin|apply Rt.tL|apply Rt.tI|apply Rt.tB|apply Rt.tS|apply Rt.tP|apply Rt.tD|apply Rt.tM|apply Rt.tC|apply Rt.tN|apply Rt.tA|apply Rt.tG|apply Rt.tF|apply Rt.os|apply Rt.clS|apply Rt.jmN|apply Rt.jbN|apply Rt.jbE|apply Rt.ckR|exact Rt.some' rfl))|((with_reducible (first|apply Rt.ld0|apply Rt.ld1|apply Rt.ld2|apply Rt.ld3|apply Rt.ld4|apply Rt.ld5)); first|assumption|exact Lc.kp (by assumption) (by assumption))|((with_reducible apply Rt.ol); first|assumption|exact cell_kp (by assumption) (by assumption))|fail))
    refine Rt.ix0 (by decide) ?_
    refine Rt.st2 h8d fun w2 l2 g2 => ?_
    have gS : Gx S w1 w2 := kd.gx.tr (g2.wide fun j _ hj => hj ▸ h5)
    have hfile : s.open.2.file = some f := by rw [s.open_len.2, hf]
    have nF : ∀ j, On (.slice F1 s.open.2.fails.length e1) j → j ≠ g := fun j hj h => h6 (h ▸ hj)
    refine Rt.some' ⟨rfl, w2, rfl, ⟨_, 1, _, F1, e1, ⟨room0, hq1, hq2, hld.gx g2 fun h => h7 h.symm⟩, Bv.gx' (h1.fa.kp kd) g2 nF, h1.fo, ?_, h1.sr, fun j hj => Nat.lt_of_lt_of_le (h1.lt j hj) gS.size⟩, g1.tr gS⟩
    show Rf w2 S r _ _ 1 _ (s.open.2.file.map _)
    rw [hfile]
    exact ⟨rfl, h2, h3, g, B, e', rest, rfl, h5, h6, h7, l2, Bv.gx' (h9.kp kd) g2 fun j hj h => (h10 j hj).2.2 h, h10, Nat.le_refl _, h12⟩
  · rw [if_neg ho]
    refine Rt.cN (fun e => absurd e ho) fun _ => ?_
    exact Rt.some' ⟨rfl, w1, rfl, ⟨_, _, _, _, _, h1⟩, g1⟩
theorem RRead_spec (h : Rx w S r s) {k : Int} (hk : ∀ f, s.file = some f → k = f.1.length) (h0 : 0 ≤ k) (hn : 10 < n) : Rt (butteryref6_Disk_Read n [pt r, .string nl, .int .i64 0, .int .i64 k] w) fun y => ∃ B c w' xs, y = ([.slice B xs.length c, .int .i64 s.open.1], w') ∧ Own .u8 5 w' w.heap.size (.slice B xs.length c) xs ∧ Bytes xs ∧ (s.open.1 = 0 → ∃ f, s.file = some f ∧ xs = f.1) ∧ xs.length ≤ 16777216 ∧ Rx w' S r s.open.2 ∧ Gx S w w' := by
  obtain ⟨ib, hT⟩ := slB
  obtain ⟨A, l, c, F, e, h⟩ := h
  rw [butteryref6_Disk_Read_eq]
  obtain ⟨_, hr1, w1, F1, e1, rfl, h1, g1⟩ := found_spec h hn
  refine Rt.fin (Rt.cl hr1 ?_)
  (repeat' (first|(with_reducible (first|apply Rt.fin|apply Rt.tL|apply Rt.tI|apply Rt.tB|apply Rt.tS|apply Rt.tP|apply Rt.tD|apply Rt.tM|apply Rt.tC|apply Rt.tN|apply Rt.tA|apply Rt.tG|apply Rt.tF|apply Rt.os|apply Rt.clS|apply Rt.jmN|apply Rt.jbN|apply Rt.jbE|apply Rt.ckR|exact Rt.some' rfl))|((with_reducible (first|apply Rt.ld0|apply Rt.ld1|apply Rt.ld2|apply Rt.ld3|apply Rt.ld4|apply Rt.ld5)); first|assumption|exact Lc.kp (by assumption) (by assumption))|((with_reducible apply Rt.ol); first|assumption|exact cell_kp (by assumption) (by assumption))|fail))
  by_cases ho : s.open.1 = 0
  · rw [ho]
    obtain ⟨f, hf⟩ := s.open_ok ho
    have hfl := h1.fl
    rw [s.open_len.2, hf] at hfl
    obtain ⟨rfl, h2, h3, g, B, e', rest, rfl, h5, h6, h7, h8, h9, h10, h11, h12⟩ := hfl
    obtain ⟨room0, hq1, hq2, hl⟩ := h1.lc
    obtain rfl := hk f hf
    refine Rt.cN (fun _ => ?_) fun e => absurd rfl e
    (repeat' (first|(with_reducible (first|apply Rt.fin|apply Rt.tL|apply Rt.tI|apply Rt.tB|apply Rt.tS|apply Rt.tP|apply Rt.tD|apply Rt.tM|apply Rt.tC|apply Rt.tN|apply Rt.tA|apply Rt.tG|apply Rt.tF|apply Rt.os|apply Rt.clS|apply Rt.jmN|apply Rt.jbN|apply Rt.jbE|apply Rt.ckR|exact Rt.some' rfl))|((with_reducible (first|apply Rt.ld0|apply Rt.ld1|apply Rt.ld2|apply Rt.ld3|apply Rt.ld4|apply Rt.ld5)); first|assumption|exact Lc.kp (by assumption) (by assumption))|((with_reducible apply Rt.ol); first|assumption|exact cell_kp (by assumption) (by assumption))|fail))
    refine Rt.ix0 (by decide) ?_
    (repeat' (first|(with_reducible (first|apply Rt.fin|apply Rt.tL|apply Rt.tI|apply Rt.tB|apply Rt.tS|apply Rt.tP|apply Rt.tD|apply Rt.tM|apply Rt.tC|apply Rt.tN|apply Rt.tA|apply Rt.tG|apply Rt.tF|apply Rt.os|apply Rt.clS|apply Rt.jmN|apply Rt.jbN|apply Rt.jbE|apply Rt.ckR|exact Rt.some' rfl))|((with_reducible (first|apply Rt.ld0|apply Rt.ld1|apply Rt.ld2|apply Rt.ld3|apply Rt.ld4|apply Rt.ld5)); first|assumption|exact Lc.kp (by assumption) (by assumption))|((with_reducible apply Rt.ol); first|assumption|exact cell_kp (by assumption) (by assumption))|fail))
    refine Rt.cDF (by decide) (Rt.cDF (by omega) (Rt.cDF (by omega) ?_))
    have e1' : IntKind.i64.wrap ((f.1.length : Int) - 0) = f.1.length := by rw [i64_in _ (by omega)]; omega
    rw [e1']
    refine Rt.jm (Rt.cDF (by omega) (Rt.some' ⟨rfl, ?_⟩))
    (repeat' (first|(with_reducible (first|apply Rt.fin|apply Rt.tL|apply Rt.tI|apply Rt.tB|apply Rt.tS|apply Rt.tP|apply Rt.tD|apply Rt.tM|apply Rt.tC|apply Rt.tN|apply Rt.tA|apply Rt.tG|apply Rt.tF|apply Rt.os|apply Rt.clS|apply Rt.jmN|apply Rt.jbN|apply Rt.jbE|apply Rt.ckR|exact Rt.some' rfl))|((with_reducible (first|apply Rt.ld0|apply Rt.ld1|apply Rt.ld2|apply Rt.ld3|apply Rt.ld4|apply Rt.ld5)); first|assumption|exact Lc.kp (by assumption) (by assumption))|((with_reducible apply Rt.ol); first|assumption|exact cell_kp (by assumption) (by assumption))|fail))
    rw [show IntKind.i64.wrap (0 + (f.1.length : Int)) = f.1.length by rw [i64_in _ (by omega)]; omega]
    refine Rt.cut h9 (by omega) (by omega) (Int.le_refl _) fun B2 hB2 => ?_
    have e2 : ((f.1.length : Nat) : Int).toNat - (0 : Int).toNat = f.1.length := by simp
    have e3 : List.drop (0 : Int).toNat (List.take ((f.1.length : Nat) : Int).toNat f.1) = f.1 := by simp
    rw [e2, e3] at hB2
    rw [e2]
    refine Rt.app0 hT hB2.sl hB2.nil (by omega) fun A3 c3 w3 o3 k3 => ?_
    (repeat' (first|(with_reducible (first|apply Rt.fin|apply Rt.tL|apply Rt.tI|apply Rt.tB|apply Rt.tS|apply Rt.tP|apply Rt.tD|apply Rt.tM|apply Rt.tC|apply Rt.tN|apply Rt.tA|apply Rt.tG|apply Rt.tF|apply Rt.os|apply Rt.clS|apply Rt.jmN|apply Rt.jbN|apply Rt.jbE|apply Rt.ckR|exact Rt.some' rfl))|((with_reducible (first|apply Rt.ld0|apply Rt.ld1|apply Rt.ld2|apply Rt.ld3|apply Rt.ld4|apply Rt.ld5)); first|assumption|exact Lc.kp (by assumption) (by assumption))|((with_reducible apply Rt.ol); first|assumption|exact cell_kp (by assumption) (by assumption))|fail))
    exact Rt.some' ⟨rfl, A3, c3, w3, f.1, rfl, o3.mono g1.size, h9.rng, fun _ => ⟨f, hf, rfl⟩, h12, ⟨_, _, _, _, _, h1.kp k3⟩, g1.tr k3.gx⟩
  · refine Rt.cN (fun e => absurd e ho) fun _ => ?_
    exact Rt.some' ⟨rfl, none, 0, w1, [], rfl, Own.nil _ _, fun z hz => (by cases hz), fun h => absurd h ho, by simp, ⟨_, _, _, _, _, h1⟩, g1⟩
theorem RUsed_spec (h : RxA w S r s A l c F e) (hn : 10 < n) : Rt (butteryref6_Disk_Used n [pt r] w) fun y => y = ([.int .i64 (s.len : Int)], w) := by
  obtain ⟨⟨room0, hr1, hr2, hl⟩, hfa, hfo, hfl, hsr, hlt⟩ := h
  rw [butteryref6_Disk_Used_eq]
  obtain ⟨n, rfl⟩ := Nat.exists_eq_add_of_le' (show 2 ≤ n by omega)
  refine Rt.fin (Rt.jb ?_)
  rw [butteryref6_Disk_Used.l0_succ]
  (repeat' (first|(with_reducible (first|apply Rt.fin|apply Rt.tL|apply Rt.tI|apply Rt.tB|apply Rt.tS|apply Rt.tP|apply Rt.tD|apply Rt.tM|apply Rt.tC|apply Rt.tN|apply Rt.tA|apply Rt.tG|apply Rt.tF|apply Rt.os|apply Rt.clS|apply Rt.jmN|apply Rt.jbN|apply Rt.jbE|apply Rt.ckR|exact Rt.some' rfl))|((with_reducible (first|apply Rt.ld0|apply Rt.ld1|apply Rt.ld2|apply Rt.ld3|apply Rt.ld4|apply Rt.ld5)); first|assumption|exact Lc.kp (by assumption) (by assumption))|((with_reducible apply Rt.ol); first|assumption|exact cell_kp (by assumption) (by assumption))|fail))
  cases hf : s.file with
  | none =>
    rw [hf] at hfl
    obtain ⟨rfl, rfl, rfl⟩ := hfl
    refine Rt.cDF (by decide) ?_
    refine Rt.some' (.inl ⟨.inr rfl, ?_⟩)
    (repeat' (first|(with_reducible (first|apply Rt.fin|apply Rt.tL|apply Rt.tI|apply Rt.tB|apply Rt.tS|apply Rt.tP|apply Rt.tD|apply Rt.tM|apply Rt.tC|apply Rt.tN|apply Rt.tA|apply Rt.tG|apply Rt.tF|apply Rt.os|apply Rt.clS|apply Rt.jmN|apply Rt.jbN|apply Rt.jbE|apply Rt.ckR|exact Rt.some' rfl))|((with_reducible (first|apply Rt.ld0|apply Rt.ld1|apply Rt.ld2|apply Rt.ld3|apply Rt.ld4|apply Rt.ld5)); first|assumption|exact Lc.kp (by assumption) (by assumption))|((with_reducible apply Rt.ol); first|assumption|exact cell_kp (by assumption) (by assumption))|fail))
    refine Rt.some' ⟨rfl, ?_⟩
    rw [show s.len = 0 by unfold DS.len; rw [hf]]
    rfl
  | some f =>
    rw [hf] at hfl
    obtain ⟨rfl, h2, h3, g, B, e', rest, rfl, h5, h6, h7, h8, h9, h10, h11, h12⟩ := hfl
    refine Rt.cDT (by decide) ?_
    (repeat' (first|(with_reducible (first|apply Rt.fin|apply Rt.tL|apply Rt.tI|apply Rt.tB|apply Rt.tS|apply Rt.tP|apply Rt.tD|apply Rt.tM|apply Rt.tC|apply Rt.tN|apply Rt.tA|apply Rt.tG|apply Rt.tF|apply Rt.os|apply Rt.clS|apply Rt.jmN|apply Rt.jbN|apply Rt.jbE|apply Rt.ckR|exact Rt.some' rfl))|((with_reducible (first|apply Rt.ld0|apply Rt.ld1|apply Rt.ld2|apply Rt.ld3|apply Rt.ld4|apply Rt.ld5)); first|assumption|exact Lc.kp (by assumption) (by assumption))|((with_reducible apply Rt.ol); first|assumption|exact cell_kp (by assumption) (by assumption))|fail))
    refine Rt.ix0 (by decide) ?_
    (repeat' (first|(with_reducible (first|apply Rt.fin|apply Rt.tL|apply Rt.tI|apply Rt.tB|apply Rt.tS|apply Rt.tP|apply Rt.tD|apply Rt.tM|apply Rt.tC|apply Rt.tN|apply Rt.tA|apply Rt.tG|apply Rt.tF|apply Rt.os|apply Rt.clS|apply Rt.jmN|apply Rt.jbN|apply Rt.jbE|apply Rt.ckR|exact Rt.some' rfl))|((with_reducible (first|apply Rt.ld0|apply Rt.ld1|apply Rt.ld2|apply Rt.ld3|apply Rt.ld4|apply Rt.ld5)); first|assumption|exact Lc.kp (by assumption) (by assumption))|((with_reducible apply Rt.ol); first|assumption|exact cell_kp (by assumption) (by assumption))|fail))
    rw [show IntKind.i64.wrap ((0 : Int) + 1) = 1 by decide, show IntKind.i64.wrap (0 + (f.1.length : Int)) = f.1.length by rw [i64_in _ (by omega)]; omega]
    rw [butteryref6_Disk_Used.l0_succ]
    (repeat' (first|(with_reducible (first|apply Rt.fin|apply Rt.tL|apply Rt.tI|apply Rt.tB|apply Rt.tS|apply Rt.tP|apply Rt.tD|apply Rt.tM|apply Rt.tC|apply Rt.tN|apply Rt.tA|apply Rt.tG|apply Rt.tF|apply Rt.os|apply Rt.clS|apply Rt.jmN|apply Rt.jbN|apply Rt.jbE|apply Rt.ckR|exact Rt.some' rfl))|((with_reducible (first|apply Rt.ld0|apply Rt.ld1|apply Rt.ld2|apply Rt.ld3|apply Rt.ld4|apply Rt.ld5)); first|assumption|exact Lc.kp (by assumption) (by assumption))|((with_reducible apply Rt.ol); first|assumption|exact cell_kp (by assumption) (by assumption))|fail))
    refine Rt.cDF (by decide) ?_
    refine Rt.some' (.inl ⟨.inr rfl, ?_⟩)
    (repeat' (first|(with_reducible (first|apply Rt.fin|apply Rt.tL|apply Rt.tI|apply Rt.tB|apply Rt.tS|apply Rt.tP|apply Rt.tD|apply Rt.tM|apply Rt.tC|apply Rt.tN|apply Rt.tA|apply Rt.tG|apply Rt.tF|apply Rt.os|apply Rt.clS|apply Rt.jmN|apply Rt.jbN|apply Rt.jbE|apply Rt.ckR|exact Rt.some' rfl))|((with_reducible (first|apply Rt.ld0|apply Rt.ld1|apply Rt.ld2|apply Rt.ld3|apply Rt.ld4|apply Rt.ld5)); first|assumption|exact Lc.kp (by assumption) (by assumption))|((with_reducible apply Rt.ol); first|assumption|exact cell_kp (by assumption) (by assumption))|fail))
    refine Rt.some' ⟨rfl, ?_⟩
    rw [show s.len = f.1.length by unfold DS.len; rw [hf]]
theorem RFailed_spec (h : Rx w S r s) : Rt (butteryref6_Disk_Failed n [pt r] w) fun y => y = ([.int .i64 s.failed], w) := by
  obtain ⟨A, l, c, F, e, ⟨room0, hr1, hr2, hl⟩, hfa, hfo, hfl, hsr, hlt⟩ := h
  rw [butteryref6_Disk_Failed_eq]
  refine Rt.fin ?_
  (repeat' (first|(with_reducible (first|apply Rt.fin|apply Rt.tL|apply Rt.tI|apply Rt.tB|apply Rt.tS|apply Rt.tP|apply Rt.tD|apply Rt.tM|apply Rt.tC|apply Rt.tN|apply Rt.tA|apply Rt.tG|apply Rt.tF|apply Rt.os|apply Rt.clS|apply Rt.jmN|apply Rt.jbN|apply Rt.jbE|apply Rt.ckR|exact Rt.some' rfl))|((with_reducible (first|apply Rt.ld0|apply Rt.ld1|apply Rt.ld2|apply Rt.ld3|apply Rt.ld4|apply Rt.ld5)); first|assumption|exact Lc.kp (by assumption) (by assumption))|((with_reducible apply Rt.ol); first|assumption|exact cell_kp (by assumption) (by assumption))|fail))
  exact Rt.some' ⟨rfl, rfl⟩
theorem Used_spec (h : Dk w S d s) : Rt (disk_Disk_Used n [pt d] w) fun y => y = ([.int .i64 (s.len : Int)], w) := by
  obtain ⟨mb, fp, A, c, hd⟩ := h
  have hl := hd.lc
  rw [disk_Disk_Used_eq]
  refine Rt.fin ?_
  (repeat' (first|(with_reducible (first|apply Rt.fin|apply Rt.tL|apply Rt.tI|apply Rt.tB|apply Rt.tS|apply Rt.tP|apply Rt.tD|apply Rt.tM|apply Rt.tC|apply Rt.tN|apply Rt.tA|apply Rt.tG|apply Rt.tF|apply Rt.os|apply Rt.clS|apply Rt.jmN|apply Rt.jbN|apply Rt.jbE|apply Rt.ckR|exact Rt.some' rfl))|((with_reducible (first|apply Rt.ld0|apply Rt.ld1|apply Rt.ld2|apply Rt.ld3|apply Rt.ld4|apply Rt.ld5)); first|assumption|exact Lc.kp (by assumption) (by assumption))|((with_reducible apply Rt.ol); first|assumption|exact cell_kp (by assumption) (by assumption))|fail))
  exact Rt.some' ⟨rfl, rfl⟩
theorem Failed_spec (h : Dk w S d s) : Rt (disk_Disk_Failed n [pt d] w) fun y => y = ([.int .i64 s.failed], w) := by
  obtain ⟨mb, fp, A, c, hd⟩ := h
  have hl := hd.lc
  rw [disk_Disk_Failed_eq]
  refine Rt.fin ?_
  (repeat' (first|(with_reducible (first|apply Rt.fin|apply Rt.tL|apply Rt.tI|apply Rt.tB|apply Rt.tS|apply Rt.tP|apply Rt.tD|apply Rt.tM|apply Rt.tC|apply Rt.tN|apply Rt.tA|apply Rt.tG|apply Rt.tF|apply Rt.os|apply Rt.clS|apply Rt.jmN|apply Rt.jbN|apply Rt.jbE|apply Rt.ckR|exact Rt.some' rfl))|((with_reducible (first|apply Rt.ld0|apply Rt.ld1|apply Rt.ld2|apply Rt.ld3|apply Rt.ld4|apply Rt.ld5)); first|assumption|exact Lc.kp (by assumption) (by assumption))|((with_reducible apply Rt.ol); first|assumption|exact cell_kp (by assumption) (by assumption))|fail))
  exact Rt.some' ⟨rfl, rfl⟩
theorem RFail_spec (h : Rx w S r s) {fs : List Int} (hb : Bv .i64 w B L b fs) (hl : L ≤ 2 ^ 38) : Rt (butteryref6_Disk_Fail n [pt r, .slice B L b] w) fun y => ∃ w' S', y = ([], w') ∧ Rx w' S' r { s with fails := fs } ∧ Gx S w w' ∧ ∀ j, S' j → S j ∨ w.heap.size ≤ j := by
  obtain ⟨ib, hT⟩ := Fr.slI
  obtain ⟨A, l, c, F, e, ⟨room0, hr1, hr2, hlc⟩, hfa, hfo, hfl, hsr, hlt⟩ := h
  have hbl := hb.len
  rw [butteryref6_Disk_Fail_eq]
  refine Rt.fin (Rt.app0 hT hb.sl hb.nil (by omega) fun A3 c3 w3 o3 k3 => ?_)
  have hl3 := hlc.kp k3
  (repeat' (first|(with_reducible (first|apply Rt.fin|apply Rt.tL|apply Rt.tI|apply Rt.tB|apply Rt.tS|apply Rt.tP|apply Rt.tD|apply Rt.tM|apply Rt.tC|apply Rt.tN|apply Rt.tA|apply Rt.tG|apply Rt.tF|apply Rt.os|apply Rt.clS|apply Rt.jmN|apply Rt.jbN|apply Rt.jbE|apply Rt.ckR|exact Rt.some' rfl))|((with_reducible (first|apply Rt.ld0|apply Rt.ld1|apply Rt.ld2|apply Rt.ld3|apply Rt.ld4|apply Rt.ld5)); first|assumption|exact Lc.kp (by assumption) (by assumption))|((with_reducible apply Rt.ol); first|assumption|exact cell_kp (by assumption) (by assumption))|fail))
  refine Rt.st2 hl3 fun w4 l4 g4 => ?_
  subst hbl
  have hr3 : r < w.heap.size := hlt r hsr
  have hO : ∀ j, On (.slice A3 fs.length c3) j → w.heap.size ≤ j ∧ j < w3.heap.size := fun j hj => o3.lt j hj
  have gS : Gx S w w4 := (k3.gx).tr (g4.wide fun j _ hj => hj ▸ hsr)
  refine Rt.some' ⟨rfl, w4, fun j => S j ∨ On (.slice A3 fs.length c3) j, rfl, ⟨A, l, c, A3, c3, ⟨room0, hr1, hr2, l4⟩, Bv.gx' (o3.bv hb.rng) g4 fun j hj h => ?_, fun j hj => ⟨.inr hj, fun h => ?_⟩, ?_, .inl hsr, fun j hj => ?_⟩, gS, fun j hj => hj.imp id fun h => (hO j h).1⟩
  · have := hO j hj; have h : j = r := h; omega
  · have := hO j hj; omega
  · show Rf w4 _ r _ A l c s.file
    have h1 := (hfl.gx (T := fun _ => False) k3.gx fun _ h => h.elim).gx g4 fun j hj => .inl hj
    cases hf : s.file with
    | none => rw [hf] at h1; exact h1
    | some f =>
      rw [hf] at h1
      obtain ⟨h2, h3, h4, g, B9, e', rest, h5, h6, h7, h8, h9, h10, h11, h12⟩ := h1
      refine ⟨h2, h3, h4, g, B9, e', rest, h5, .inl h6, fun hj => ?_, h8, h9, h10, fun j hj => ⟨.inl (h11 j hj).1, (h11 j hj).2⟩, h12⟩
      have := hO g hj; have := hlt g h6; omega
  · have := k3.size
    have := g4.size
    rcases hj with h | h
    · have := hlt j h; omega
    · have := hO j h; omega
theorem Fail_spec (h : Dk w S d s) {fs : List Int} (hb : Bv .i64 w B L b fs) (hl : L ≤ 2 ^ 38) : Rt (disk_Disk_Fail n [pt d, .slice B L b] w) fun y => ∃ w' S', y = ([], w') ∧ Dk w' S' d { s with fails := fs } ∧ Gx S w w' ∧ ∀ j, S' j → S j ∨ w.heap.size ≤ j := by
  obtain ⟨mb, fp, A, c, hd⟩ := h
  have hbl := hb.len
  rw [disk_Disk_Fail_eq]
  refine Rt.fin (Rt.cO (CloneI_spec hb hl) fun A3 c3 w3 o3 k3 => ?_)
  have hl3 := hd.lc.kp k3
  (repeat' (first|(with_reducible (first|apply Rt.fin|apply Rt.tL|apply Rt.tI|apply Rt.tB|apply Rt.tS|apply Rt.tP|apply Rt.tD|apply Rt.tM|apply Rt.tC|apply Rt.tN|apply Rt.tA|apply Rt.tG|apply Rt.tF|apply Rt.os|apply Rt.clS|apply Rt.jmN|apply Rt.jbN|apply Rt.jbE|apply Rt.ckR|exact Rt.some' rfl))|((with_reducible (first|apply Rt.ld0|apply Rt.ld1|apply Rt.ld2|apply Rt.ld3|apply Rt.ld4|apply Rt.ld5)); first|assumption|exact Lc.kp (by assumption) (by assumption))|((with_reducible apply Rt.ol); first|assumption|exact cell_kp (by assumption) (by assumption))|fail))
  refine Rt.st3 hl3 fun w4 l4 g4 => ?_
  have hO : ∀ j, On (.slice A3 fs.length c3) j → w.heap.size ≤ j ∧ j < w3.heap.size := fun j hj => o3.lt j hj
  have hlt := hd.lt
  have gS : Gx S w w4 := (k3.gx).tr (g4.wide fun j _ hj => hj ▸ hd.sd)
  refine Rt.some' ⟨rfl, w4, fun j => S j ∨ On (.slice A3 fs.length c3) j, rfl, ⟨mb, fp, A3, c3, l4, Bv.gx' (o3.bv hb.rng) g4 fun j hj h => ?_, (hd.fm.kp k3).gx g4 hd.ne, ?_, fun j hj => ⟨.inr hj, fun h => ?_, fun h => ?_⟩, .inl hd.sd, .inl hd.sm, hd.ne, fun j hj => ?_, hd.room⟩, gS, fun j hj => hj.imp id fun h => (hO j h).1⟩
  · have := hO j hj; have h : j = d := h; have := hlt d hd.sd; omega
  · show Fl w4 _ _ fp s.file
    have h1 := (hd.fl.gx (T := fun _ => False) k3.gx fun _ h => h.elim).gx g4 fun j hj => .inl (.inl hj)
    cases hf : s.file with
    | none => rw [hf] at h1; obtain rfl := h1.none_iff.2 rfl; exact trivial
    | some f =>
      rw [hf] at h1
      obtain ⟨p, rfl, i1, i2, i3, i4, i5, B9, e9, hp, i6, i7⟩ := h1.some'
      have hN : ∀ j, S j → ¬ On (.slice A3 fs.length c3) j := fun j hj h => by have := hO j h; have := hlt j hj; omega
      refine ⟨.inl i1, fun h => ?_, i3, i4, i5, B9, e9, hp, i6, fun j hj => ⟨.inl (i7 j hj).1, fun h => ?_, (i7 j hj).2.2⟩⟩
      · rcases h with h | h | h
        · exact i2 (.inl h)
        · exact i2 (.inr (.inl h))
        · exact hN p i1 h
      · rcases h with h | h | h
        · exact (i7 j hj).2.1 (.inl h)
        · exact (i7 j hj).2.1 (.inr (.inl h))
        · exact hN j (i7 j hj).1 h
  · have := hO j hj; have := hlt d hd.sd; omega
  · have := hO j hj; have := hlt mb hd.sm; omega
  · have := k3.size
    have := g4.size
    rcases hj with h | h
    · have := hlt j h; omega
    · have := hO j h; omega
end
end Go.Proofs.YtdcdgmiojlldaaaDoor.Wl
/- The definition's disk: Append. -/
namespace Go.Proofs.YtdcdgmiojlldaaaDoor.Wl
open Go Big Go.RowKit Go.IntWalk Var Low Par
set_option linter.unusedVariables false
set_option linter.unusedSimpArgs false
open Fr (sm hsm IsPut IsLog byEl upTo)
open Ba (bv opEl bytesB OpD batchP encB checkC numC rightO)
def conEl : El Unit where
  sz := 3
  rd w vs x := vs = [.string nl, .slice none 0 0, .int .i64 0]
  kp := fun _ h => h
  one := fun h u hu => by
    subst h
    simp at hu
    rcases hu with rfl | rfl | rfl <;> rfl
theorem slCon : ∃ i v, SlTE Tryd.prog 75 83 3 i v := slTE (by kernel_rfl)
section
variable {α : Type} {Q : α → Prop} {n m : Nat} {w w' w0 w1 : World} {A B C F : Option Addr} {l c c' d base e g b L cl rc : Nat} {k q cls keep : Int} {x o zs xs : List Int} {S S' T N : Nat → Prop} {s : DS} {sync : Bool} {r : Nat}
theorem con_open (h : OwnE conEl 83 w base (.slice A 1 c) [()]) : ∃ g rest, A = some ⟨g, 0, none⟩ ∧ 1 ≤ c ∧ c ≤ maxLen ∧ base ≤ g ∧ Lc w g (.string nl :: .slice none 0 0 :: .int .i64 0 :: rest) := by
  obtain ⟨vs, ho, hs⟩ := h
  obtain ⟨a, b, hv, h1, h2, h3⟩ := hs.out
  have h2 : a = [.string nl, .slice none 0 0, .int .i64 0] := h2
  have h3 : b = [] := h3
  rcases ho.2 with ⟨h', hn⟩ | ⟨g, cap, cur, h', hb, hg, hnc, hcm, hcs, ht⟩
  · cases hn
  · injection h' with e1 e2 e3
    subst e1 e3
    rw [hv, h2, h3] at ht
    refine ⟨g, cur.toList.drop 3, rfl, hnc, hcm, hb, 83, ?_⟩
    have e : (Value.string nl :: Value.slice none 0 0 :: Value.int .i64 0 :: cur.toList.drop 3) = cur.toList := by
      have := List.take_append_drop 3 cur.toList
      rw [show cur.toList.take 3 = [.string nl, .slice none 0 0, .int .i64 0] from ht] at this
      exact this
    rw [e]
    simpa using hg
theorem cut_nil {f : Option Addr → Nat → Nat → Option α} : cutS none 0 0 0 3 f = f none 0 0 := by
  rw [cutS, if_pos (by decide)]; rfl
theorem Rt.appN {f : Value → World → Option α} (h : ∀ A c w', OwnE conEl 83 w' w.heap.size (.slice A 0 c) [] → Kp w w' → Rt (f (.slice A 0 c) w') Q) : Rt (rn Tryd.prog (Builtin.append_ #[75, 75] 75 #[.slice none 0 0, .slice none 0 0]) w f) Q := by
  obtain ⟨ti, tz, hT⟩ := slCon
  refine Rt.appE (E := conEl) rfl hT (OwnE.nil w w.heap.size) (ys := []) (news := []) rfl (fun _ => ⟨rfl, rfl⟩) (fun a h => by cases h) (fun u hu => by cases hu) (fun _ _ => (rfl : ([] : List Value) = [])) (by decide) (Nat.le_refl _) fun A c w' o hk g s => ?_
  exact h A c w' o (hk w (Kp.rfl' w) (Nat.le_refl _))
theorem Rt.appN1 {f : Value → World → Option α} {v : Value} (ho : OwnE conEl 83 w base v [()]) (hb : base ≤ w.heap.size) (h : ∀ A c w', OwnE conEl 83 w' base (.slice A 1 c) [()] → Gx (On v) w w' → Rt (f (.slice A 1 c) w') Q) : Rt (rn Tryd.prog (Builtin.append_ #[75, 75] 75 #[v, .slice none 0 0]) w f) Q := by
  obtain ⟨ti, tz, hT⟩ := slCon
  refine Rt.appE (E := conEl) rfl hT ho (ys := []) (news := []) rfl (fun _ => ⟨rfl, rfl⟩) (fun a h => by cases h) (fun u hu => by cases hu) (fun _ _ => (rfl : ([] : List Value) = [])) (by decide) hb fun A c w' o hk g s => ?_
  exact h A c w' o ((Gx.of_grown g).wide fun k _ e => e)
theorem Rt.appN2 {f : Value → World → Option α} {v : Value} {b : Nat} (ho : OwnE conEl 83 w base v []) (hl : Lc w b [.string nl, .slice none 0 0, .int .i64 0]) (hb : base ≤ w.heap.size) (h : ∀ A c w', OwnE conEl 83 w' base (.slice A 1 c) [()] → Gx (On v) w w' → Rt (f (.slice A 1 c) w') Q) : Rt (rn Tryd.prog (Builtin.append_ #[75, 75] 75 #[v, .slice (some ⟨b, 0, none⟩) 1 1]) w f) Q := by
  obtain ⟨ti, tz, hT⟩ := slCon
  refine Rt.app1fL (E := conEl) (x := ()) rfl hT ho hl rfl (fun _ _ => rfl) (by decide) hb fun A c w' o g _ => ?_
  exact h A c w' o g
theorem new_file {room0 : Int} {w2 w3 : World} (hs : RxA w S r s none 0 0 F e) (hq1 : s.room = (if 0 < room0 then room0 else 0)) (hq2 : room0 < 2 ^ 63) (k : Kp w w2) (o : OwnE conEl 83 w2 w.heap.size (.slice A 1 c) [()]) (l3 : Lc w3 r [.int .i64 room0, .slice A 1 c, .slice F s.fails.length e, .int .i64 s.failed]) (g3 : Gx (fun j => j = r) w2 w3) :
    ∃ S', RxA w3 S' r { s with file := some ([], 0) } A 1 c F e ∧ Gx S w w3 ∧ ∀ j, S' j → S j ∨ w.heap.size ≤ j := by
  obtain ⟨g, rest, rfl, hc1, hc2, hg, hlg⟩ := con_open o
  have hlt := hs.lt
  have hrlt := hlt r hs.sr
  have hgne : g ≠ r := by omega
  have gS : Gx S w w3 := k.gx.tr (g3.wide fun j _ h => h ▸ hs.sr)
  refine ⟨fun j => S j ∨ j = g, ⟨⟨room0, hq1, hq2, l3⟩, Bv.gx' (hs.fa.kp k) g3 fun j hj h => (hs.fo j hj).2 h, fun j hj => ⟨.inl (hs.fo j hj).1, (hs.fo j hj).2⟩, ?_, .inl hs.sr, fun j hj => ?_⟩, gS, fun j hj => hj.imp id fun h => by omega⟩
  · refine ⟨rfl, hc1, hc2, g, none, 0, rest, rfl, .inr rfl, fun h => ?_, hgne, hlg.gx g3 hgne, ⟨Sl.nil .., fun _ => ⟨rfl, rfl⟩, Nat.le_refl _, Nat.zero_le _, fun z hz => by cases hz⟩, (fun j hj => nomatch hj), Nat.le_refl _, Nat.zero_le _⟩
    have := hlt g (hs.fo g h).1
    omega
  · rcases hj with h | h
    · exact Nat.lt_of_lt_of_le (hlt j h) gS.size
    · subst h; exact (hlg.gx g3 hgne).lt
theorem rapp_tail (h : Rx w S r s) {f : List Int × Nat} (hf : s.file = some f) (hx : Bv .u8 w B l c' xs) (hle : f.1.length + l ≤ 16777216) :
    Rt (opt (some (⟨r, 0, none⟩ : Addr)) fun ad214 => opt (w.drew.cell? (Addr.add ad214 1)) fun v215 => tL v215 fun A216 l217 c218 => opt (some (⟨r, 0, none⟩ : Addr)) fun ad219 => opt (w.drew.cell? (Addr.add ad219 1)) fun v220 => tL v220 fun A221 l222 c223 => ixA A221 l222 0 3 fun ad224 => opt (w.drew.cell? (Addr.add ad224 1)) fun v225 => tL v225 fun A226 l227 c228 => rn Tryd.prog (Builtin.append_ #[28, 28] 28 #[.slice none 0 0, .slice A226 l227 c228]) w.drew fun v232 w233 => tL v232 fun A229 l230 c231 => ck (opt (w233.cell? (Addr.add ad214 1)) fun v245 => tL v245 fun A246 l247 c248 => some (.slice A246 l247 c248)) (.slice A216 l217 c218) (rn Tryd.prog (Builtin.append_ #[28, 28] 28 #[.slice A229 l230 c231, .slice B l c']) w233 fun v237 w238 => tL v237 fun A234 l235 c236 => ck (opt (w238.cell? (Addr.add ad214 1)) fun v241 => tL v241 fun A242 l243 c244 => some (.slice A242 l243 c244)) (.slice A216 l217 c218) (ixA A216 l217 0 3 fun ad239 => stC w238 (Addr.add ad239 1) (.slice A234 l235 c236) fun w240 => some (⟨.ret, [.int .i64 0], w240⟩ : Res))))
      fun y => ∃ w' S', y = ⟨.ret, [.int .i64 0], w'⟩ ∧ Rx w' S' r { s with file := some (f.1 ++ xs, f.2) } ∧ Gx S w w' ∧ ∀ j, S' j → S j ∨ w.heap.size ≤ j := by
  obtain ⟨i, hT⟩ := slB
  obtain ⟨A, l0, c, F, e, ⟨room0, hq1, hq2, hl⟩, hfa, hfo, hfl, hsr, hlt⟩ := h
  rw [hf] at hfl
  obtain ⟨rfl, h2, h3, g, B0, e', rest, rfl, h5, h6, h7, h8, h9, h10, h11, h12⟩ := hfl
  have hxl := hx.len
  have kd : Kp w w.drew := (Kp.rfl' w).dr
  have hld := hl.kp kd
  have h8d := h8.kp kd
  (repeat' (first|(with_reducible (first|apply Rt.fin|apply Rt.tL|apply Rt.tI|apply Rt.tB|apply Rt.tS|apply Rt.tP|apply Rt.tD|apply Rt.tM|apply Rt.tC|apply Rt.tN|apply Rt.tA|apply Rt.tG|apply Rt.tF|apply Rt.os|apply Rt.clS|apply Rt.jmN|apply Rt.jbN|apply Rt.jbE|apply Rt.ckR|exact Rt.some' rfl))|((with_reducible (first|apply Rt.ld0|apply Rt.ld1|apply Rt.ld2|apply Rt.ld3|apply Rt.ld4|apply Rt.ld5)); first|assumption|exact Lc.kp (by assumption) (by assumption))|((with_reducible apply Rt.ol); first|assumption|exact cell_kp (by assumption) (by assumption))|fail))
  refine Rt.ix0 (by decide) ?_
  (repeat' (first|(with_reducible (first|apply Rt.fin|apply Rt.tL|apply Rt.tI|apply Rt.tB|apply Rt.tS|apply Rt.tP|apply Rt.tD|apply Rt.tM|apply Rt.tC|apply Rt.tN|apply Rt.tA|apply Rt.tG|apply Rt.tF|apply Rt.os|apply Rt.clS|apply Rt.jmN|apply Rt.jbN|apply Rt.jbE|apply Rt.ckR|exact Rt.some' rfl))|((with_reducible (first|apply Rt.ld0|apply Rt.ld1|apply Rt.ld2|apply Rt.ld3|apply Rt.ld4|apply Rt.ld5)); first|assumption|exact Lc.kp (by assumption) (by assumption))|((with_reducible apply Rt.ol); first|assumption|exact cell_kp (by assumption) (by assumption))|fail))
  refine Rt.app0 hT (h9.kp kd).sl h9.nil (by omega) fun A1 c1 w1 o1 k1 => ?_
  have hl1 := hld.kp k1
  have h81 := h8d.kp k1
  (repeat' (first|(with_reducible (first|apply Rt.fin|apply Rt.tL|apply Rt.tI|apply Rt.tB|apply Rt.tS|apply Rt.tP|apply Rt.tD|apply Rt.tM|apply Rt.tC|apply Rt.tN|apply Rt.tA|apply Rt.tG|apply Rt.tF|apply Rt.os|apply Rt.clS|apply Rt.jmN|apply Rt.jbN|apply Rt.jbE|apply Rt.ckR|exact Rt.some' rfl))|((with_reducible (first|apply Rt.ld0|apply Rt.ld1|apply Rt.ld2|apply Rt.ld3|apply Rt.ld4|apply Rt.ld5)); first|assumption|exact Lc.kp (by assumption) (by assumption))|((with_reducible apply Rt.ol); first|assumption|exact cell_kp (by assumption) (by assumption))|fail))
  have hw1 := k1.size
  have hwd : w.drew.heap.size = w.heap.size := rfl
  refine Rt.appO hT o1 ((hx.kp kd).kp k1).sl hx.nil (by omega) k1.size fun A2 c2 w2 o2 f2 g2 => ?_
  have hO1 : ∀ j, On (.slice A1 f.1.length c1) j → w.heap.size ≤ j := fun j hj => (o1.lt j hj).1
  have hrl := hlt r hsr
  have hgl := hlt g h5
  have hl2 := hl1.gx g2 fun hj => by have := hO1 _ hj; omega
  have h82 := h81.gx g2 fun hj => by have := hO1 _ hj; omega
  (repeat' (first|(with_reducible (first|apply Rt.fin|apply Rt.tL|apply Rt.tI|apply Rt.tB|apply Rt.tS|apply Rt.tP|apply Rt.tD|apply Rt.tM|apply Rt.tC|apply Rt.tN|apply Rt.tA|apply Rt.tG|apply Rt.tF|apply Rt.os|apply Rt.clS|apply Rt.jmN|apply Rt.jbN|apply Rt.jbE|apply Rt.ckR|exact Rt.some' rfl))|((with_reducible (first|apply Rt.ld0|apply Rt.ld1|apply Rt.ld2|apply Rt.ld3|apply Rt.ld4|apply Rt.ld5)); first|assumption|exact Lc.kp (by assumption) (by assumption))|((with_reducible apply Rt.ol); first|assumption|exact cell_kp (by assumption) (by assumption))|fail))
  refine Rt.ix0 (by decide) ?_
  refine Rt.st1 h82 fun w3 l3 g3 => ?_
  have gT : Gx (fun j => On (.slice A1 f.1.length c1) j ∨ j = g) w w3 := ((kd.tr k1).gx.tr (g2.wide fun j _ h => .inl h)).tr (g3.wide fun j _ h => .inr h)
  have gS : Gx S w w3 := gT.wide fun j hj h => h.elim (fun h => by have := hO1 j h; omega) fun h => h ▸ h5
  have hO2 : ∀ j, On (.slice A2 (f.1.length + l) c2) j → w.heap.size ≤ j := fun j hj => (f2 j hj).elim (hO1 j) fun h => by omega
  have hal : (f.1 ++ xs).length = f.1.length + l := by rw [List.length_append, hxl]
  have hFn : ∀ j, On (.slice F s.fails.length e) j → j < w.heap.size ∧ j ≠ g := fun j hj => ⟨hlt j (hfo j hj).1, fun h => h6 (h ▸ hj)⟩
  have o3 : Own .u8 5 w3 w.drew.heap.size (.slice A2 (f.1.length + l) c2) (f.1 ++ xs) := o2.gx g3 fun j hj h => by have := hO2 j hj; have h : j = g := h; omega
  have hbb : Bytes (f.1 ++ xs) := fun z hz => (List.mem_append.1 hz).elim (h9.rng z) (hx.rng z)
  refine Rt.some' ⟨w3, fun j => S j ∨ On (.slice A2 (f.1.length + l) c2) j, rfl, ⟨_, 1, c, F, e, ⟨room0, hq1, hq2, hl2.gx g3 fun h => h7 h.symm⟩, Bv.gx' hfa gT fun j hj h => h.elim (fun h => by have := hO1 j h; have := (hFn j hj).1; omega) (hFn j hj).2, fun j hj => ⟨.inl (hfo j hj).1, (hfo j hj).2⟩, ?_, .inl hsr, fun j hj => ?_⟩, gS, fun j hj => hj.imp id (hO2 j)⟩
  · have hb3 := o3.bv hbb
    rw [← hal] at hb3
    refine ⟨rfl, h2, h3, g, A2, c2, rest, rfl, .inl h5, h6, h7, ?_, hb3, fun j hj => ?_, ?_, by rw [hal]; omega⟩
    · show Lc w3 g (.string nl :: .slice A2 (f.1 ++ xs).length c2 :: .int .i64 (f.2 : Int) :: rest)
      rw [hal]; exact l3
    · dsimp only at hj
      rw [hal] at hj
      have := hO2 j hj
      exact ⟨.inr hj, by omega, by omega⟩
    · show f.2 ≤ (f.1 ++ xs).length
      rw [hal]; omega
  · rcases hj with h | h
    · exact Nat.lt_of_lt_of_le (hlt j h) gS.size
    · exact (o3.lt j h).2
theorem new_ways {X : List Value → World → Option Res} {Q : Res → Prop} (h : RxA w S r s none 0 0 F e)
    (hX : ∀ w' S', Rx w' S' r { s with file := some ([], 0) } → Gx S w w' → (∀ j, S' j → S j ∨ w.heap.size ≤ j) → Rt (X [pt r, .slice B l c', .int .i64 0] w') Q) :
    Rt (Big.jm (cond (butteryref6_Disk_Append.ob0 w) (opt (some (⟨r, 0, none⟩ : Addr)) fun ad105 => opt (w.drew.cell? (Addr.add ad105 1)) fun v106 => tL v106 fun A107 l108 c109 => cutS A107 c109 0 0 3 fun A110 l111 c112 => rn Tryd.prog (Builtin.append_ #[75, 75] 75 #[(.slice none 0 0), (.slice A110 l111 c112)]) w.drew fun v116 w117 => tL v116 fun A113 l114 c115 => al w117 #[(.string nl), (.slice none 0 0), (.int .i64 0)] 83 fun w118 => rn Tryd.prog (Builtin.append_ #[75, 75] 75 #[(.slice A113 l114 c115), (.slice (some ⟨w117.heap.size, 0, none⟩) 1 1)]) w118 fun v122 w123 => tL v122 fun A119 l120 c121 => opt (some (⟨r, 0, none⟩ : Addr)) fun ad124 => opt (w123.cell? (Addr.add ad124 1)) fun v125 => tL v125 fun A126 l127 c128 => ck (opt (w118.cell? (Addr.add ad124 1)) fun v147 => tL v147 fun A148 l149 c150 => some (.slice A148 l149 c150)) (.slice A126 l127 c128) (ck (opt (w117.cell? (Addr.add ad124 1)) fun v143 => tL v143 fun A144 l145 c146 => some (.slice A144 l145 c146)) (.slice A126 l127 c128) (ck (opt (w.drew.cell? (Addr.add ad124 1)) fun v139 => tL v139 fun A140 l141 c142 => some (.slice A140 l141 c142)) (.slice A126 l127 c128) (cutS A126 c128 0 (l127 : Int) 3 fun A129 l130 c131 => rn Tryd.prog (Builtin.append_ #[75, 75] 75 #[(.slice A119 l120 c121), (.slice A129 l130 c131)]) w123 fun v135 w136 => tL v135 fun A132 l133 c134 => opt (some (⟨r, 0, none⟩ : Addr)) fun ad137 => stC w136 (Addr.add ad137 1) (.slice A132 l133 c134) fun w138 => some (⟨.norm, [pt r, (.slice B l c'), (.int .i64 0)], w138⟩ : Res))))) (opt (some (⟨r, 0, none⟩ : Addr)) fun ad151 => opt (w.drew.cell? (Addr.add ad151 1)) fun v152 => tL v152 fun A153 l154 c155 => cutS A153 c155 0 0 3 fun A156 l157 c158 => al w.drew #[(.string nl), (.slice none 0 0), (.int .i64 0)] 83 fun w159 => ck (opt (w159.cell? (Addr.add ad151 1)) fun v197 => tL v197 fun A198 l199 c200 => some (.slice A198 l199 c200)) (.slice A153 l154 c155) (rn Tryd.prog (Builtin.append_ #[75, 75] 75 #[(.slice none 0 0), (.slice A156 l157 c158)]) w159 fun v163 w164 => tL v163 fun A160 l161 c162 => rn Tryd.prog (Builtin.append_ #[75, 75] 75 #[(.slice A160 l161 c162), (.slice (some ⟨w.drew.heap.size, 0, none⟩) 1 1)]) w164 fun v168 w169 => tL v168 fun A165 l166 c167 => opt (some (⟨r, 0, none⟩ : Addr)) fun ad170 => opt (w169.cell? (Addr.add ad170 1)) fun v171 => tL v171 fun A172 l173 c174 => ck (opt (w164.cell? (Addr.add ad170 1)) fun v193 => tL v193 fun A194 l195 c196 => some (.slice A194 l195 c196)) (.slice A172 l173 c174) (ck (opt (w159.cell? (Addr.add ad170 1)) fun v189 => tL v189 fun A190 l191 c192 => some (.slice A190 l191 c192)) (.slice A172 l173 c174) (ck (opt (w.drew.cell? (Addr.add ad170 1)) fun v185 => tL v185 fun A186 l187 c188 => some (.slice A186 l187 c188)) (.slice A172 l173 c174) (cutS A172 c174 0 (l173 : Int) 3 fun A175 l176 c177 => rn Tryd.prog (Builtin.append_ #[75, 75] 75 #[(.slice A165 l166 c167), (.slice A175 l176 c177)]) w169 fun v181 w182 => tL v181 fun A178 l179 c180 => opt (some (⟨r, 0, none⟩ : Addr)) fun ad183 => stC w182 (Addr.add ad183 1) (.slice A178 l179 c180) fun w184 => some (⟨.norm, [pt r, (.slice B l c'), (.int .i64 0)], w184⟩ : Res))))))) X) Q := by
  obtain ⟨room0, hq1, hq2, hl⟩ := id h.lc
  have hlt := h.lt
  have hrl := hlt r h.sr
  have kd : Kp w w.drew := (Kp.rfl' w).dr
  have hwd : w.drew.heap.size = w.heap.size := rfl
  have hld := hl.kp kd
  refine Rt.jm (Rt.cB (fun _ => ?_) fun _ => ?_)
  · (repeat' (first|(with_reducible (first|apply Rt.fin|apply Rt.tL|apply Rt.tI|apply Rt.tB|apply Rt.tS|apply Rt.tP|apply Rt.tD|apply Rt.tM|apply Rt.tC|apply Rt.tN|apply Rt.tA|apply Rt.tG|apply Rt.tF|apply Rt.os|apply Rt.clS|apply Rt.jmN|apply Rt.jbN|apply Rt.jbE|apply Rt.ckR|exact Rt.some' rfl))|((with_reducible (first|apply Rt.ld0|apply Rt.ld1|apply Rt.ld2|apply Rt.ld3|apply Rt.ld4|apply Rt.ld5)); first|assumption|exact Lc.kp (by assumption) (by assumption))|((with_reducible apply Rt.ol); first|assumption|exact cell_kp (by assumption) (by assumption))|fail))
    rw [cut_nil]
    refine Rt.appN fun A1 c1 w1 o1 k1 => ?_
    have hl1 := hld.kp k1
    (repeat' (first|(with_reducible (first|apply Rt.fin|apply Rt.tL|apply Rt.tI|apply Rt.tB|apply Rt.tS|apply Rt.tP|apply Rt.tD|apply Rt.tM|apply Rt.tC|apply Rt.tN|apply Rt.tA|apply Rt.tG|apply Rt.tF|apply Rt.os|apply Rt.clS|apply Rt.jmN|apply Rt.jbN|apply Rt.jbE|apply Rt.ckR|exact Rt.some' rfl))|((with_reducible (first|apply Rt.ld0|apply Rt.ld1|apply Rt.ld2|apply Rt.ld3|apply Rt.ld4|apply Rt.ld5)); first|assumption|exact Lc.kp (by assumption) (by assumption))|((with_reducible apply Rt.ol); first|assumption|exact cell_kp (by assumption) (by assumption))|fail))
    refine Rt.al fun w2 l2 k2 s2 => ?_
    have hl2 := hl1.kp k2
    have hw1 := k1.size
    have hw2 := k2.size
    refine Rt.appN2 (o1.kp k2) l2 (by omega) fun A3 c3 w3 o3 g3 => ?_
    have hv : ∀ j, On (.slice A1 0 c1) j → w.heap.size ≤ j := fun j hj => (o1.lt j hj).1
    have hl3 := hl2.gx g3 fun hj => by have := hv _ hj; omega
    (repeat' (first|(with_reducible (first|apply Rt.fin|apply Rt.tL|apply Rt.tI|apply Rt.tB|apply Rt.tS|apply Rt.tP|apply Rt.tD|apply Rt.tM|apply Rt.tC|apply Rt.tN|apply Rt.tA|apply Rt.tG|apply Rt.tF|apply Rt.os|apply Rt.clS|apply Rt.jmN|apply Rt.jbN|apply Rt.jbE|apply Rt.ckR|exact Rt.some' rfl))|((with_reducible (first|apply Rt.ld0|apply Rt.ld1|apply Rt.ld2|apply Rt.ld3|apply Rt.ld4|apply Rt.ld5)); first|assumption|exact Lc.kp (by assumption) (by assumption))|((with_reducible apply Rt.ol); first|assumption|exact cell_kp (by assumption) (by assumption))|fail))
    rw [show (((0 : Nat) : Int)) = 0 from rfl, cut_nil]
    have k3 : Kp w w3 := (kd.tr (k1.tr k2)).tx g3 hv
    refine Rt.appN1 o3 (by have := k3.size; omega) fun A4 c4 w4 o4 g4 => ?_
    have hv3 : ∀ j, On (.slice A3 1 c3) j → w.heap.size ≤ j := fun j hj => (o3.lt j hj).1
    have hl4 := hl3.gx g4 fun hj => by have := hv3 _ hj; omega
    have k4 : Kp w w4 := k3.tx g4 hv3
    (repeat' (first|(with_reducible (first|apply Rt.fin|apply Rt.tL|apply Rt.tI|apply Rt.tB|apply Rt.tS|apply Rt.tP|apply Rt.tD|apply Rt.tM|apply Rt.tC|apply Rt.tN|apply Rt.tA|apply Rt.tG|apply Rt.tF|apply Rt.os|apply Rt.clS|apply Rt.jmN|apply Rt.jbN|apply Rt.jbE|apply Rt.ckR|exact Rt.some' rfl))|((with_reducible (first|apply Rt.ld0|apply Rt.ld1|apply Rt.ld2|apply Rt.ld3|apply Rt.ld4|apply Rt.ld5)); first|assumption|exact Lc.kp (by assumption) (by assumption))|((with_reducible apply Rt.ol); first|assumption|exact cell_kp (by assumption) (by assumption))|fail))
    refine Rt.st1 hl4 fun w5 l5 g5 => ?_
    obtain ⟨S', n1, n2, n3⟩ := new_file h hq1 hq2 k4 o4 l5 g5
    exact Rt.some' ⟨rfl, hX w5 S' ⟨_, _, _, _, _, n1⟩ n2 n3⟩
  · (repeat' (first|(with_reducible (first|apply Rt.fin|apply Rt.tL|apply Rt.tI|apply Rt.tB|apply Rt.tS|apply Rt.tP|apply Rt.tD|apply Rt.tM|apply Rt.tC|apply Rt.tN|apply Rt.tA|apply Rt.tG|apply Rt.tF|apply Rt.os|apply Rt.clS|apply Rt.jmN|apply Rt.jbN|apply Rt.jbE|apply Rt.ckR|exact Rt.some' rfl))|((with_reducible (first|apply Rt.ld0|apply Rt.ld1|apply Rt.ld2|apply Rt.ld3|apply Rt.ld4|apply Rt.ld5)); first|assumption|exact Lc.kp (by assumption) (by assumption))|((with_reducible apply Rt.ol); first|assumption|exact cell_kp (by assumption) (by assumption))|fail))
    rw [cut_nil]
    refine Rt.al fun w2 l2 k2 s2 => ?_
    have hl2 := hld.kp k2
    (repeat' (first|(with_reducible (first|apply Rt.fin|apply Rt.tL|apply Rt.tI|apply Rt.tB|apply Rt.tS|apply Rt.tP|apply Rt.tD|apply Rt.tM|apply Rt.tC|apply Rt.tN|apply Rt.tA|apply Rt.tG|apply Rt.tF|apply Rt.os|apply Rt.clS|apply Rt.jmN|apply Rt.jbN|apply Rt.jbE|apply Rt.ckR|exact Rt.some' rfl))|((with_reducible (first|apply Rt.ld0|apply Rt.ld1|apply Rt.ld2|apply Rt.ld3|apply Rt.ld4|apply Rt.ld5)); first|assumption|exact Lc.kp (by assumption) (by assumption))|((with_reducible apply Rt.ol); first|assumption|exact cell_kp (by assumption) (by assumption))|fail))
    have hw2 := k2.size
    refine Rt.appN fun A1 c1 w1 o1 k1 => ?_
    have hl1 := hl2.kp k1
    (repeat' (first|(with_reducible (first|apply Rt.fin|apply Rt.tL|apply Rt.tI|apply Rt.tB|apply Rt.tS|apply Rt.tP|apply Rt.tD|apply Rt.tM|apply Rt.tC|apply Rt.tN|apply Rt.tA|apply Rt.tG|apply Rt.tF|apply Rt.os|apply Rt.clS|apply Rt.jmN|apply Rt.jbN|apply Rt.jbE|apply Rt.ckR|exact Rt.some' rfl))|((with_reducible (first|apply Rt.ld0|apply Rt.ld1|apply Rt.ld2|apply Rt.ld3|apply Rt.ld4|apply Rt.ld5)); first|assumption|exact Lc.kp (by assumption) (by assumption))|((with_reducible apply Rt.ol); first|assumption|exact cell_kp (by assumption) (by assumption))|fail))
    have hw1 := k1.size
    refine Rt.appN2 o1 (l2.kp k1) (by omega) fun A3 c3 w3 o3 g3 => ?_
    have hv : ∀ j, On (.slice A1 0 c1) j → w.heap.size ≤ j := fun j hj => by have := (o1.lt j hj).1; omega
    have hl3 := hl1.gx g3 fun hj => by have := hv _ hj; omega
    (repeat' (first|(with_reducible (first|apply Rt.fin|apply Rt.tL|apply Rt.tI|apply Rt.tB|apply Rt.tS|apply Rt.tP|apply Rt.tD|apply Rt.tM|apply Rt.tC|apply Rt.tN|apply Rt.tA|apply Rt.tG|apply Rt.tF|apply Rt.os|apply Rt.clS|apply Rt.jmN|apply Rt.jbN|apply Rt.jbE|apply Rt.ckR|exact Rt.some' rfl))|((with_reducible (first|apply Rt.ld0|apply Rt.ld1|apply Rt.ld2|apply Rt.ld3|apply Rt.ld4|apply Rt.ld5)); first|assumption|exact Lc.kp (by assumption) (by assumption))|((with_reducible apply Rt.ol); first|assumption|exact cell_kp (by assumption) (by assumption))|fail))
    rw [show (((0 : Nat) : Int)) = 0 from rfl, cut_nil]
    have k3 : Kp w w3 := (kd.tr (k2.tr k1)).tx g3 hv
    refine Rt.appN1 o3 (by have := g3.size; omega) fun A4 c4 w4 o4 g4 => ?_
    have hv3 : ∀ j, On (.slice A3 1 c3) j → w.heap.size ≤ j := fun j hj => by have := (o3.lt j hj).1; omega
    have hl4 := hl3.gx g4 fun hj => by have := hv3 _ hj; omega
    have k4 : Kp w w4 := k3.tx g4 hv3
    (repeat' (first|(with_reducible (first|apply Rt.fin|apply Rt.tL|apply Rt.tI|apply Rt.tB|apply Rt.tS|apply Rt.tP|apply Rt.tD|apply Rt.tM|apply Rt.tC|apply Rt.tN|apply Rt.tA|apply Rt.tG|apply Rt.tF|apply Rt.os|apply Rt.clS|apply Rt.jmN|apply Rt.jbN|apply Rt.jbE|apply Rt.ckR|exact Rt.some' rfl))|((with_reducible (first|apply Rt.ld0|apply Rt.ld1|apply Rt.ld2|apply Rt.ld3|apply Rt.ld4|apply Rt.ld5)); first|assumption|exact Lc.kp (by assumption) (by assumption))|((with_reducible apply Rt.ol); first|assumption|exact cell_kp (by assumption) (by assumption))|fail))
    refine Rt.st1 hl4 fun w5 l5 g5 => ?_
    obtain ⟨S', n1, n2, n3⟩ := new_file h hq1 hq2 k4 (o4.mono (by omega)) l5 g5
    exact Rt.some' ⟨rfl, hX w5 S' ⟨_, _, _, _, _, n1⟩ n2 n3⟩
end
end Go.Proofs.YtdcdgmiojlldaaaDoor.Wl
/- The definition's disk: Append, Crash. -/
namespace Go.Proofs.YtdcdgmiojlldaaaDoor.Wl
open Go Big Go.RowKit Go.IntWalk Var Low Par
set_option linter.unusedVariables false
set_option linter.unusedSimpArgs false
open Fr (sm hsm IsPut IsLog byEl upTo)
open Ba (bv opEl bytesB OpD batchP encB checkC numC rightO)
section
variable {α : Type} {Q : α → Prop} {n m : Nat} {w w' w0 w1 : World} {A B C F : Option Addr} {l c c' d base e g b L cl rc : Nat} {k q cls keep : Int} {x o zs xs : List Int} {S S' T N : Nat → Prop} {s : DS} {sync : Bool} {r : Nat}
theorem Rt.room {room0 : Int} {V : Int → α} (hq : s.room = (if 0 < room0 then room0 else 0)) (h : Rt (some (V s.room)) Q) : Rt (cond (decide (room0 < 0)) (some (V 0)) (some (V room0))) Q := by
  refine Rt.cD (fun h0 => ?_) fun h0 => ?_
  · rw [hq, if_neg (by omega)] at h; exact h
  · by_cases h1 : 0 < room0
    · rw [hq, if_pos h1] at h; exact h
    · have : room0 = 0 := by omega
      rw [hq, if_neg h1] at h; rw [this]; exact h
theorem RAppend_spec (h : Rx w S r s) (hx : Stb (fun j => S j ∨ w.heap.size ≤ j) (fun w => Bv .u8 w B l c' xs) w) (hl40 : l ≤ 2 ^ 40) (hn : 10 < n) : Rt (butteryref6_Disk_Append n [pt r, .string nl, .slice B l c'] w) (RF S w [.int .i64 (s.append xs).1] fun S' w' => Rx w' S' r (s.append xs).2) := by
  obtain ⟨A, L, c, F, e, h⟩ := h
  have hxl := hx.out.len
  have hst : ∀ {w' : World}, Gx S w w' → Bv .u8 w' B l c' xs := fun g => hx _ (g.wide fun _ _ h => .inl h)
  rw [butteryref6_Disk_Append_eq]
  obtain ⟨_, hr1, w1, F1, e1, rfl, h1, g1⟩ := down_spec h
  refine Rt.fin (Rt.cl hr1 ?_)
  (repeat' (first|(with_reducible (first|apply Rt.fin|apply Rt.tL|apply Rt.tI|apply Rt.tB|apply Rt.tS|apply Rt.tP|apply Rt.tD|apply Rt.tM|apply Rt.tC|apply Rt.tN|apply Rt.tA|apply Rt.tG|apply Rt.tF|apply Rt.os|apply Rt.clS|apply Rt.jmN|apply Rt.jbN|apply Rt.jbE|apply Rt.ckR|exact Rt.some' rfl))|((with_reducible (first|apply Rt.ld0|apply Rt.ld1|apply Rt.ld2|apply Rt.ld3|apply Rt.ld4|apply Rt.ld5)); first|assumption|exact Lc.kp (by assumption) (by assumption))|((with_reducible apply Rt.ol); first|assumption|exact cell_kp (by assumption) (by assumption))|fail))
  by_cases hb : s.begin.1 = 0
  · refine Rt.cF (by simpa using hb) ?_
    refine Rt.cBt (Named_spec hn) trivial fun w2 k2 => ?_
    refine Rt.cF rfl ?_
    have h2 := h1.kp k2
    obtain ⟨_, hr3, w3, rfl, k3⟩ := at_spec h2 hn
    refine Rt.cl hr3 ?_
    (repeat' (first|(with_reducible (first|apply Rt.fin|apply Rt.tL|apply Rt.tI|apply Rt.tB|apply Rt.tS|apply Rt.tP|apply Rt.tD|apply Rt.tM|apply Rt.tC|apply Rt.tN|apply Rt.tA|apply Rt.tG|apply Rt.tF|apply Rt.os|apply Rt.clS|apply Rt.jmN|apply Rt.jbN|apply Rt.jbE|apply Rt.ckR|exact Rt.some' rfl))|((with_reducible (first|apply Rt.ld0|apply Rt.ld1|apply Rt.ld2|apply Rt.ld3|apply Rt.ld4|apply Rt.ld5)); first|assumption|exact Lc.kp (by assumption) (by assumption))|((with_reducible apply Rt.ol); first|assumption|exact cell_kp (by assumption) (by assumption))|fail))
    have h3 := h2.kp k3
    have g3 : Gx S w w3 := g1.tr (k2.tr k3).gx
    have hlen := s.begin_len
    obtain ⟨room0, hq1, hq2, hl⟩ := h3.lc
    have hroom : s.begin.2.room = s.room := s.begin_file.2
    rw [hroom] at hq1
    have hfl := h3.fl
    rw [s.begin_file.1] at hfl ⊢
    have hle : s.len ≤ 16777216 := by
      unfold DS.len
      cases hf : s.file with
      | none => exact Nat.zero_le _
      | some f => rw [hf] at hfl; obtain ⟨_, _, _, g, B9, e9, rest, _, _, _, _, _, _, _, _, h12⟩ := hfl; exact h12
    have e3 : (xs.length : Int) > 16777216 - s.len → s.append xs = (3, s.begin.2) := fun hc => by unfold DS.append; rw [if_neg (by simpa using hb), if_pos hc]
    have e7 : ¬ ((xs.length : Int) > 16777216 - s.len) → (xs.length : Int) > s.room - s.len → s.append xs = (7, s.begin.2) := fun hc hc2 => by unfold DS.append; rw [if_neg (by simpa using hb), if_neg hc, if_pos hc2]
    have e0 : ¬ ((xs.length : Int) > 16777216 - s.len) → ¬ ((xs.length : Int) > s.room - s.len) → s.append xs = (0, { s.begin.2 with file := some (match s.file with | none => (xs, 0) | some f => (f.1 ++ xs, f.2)) }) := fun hc hc2 => by unfold DS.append; rw [if_neg (by simpa using hb), if_neg hc, if_neg hc2] <;> rfl
    have stop : ∀ {v : Int}, s.append xs = (v, s.begin.2) → RF S w [.int .i64 (s.append xs).1] (fun S' w' => Rx w' S' r (s.append xs).2) ([.int .i64 v], w3) := fun {v} he => by
      rw [he]; exact ⟨w3, S, rfl, g3, fun _ h => .inl h, _, _, _, _, _, h3⟩
    have hu := RUsed_spec (n := n) h3 hn
    rw [hlen] at hu
    obtain ⟨_, hu, rfl⟩ := hu
    have ew1 : IntKind.i64.wrap ((s.len : Int) + (l : Int)) = s.len + l := i64_in _ (by omega)
    cases hf : s.file with
    | none =>
      have hl0 : s.len = 0 := by unfold DS.len; rw [hf]
      rw [hf] at hfl
      obtain ⟨rfl, rfl, rfl⟩ := hfl
      rw [show decide ((none : Option (List Int × Nat)) ≠ none) = false by simp]
      refine Rt.jm (Rt.cF rfl (Rt.some' ⟨rfl, ?_⟩))
      (repeat' (first|(with_reducible (first|apply Rt.fin|apply Rt.tL|apply Rt.tI|apply Rt.tB|apply Rt.tS|apply Rt.tP|apply Rt.tD|apply Rt.tM|apply Rt.tC|apply Rt.tN|apply Rt.tA|apply Rt.tG|apply Rt.tF|apply Rt.os|apply Rt.clS|apply Rt.jmN|apply Rt.jbN|apply Rt.jbE|apply Rt.ckR|exact Rt.some' rfl))|((with_reducible (first|apply Rt.ld0|apply Rt.ld1|apply Rt.ld2|apply Rt.ld3|apply Rt.ld4|apply Rt.ld5)); first|assumption|exact Lc.kp (by assumption) (by assumption))|((with_reducible apply Rt.ol); first|assumption|exact cell_kp (by assumption) (by assumption))|fail))
      have ew0 : IntKind.i64.wrap (0 + (l : Int)) = s.len + l := by rw [i64_in _ (by omega)]; omega
      rw [ew0]
      refine Rt.jmX (Rt.cD (fun hc => Rt.some' (.inr ⟨by simp, rfl, stop (e3 (by omega))⟩)) fun hc => Rt.cT rfl ?_)
      (repeat' (first|(with_reducible (first|apply Rt.fin|apply Rt.tL|apply Rt.tI|apply Rt.tB|apply Rt.tS|apply Rt.tP|apply Rt.tD|apply Rt.tM|apply Rt.tC|apply Rt.tN|apply Rt.tA|apply Rt.tG|apply Rt.tF|apply Rt.os|apply Rt.clS|apply Rt.jmN|apply Rt.jbN|apply Rt.jbE|apply Rt.ckR|exact Rt.some' rfl))|((with_reducible (first|apply Rt.ld0|apply Rt.ld1|apply Rt.ld2|apply Rt.ld3|apply Rt.ld4|apply Rt.ld5)); first|assumption|exact Lc.kp (by assumption) (by assumption))|((with_reducible apply Rt.ol); first|assumption|exact cell_kp (by assumption) (by assumption))|fail))
      refine Rt.cDF (by decide) (Rt.some' (.inl ⟨rfl, ?_⟩))
      (repeat' (first|(with_reducible (first|apply Rt.fin|apply Rt.tL|apply Rt.tI|apply Rt.tB|apply Rt.tS|apply Rt.tP|apply Rt.tD|apply Rt.tM|apply Rt.tC|apply Rt.tN|apply Rt.tA|apply Rt.tG|apply Rt.tF|apply Rt.os|apply Rt.clS|apply Rt.jmN|apply Rt.jbN|apply Rt.jbE|apply Rt.ckR|exact Rt.some' rfl))|((with_reducible (first|apply Rt.ld0|apply Rt.ld1|apply Rt.ld2|apply Rt.ld3|apply Rt.ld4|apply Rt.ld5)); first|assumption|exact Lc.kp (by assumption) (by assumption))|((with_reducible apply Rt.ol); first|assumption|exact cell_kp (by assumption) (by assumption))|fail))
      refine Rt.jm ?_
      refine Rt.room (V := fun v => (⟨.norm, [pt r, .string nl, .slice B l c', .int .i64 0, .bool false, .int .i64 v], w3⟩ : Res)) hq1 ?_
      refine Rt.some' ⟨rfl, ?_⟩
      (repeat' (first|(with_reducible (first|apply Rt.fin|apply Rt.tL|apply Rt.tI|apply Rt.tB|apply Rt.tS|apply Rt.tP|apply Rt.tD|apply Rt.tM|apply Rt.tC|apply Rt.tN|apply Rt.tA|apply Rt.tG|apply Rt.tF|apply Rt.os|apply Rt.clS|apply Rt.jmN|apply Rt.jbN|apply Rt.jbE|apply Rt.ckR|exact Rt.some' rfl))|((with_reducible (first|apply Rt.ld0|apply Rt.ld1|apply Rt.ld2|apply Rt.ld3|apply Rt.ld4|apply Rt.ld5)); first|assumption|exact Lc.kp (by assumption) (by assumption))|((with_reducible apply Rt.ol); first|assumption|exact cell_kp (by assumption) (by assumption))|fail))
      refine Rt.cl hu ?_
      (repeat' (first|(with_reducible (first|apply Rt.fin|apply Rt.tL|apply Rt.tI|apply Rt.tB|apply Rt.tS|apply Rt.tP|apply Rt.tD|apply Rt.tM|apply Rt.tC|apply Rt.tN|apply Rt.tA|apply Rt.tG|apply Rt.tF|apply Rt.os|apply Rt.clS|apply Rt.jmN|apply Rt.jbN|apply Rt.jbE|apply Rt.ckR|exact Rt.some' rfl))|((with_reducible (first|apply Rt.ld0|apply Rt.ld1|apply Rt.ld2|apply Rt.ld3|apply Rt.ld4|apply Rt.ld5)); first|assumption|exact Lc.kp (by assumption) (by assumption))|((with_reducible apply Rt.ol); first|assumption|exact cell_kp (by assumption) (by assumption))|fail))
      rw [ew1]
      refine Rt.cD (fun hc2 => Rt.some' ⟨rfl, stop (e7 (by omega) (by omega))⟩) fun hc2 => ?_
      have he0 := e0 (by omega) (by omega)
      rw [hf] at he0
      refine new_ways h3 fun w4 S4 h4 g4 hs4 => ?_
      have g04 := g3.tr g4
      refine Rt.mono (rapp_tail h4 rfl (hst g04) (by simp; omega)) ?_
      rintro _ ⟨w5, S5, rfl, h5, g5, hs5⟩
      rw [he0]
      have := g3.size
      have := g4.size
      refine ⟨rfl, w5, S5, rfl, g04.tr' g5 fun j hj h => (hs4 j h).elim id fun h => by omega, fun j hj => (hs5 j hj).elim (fun h => (hs4 j h).imp id fun h => by omega) fun h => .inr (by omega), h5⟩
    | some f =>
      have hl0 : s.len = f.1.length := by unfold DS.len; rw [hf]
      rw [hf] at hfl
      obtain ⟨rfl, i2, i3, g, B0, e', rest, rfl, i5, i6, i7, i8, i9, i10, i11, i12⟩ := hfl
      rw [show decide ((some f : Option (List Int × Nat)) ≠ none) = true by simp]
      refine Rt.jm (Rt.cT rfl ?_)
      (repeat' (first|(with_reducible (first|apply Rt.fin|apply Rt.tL|apply Rt.tI|apply Rt.tB|apply Rt.tS|apply Rt.tP|apply Rt.tD|apply Rt.tM|apply Rt.tC|apply Rt.tN|apply Rt.tA|apply Rt.tG|apply Rt.tF|apply Rt.os|apply Rt.clS|apply Rt.jmN|apply Rt.jbN|apply Rt.jbE|apply Rt.ckR|exact Rt.some' rfl))|((with_reducible (first|apply Rt.ld0|apply Rt.ld1|apply Rt.ld2|apply Rt.ld3|apply Rt.ld4|apply Rt.ld5)); first|assumption|exact Lc.kp (by assumption) (by assumption))|((with_reducible apply Rt.ol); first|assumption|exact cell_kp (by assumption) (by assumption))|fail))
      refine Rt.ix0 (by decide) ?_
      (repeat' (first|(with_reducible (first|apply Rt.fin|apply Rt.tL|apply Rt.tI|apply Rt.tB|apply Rt.tS|apply Rt.tP|apply Rt.tD|apply Rt.tM|apply Rt.tC|apply Rt.tN|apply Rt.tA|apply Rt.tG|apply Rt.tF|apply Rt.os|apply Rt.clS|apply Rt.jmN|apply Rt.jbN|apply Rt.jbE|apply Rt.ckR|exact Rt.some' rfl))|((with_reducible (first|apply Rt.ld0|apply Rt.ld1|apply Rt.ld2|apply Rt.ld3|apply Rt.ld4|apply Rt.ld5)); first|assumption|exact Lc.kp (by assumption) (by assumption))|((with_reducible apply Rt.ol); first|assumption|exact cell_kp (by assumption) (by assumption))|fail))
      refine Rt.some' ⟨rfl, ?_⟩
      (repeat' (first|(with_reducible (first|apply Rt.fin|apply Rt.tL|apply Rt.tI|apply Rt.tB|apply Rt.tS|apply Rt.tP|apply Rt.tD|apply Rt.tM|apply Rt.tC|apply Rt.tN|apply Rt.tA|apply Rt.tG|apply Rt.tF|apply Rt.os|apply Rt.clS|apply Rt.jmN|apply Rt.jbN|apply Rt.jbE|apply Rt.ckR|exact Rt.some' rfl))|((with_reducible (first|apply Rt.ld0|apply Rt.ld1|apply Rt.ld2|apply Rt.ld3|apply Rt.ld4|apply Rt.ld5)); first|assumption|exact Lc.kp (by assumption) (by assumption))|((with_reducible apply Rt.ol); first|assumption|exact cell_kp (by assumption) (by assumption))|fail))
      have ew0 : IntKind.i64.wrap ((f.1.length : Int) + (l : Int)) = s.len + l := by rw [i64_in _ (by omega)]; omega
      rw [ew0]
      refine Rt.jmX (Rt.cD (fun hc => Rt.some' (.inr ⟨by simp, rfl, stop (e3 (by omega))⟩)) fun hc => Rt.cF rfl (Rt.some' (.inl ⟨rfl, ?_⟩)))
      (repeat' (first|(with_reducible (first|apply Rt.fin|apply Rt.tL|apply Rt.tI|apply Rt.tB|apply Rt.tS|apply Rt.tP|apply Rt.tD|apply Rt.tM|apply Rt.tC|apply Rt.tN|apply Rt.tA|apply Rt.tG|apply Rt.tF|apply Rt.os|apply Rt.clS|apply Rt.jmN|apply Rt.jbN|apply Rt.jbE|apply Rt.ckR|exact Rt.some' rfl))|((with_reducible (first|apply Rt.ld0|apply Rt.ld1|apply Rt.ld2|apply Rt.ld3|apply Rt.ld4|apply Rt.ld5)); first|assumption|exact Lc.kp (by assumption) (by assumption))|((with_reducible apply Rt.ol); first|assumption|exact cell_kp (by assumption) (by assumption))|fail))
      refine Rt.jm ?_
      refine Rt.room (V := fun v => (⟨.norm, [pt r, .string nl, .slice B l c', .int .i64 0, .bool true, .int .i64 v], w3⟩ : Res)) hq1 ?_
      refine Rt.some' ⟨rfl, ?_⟩
      (repeat' (first|(with_reducible (first|apply Rt.fin|apply Rt.tL|apply Rt.tI|apply Rt.tB|apply Rt.tS|apply Rt.tP|apply Rt.tD|apply Rt.tM|apply Rt.tC|apply Rt.tN|apply Rt.tA|apply Rt.tG|apply Rt.tF|apply Rt.os|apply Rt.clS|apply Rt.jmN|apply Rt.jbN|apply Rt.jbE|apply Rt.ckR|exact Rt.some' rfl))|((with_reducible (first|apply Rt.ld0|apply Rt.ld1|apply Rt.ld2|apply Rt.ld3|apply Rt.ld4|apply Rt.ld5)); first|assumption|exact Lc.kp (by assumption) (by assumption))|((with_reducible apply Rt.ol); first|assumption|exact cell_kp (by assumption) (by assumption))|fail))
      refine Rt.cl hu ?_
      (repeat' (first|(with_reducible (first|apply Rt.fin|apply Rt.tL|apply Rt.tI|apply Rt.tB|apply Rt.tS|apply Rt.tP|apply Rt.tD|apply Rt.tM|apply Rt.tC|apply Rt.tN|apply Rt.tA|apply Rt.tG|apply Rt.tF|apply Rt.os|apply Rt.clS|apply Rt.jmN|apply Rt.jbN|apply Rt.jbE|apply Rt.ckR|exact Rt.some' rfl))|((with_reducible (first|apply Rt.ld0|apply Rt.ld1|apply Rt.ld2|apply Rt.ld3|apply Rt.ld4|apply Rt.ld5)); first|assumption|exact Lc.kp (by assumption) (by assumption))|((with_reducible apply Rt.ol); first|assumption|exact cell_kp (by assumption) (by assumption))|fail))
      rw [ew1]
      refine Rt.cD (fun hc2 => Rt.some' ⟨rfl, stop (e7 (by omega) (by omega))⟩) fun hc2 => ?_
      have he0 := e0 (by omega) (by omega)
      rw [hf] at he0
      refine Rt.jm (Rt.cF rfl (Rt.some' ⟨rfl, ?_⟩))
      refine Rt.mono (rapp_tail ⟨_, _, _, _, _, h3⟩ (s.begin_file.1.trans hf) (hst g3) (by omega)) ?_
      rintro _ ⟨w5, S5, rfl, h5, g5, hs5⟩
      rw [he0]
      have := g3.size
      exact ⟨rfl, w5, S5, rfl, g3.tr g5, fun j hj => (hs5 j hj).imp id fun h => by omega, h5⟩
  · refine Rt.cT (by simpa using hb) ?_
    have e : s.append xs = s.begin := if_pos hb
    have e2 : s.begin.1 = 11 := by
      unfold DS.begin at hb ⊢
      split <;> rename_i he
      · rw [he] at hb; exact absurd rfl hb
      · rw [he] at hb
        dsimp only at hb ⊢
        split at hb
        · exact absurd rfl hb
        · rename_i hne; rw [if_neg hne]
    rw [e, e2]
    exact Rt.some' ⟨rfl, w1, S, rfl, g1, fun _ h => .inl h, _, _, _, _, _, h1⟩
end
end Go.Proofs.YtdcdgmiojlldaaaDoor.Wl
/- The definition's disk: Crash. -/
namespace Go.Proofs.YtdcdgmiojlldaaaDoor.Wl
open Go Big Go.RowKit Go.IntWalk Var Low Par
set_option linter.unusedVariables false
set_option linter.unusedSimpArgs false
open Fr (sm hsm IsPut IsLog byEl upTo)
open Ba (bv opEl bytesB OpD batchP encB checkC numC rightO)
section
variable {α : Type} {Q : α → Prop} {n m : Nat} {w w' w0 w1 : World} {A B C F : Option Addr} {l c c' d base e g b L cl rc : Nat} {k q cls keep : Int} {x o zs xs : List Int} {S S' T N : Nat → Prop} {s : DS} {sync : Bool} {r : Nat}
theorem Rt.pick {p : Prop} [Decidable p] {V : Int → α} {a b v : Int} (h1 : p → v = a) (h2 : ¬p → v = b) (h : Rt (some (V v)) Q) : Rt (cond (decide p) (some (V a)) (some (V b))) Q :=
  Rt.cD (fun hp => by rw [← h1 hp]; exact h) fun hp => by rw [← h2 hp]; exact h
theorem RCrash_spec (h : Rx w S r s) (hk : -2 ^ 63 ≤ keep ∧ keep < 2 ^ 63) (hn : 10 < n) : Rt (butteryref6_Disk_Crash n [pt r, .int .i64 keep] w) fun y => ∃ w' S', y = ([], w') ∧ Rx w' S' r (s.crash keep) ∧ Gx S w w' ∧ ∀ j, S' j → S j ∨ w.heap.size ≤ j := by
  obtain ⟨ib, hT⟩ := slB
  obtain ⟨A, l, c, F, e, ⟨room0, hq1, hq2, hl⟩, hfa, hfo, hfl, hsr, hlt⟩ := h
  rw [butteryref6_Disk_Crash_eq]
  obtain ⟨n, rfl⟩ := Nat.exists_eq_add_of_le' (show 2 ≤ n by omega)
  refine Rt.fin (Rt.jb ?_)
  rw [butteryref6_Disk_Crash.l0_succ]
  (repeat' (first|(with_reducible (first|apply Rt.fin|apply Rt.tL|apply Rt.tI|apply Rt.tB|apply Rt.tS|apply Rt.tP|apply Rt.tD|apply Rt.tM|apply Rt.tC|apply Rt.tN|apply Rt.tA|apply Rt.tG|apply Rt.tF|apply Rt.os|apply Rt.clS|apply Rt.jmN|apply Rt.jbN|apply Rt.jbE|apply Rt.ckR|exact Rt.some' rfl))|((with_reducible (first|apply Rt.ld0|apply Rt.ld1|apply Rt.ld2|apply Rt.ld3|apply Rt.ld4|apply Rt.ld5)); first|assumption|exact Lc.kp (by assumption) (by assumption))|((with_reducible apply Rt.ol); first|assumption|exact cell_kp (by assumption) (by assumption))|fail))
  cases hf : s.file with
  | none =>
    have hfl0 := hfl
    rw [hf] at hfl
    obtain ⟨rfl, rfl, rfl⟩ := hfl
    refine Rt.cDF (by decide) ?_
    refine Rt.some' (.inl ⟨.inr rfl, ?_⟩)
    (repeat' (first|(with_reducible (first|apply Rt.fin|apply Rt.tL|apply Rt.tI|apply Rt.tB|apply Rt.tS|apply Rt.tP|apply Rt.tD|apply Rt.tM|apply Rt.tC|apply Rt.tN|apply Rt.tA|apply Rt.tG|apply Rt.tF|apply Rt.os|apply Rt.clS|apply Rt.jmN|apply Rt.jbN|apply Rt.jbE|apply Rt.ckR|exact Rt.some' rfl))|((with_reducible (first|apply Rt.ld0|apply Rt.ld1|apply Rt.ld2|apply Rt.ld3|apply Rt.ld4|apply Rt.ld5)); first|assumption|exact Lc.kp (by assumption) (by assumption))|((with_reducible apply Rt.ol); first|assumption|exact cell_kp (by assumption) (by assumption))|fail))
    have e0 : s.crash keep = s := by
      obtain ⟨room, file, fails, failed⟩ := s
      dsimp only at hf; subst hf; rfl
    rw [e0]
    exact Rt.some' ⟨rfl, w, S, rfl, ⟨_, _, _, _, _, ⟨room0, hq1, hq2, hl⟩, hfa, hfo, hfl0, hsr, hlt⟩, Gx.rfl' _ _, fun _ h => .inl h⟩
  | some f =>
    rw [hf] at hfl
    obtain ⟨rfl, i2, i3, g, B0, e', rest, rfl, i5, i6, i7, i8, i9, i10, i11, i12⟩ := hfl
    have kd : Kp w w.drew := (Kp.rfl' w).dr
    have hld := hl.kp kd
    have i8d := i8.kp kd
    refine Rt.cDT (by decide) ?_
    (repeat' (first|(with_reducible (first|apply Rt.fin|apply Rt.tL|apply Rt.tI|apply Rt.tB|apply Rt.tS|apply Rt.tP|apply Rt.tD|apply Rt.tM|apply Rt.tC|apply Rt.tN|apply Rt.tA|apply Rt.tG|apply Rt.tF|apply Rt.os|apply Rt.clS|apply Rt.jmN|apply Rt.jbN|apply Rt.jbE|apply Rt.ckR|exact Rt.some' rfl))|((with_reducible (first|apply Rt.ld0|apply Rt.ld1|apply Rt.ld2|apply Rt.ld3|apply Rt.ld4|apply Rt.ld5)); first|assumption|exact Lc.kp (by assumption) (by assumption))|((with_reducible apply Rt.ol); first|assumption|exact cell_kp (by assumption) (by assumption))|fail))
    refine Rt.ix0 (by decide) ?_
    (repeat' (first|(with_reducible (first|apply Rt.fin|apply Rt.tL|apply Rt.tI|apply Rt.tB|apply Rt.tS|apply Rt.tP|apply Rt.tD|apply Rt.tM|apply Rt.tC|apply Rt.tN|apply Rt.tA|apply Rt.tG|apply Rt.tF|apply Rt.os|apply Rt.clS|apply Rt.jmN|apply Rt.jbN|apply Rt.jbE|apply Rt.ckR|exact Rt.some' rfl))|((with_reducible (first|apply Rt.ld0|apply Rt.ld1|apply Rt.ld2|apply Rt.ld3|apply Rt.ld4|apply Rt.ld5)); first|assumption|exact Lc.kp (by assumption) (by assumption))|((with_reducible apply Rt.ol); first|assumption|exact cell_kp (by assumption) (by assumption))|fail))
    refine Rt.ix0 (by decide) ?_
    (repeat' (first|(with_reducible (first|apply Rt.fin|apply Rt.tL|apply Rt.tI|apply Rt.tB|apply Rt.tS|apply Rt.tP|apply Rt.tD|apply Rt.tM|apply Rt.tC|apply Rt.tN|apply Rt.tA|apply Rt.tG|apply Rt.tF|apply Rt.os|apply Rt.clS|apply Rt.jmN|apply Rt.jbN|apply Rt.jbE|apply Rt.ckR|exact Rt.some' rfl))|((with_reducible (first|apply Rt.ld0|apply Rt.ld1|apply Rt.ld2|apply Rt.ld3|apply Rt.ld4|apply Rt.ld5)); first|assumption|exact Lc.kp (by assumption) (by assumption))|((with_reducible apply Rt.ol); first|assumption|exact cell_kp (by assumption) (by assumption))|fail))
    have e1 : IntKind.i64.wrap ((f.1.length : Int) - f.2) = ((f.1.length - f.2 : Nat) : Int) := by rw [i64_in _ (by omega)]; omega
    rw [e1]
    refine Rt.jm ?_
    refine Rt.pick (v := (keep.toNat : Int)) (V := fun v => (⟨.norm, [pt r, .int .i64 keep, .int .i64 0, .int .i64 ((f.1.length - f.2 : Nat) : Int), .int .i64 v], w.drew⟩ : Res)) (fun h => by omega) (fun h => by omega) ?_
    refine Rt.some' ⟨rfl, ?_⟩
    (repeat' (first|(with_reducible (first|apply Rt.fin|apply Rt.tL|apply Rt.tI|apply Rt.tB|apply Rt.tS|apply Rt.tP|apply Rt.tD|apply Rt.tM|apply Rt.tC|apply Rt.tN|apply Rt.tA|apply Rt.tG|apply Rt.tF|apply Rt.os|apply Rt.clS|apply Rt.jmN|apply Rt.jbN|apply Rt.jbE|apply Rt.ckR|exact Rt.some' rfl))|((with_reducible (first|apply Rt.ld0|apply Rt.ld1|apply Rt.ld2|apply Rt.ld3|apply Rt.ld4|apply Rt.ld5)); first|assumption|exact Lc.kp (by assumption) (by assumption))|((with_reducible apply Rt.ol); first|assumption|exact cell_kp (by assumption) (by assumption))|fail))
    refine Rt.jm ?_
    refine Rt.pick (v := ((min (f.1.length - f.2) keep.toNat : Nat) : Int)) (V := fun v => (⟨.norm, [pt r, .int .i64 keep, .int .i64 0, .int .i64 v], w.drew⟩ : Res)) (fun h => by omega) (fun h => by omega) ?_
    refine Rt.some' ⟨rfl, ?_⟩
    have kdd : Kp w w.drew.drew := kd.dr
    have hldd := hl.kp kdd
    have i8dd := i8.kp kdd
    (repeat' (first|(with_reducible (first|apply Rt.fin|apply Rt.tL|apply Rt.tI|apply Rt.tB|apply Rt.tS|apply Rt.tP|apply Rt.tD|apply Rt.tM|apply Rt.tC|apply Rt.tN|apply Rt.tA|apply Rt.tG|apply Rt.tF|apply Rt.os|apply Rt.clS|apply Rt.jmN|apply Rt.jbN|apply Rt.jbE|apply Rt.ckR|exact Rt.some' rfl))|((with_reducible (first|apply Rt.ld0|apply Rt.ld1|apply Rt.ld2|apply Rt.ld3|apply Rt.ld4|apply Rt.ld5)); first|assumption|exact Lc.kp (by assumption) (by assumption))|((with_reducible apply Rt.ol); first|assumption|exact cell_kp (by assumption) (by assumption))|fail))
    refine Rt.ix0 (by decide) ?_
    (repeat' (first|(with_reducible (first|apply Rt.fin|apply Rt.tL|apply Rt.tI|apply Rt.tB|apply Rt.tS|apply Rt.tP|apply Rt.tD|apply Rt.tM|apply Rt.tC|apply Rt.tN|apply Rt.tA|apply Rt.tG|apply Rt.tF|apply Rt.os|apply Rt.clS|apply Rt.jmN|apply Rt.jbN|apply Rt.jbE|apply Rt.ckR|exact Rt.some' rfl))|((with_reducible (first|apply Rt.ld0|apply Rt.ld1|apply Rt.ld2|apply Rt.ld3|apply Rt.ld4|apply Rt.ld5)); first|assumption|exact Lc.kp (by assumption) (by assumption))|((with_reducible apply Rt.ol); first|assumption|exact cell_kp (by assumption) (by assumption))|fail))
    refine Rt.ix0 (by decide) ?_
    have e2 : IntKind.i64.wrap ((f.2 : Int) + ((min (f.1.length - f.2) keep.toNat : Nat) : Int)) = (crashN f keep : Int) := by
      rw [i64_in _ (by omega)]; unfold crashN; omega
    rw [e2]
    have hcn : crashN f keep ≤ f.1.length := by unfold crashN; omega
    generalize hK : crashN f keep = K at *
    refine Rt.st2 i8dd fun w2 l2 g2 => ?_
    have k2d : Kp w2 w2.drew := (Kp.rfl' w2).dr
    have l2d := l2.kp k2d
    have hl2 := (hldd.gx g2 fun h => i7 h.symm).kp k2d
    (repeat' (first|(with_reducible (first|apply Rt.fin|apply Rt.tL|apply Rt.tI|apply Rt.tB|apply Rt.tS|apply Rt.tP|apply Rt.tD|apply Rt.tM|apply Rt.tC|apply Rt.tN|apply Rt.tA|apply Rt.tG|apply Rt.tF|apply Rt.os|apply Rt.clS|apply Rt.jmN|apply Rt.jbN|apply Rt.jbE|apply Rt.ckR|exact Rt.some' rfl))|((with_reducible (first|apply Rt.ld0|apply Rt.ld1|apply Rt.ld2|apply Rt.ld3|apply Rt.ld4|apply Rt.ld5)); first|assumption|exact Lc.kp (by assumption) (by assumption))|((with_reducible apply Rt.ol); first|assumption|exact cell_kp (by assumption) (by assumption))|fail))
    refine Rt.ix0 (by decide) ?_
    (repeat' (first|(with_reducible (first|apply Rt.fin|apply Rt.tL|apply Rt.tI|apply Rt.tB|apply Rt.tS|apply Rt.tP|apply Rt.tD|apply Rt.tM|apply Rt.tC|apply Rt.tN|apply Rt.tA|apply Rt.tG|apply Rt.tF|apply Rt.os|apply Rt.clS|apply Rt.jmN|apply Rt.jbN|apply Rt.jbE|apply Rt.ckR|exact Rt.some' rfl))|((with_reducible (first|apply Rt.ld0|apply Rt.ld1|apply Rt.ld2|apply Rt.ld3|apply Rt.ld4|apply Rt.ld5)); first|assumption|exact Lc.kp (by assumption) (by assumption))|((with_reducible apply Rt.ol); first|assumption|exact cell_kp (by assumption) (by assumption))|fail))
    refine Rt.ix0 (by decide) ?_
    (repeat' (first|(with_reducible (first|apply Rt.fin|apply Rt.tL|apply Rt.tI|apply Rt.tB|apply Rt.tS|apply Rt.tP|apply Rt.tD|apply Rt.tM|apply Rt.tC|apply Rt.tN|apply Rt.tA|apply Rt.tG|apply Rt.tF|apply Rt.os|apply Rt.clS|apply Rt.jmN|apply Rt.jbN|apply Rt.jbE|apply Rt.ckR|exact Rt.some' rfl))|((with_reducible (first|apply Rt.ld0|apply Rt.ld1|apply Rt.ld2|apply Rt.ld3|apply Rt.ld4|apply Rt.ld5)); first|assumption|exact Lc.kp (by assumption) (by assumption))|((with_reducible apply Rt.ol); first|assumption|exact cell_kp (by assumption) (by assumption))|fail))
    have i92 := (Bv.gx' (i9.kp kdd) g2 fun j hj h => (i10 j hj).2.2 h).kp k2d
    refine Rt.cut i92 (by omega) (by omega) (by omega) fun B2 hB2 => ?_
    rw [Int.toNat_natCast, show Int.toNat 0 = 0 from rfl, List.drop_zero, Nat.sub_zero, Nat.sub_zero] at hB2
    rw [Int.toNat_natCast, show Int.toNat 0 = 0 from rfl, Nat.sub_zero, Nat.sub_zero]
    refine Rt.app0 hT hB2.sl hB2.nil (by omega) fun A3 c3 w3 o3 k3 => ?_
    have l3 := l2d.kp k3
    have hl3 := hl2.kp k3
    (repeat' (first|(with_reducible (first|apply Rt.fin|apply Rt.tL|apply Rt.tI|apply Rt.tB|apply Rt.tS|apply Rt.tP|apply Rt.tD|apply Rt.tM|apply Rt.tC|apply Rt.tN|apply Rt.tA|apply Rt.tG|apply Rt.tF|apply Rt.os|apply Rt.clS|apply Rt.jmN|apply Rt.jbN|apply Rt.jbE|apply Rt.ckR|exact Rt.some' rfl))|((with_reducible (first|apply Rt.ld0|apply Rt.ld1|apply Rt.ld2|apply Rt.ld3|apply Rt.ld4|apply Rt.ld5)); first|assumption|exact Lc.kp (by assumption) (by assumption))|((with_reducible apply Rt.ol); first|assumption|exact cell_kp (by assumption) (by assumption))|fail))
    refine Rt.ix0 (by decide) ?_
    refine Rt.st1 l3 fun w4 l4 g4 => ?_
    have hl4 := hl3.gx g4 fun h => i7 h.symm
    rw [show IntKind.i64.wrap ((0 : Int) + 1) = 1 by decide, butteryref6_Disk_Crash.l0_succ]
    (repeat' (first|(with_reducible (first|apply Rt.fin|apply Rt.tL|apply Rt.tI|apply Rt.tB|apply Rt.tS|apply Rt.tP|apply Rt.tD|apply Rt.tM|apply Rt.tC|apply Rt.tN|apply Rt.tA|apply Rt.tG|apply Rt.tF|apply Rt.os|apply Rt.clS|apply Rt.jmN|apply Rt.jbN|apply Rt.jbE|apply Rt.ckR|exact Rt.some' rfl))|((with_reducible (first|apply Rt.ld0|apply Rt.ld1|apply Rt.ld2|apply Rt.ld3|apply Rt.ld4|apply Rt.ld5)); first|assumption|exact Lc.kp (by assumption) (by assumption))|((with_reducible apply Rt.ol); first|assumption|exact cell_kp (by assumption) (by assumption))|fail))
    refine Rt.cDF (by decide) ?_
    refine Rt.some' (.inl ⟨.inr rfl, ?_⟩)
    (repeat' (first|(with_reducible (first|apply Rt.fin|apply Rt.tL|apply Rt.tI|apply Rt.tB|apply Rt.tS|apply Rt.tP|apply Rt.tD|apply Rt.tM|apply Rt.tC|apply Rt.tN|apply Rt.tA|apply Rt.tG|apply Rt.tF|apply Rt.os|apply Rt.clS|apply Rt.jmN|apply Rt.jbN|apply Rt.jbE|apply Rt.ckR|exact Rt.some' rfl))|((with_reducible (first|apply Rt.ld0|apply Rt.ld1|apply Rt.ld2|apply Rt.ld3|apply Rt.ld4|apply Rt.ld5)); first|assumption|exact Lc.kp (by assumption) (by assumption))|((with_reducible apply Rt.ol); first|assumption|exact cell_kp (by assumption) (by assumption))|fail))
    have gT : Gx (fun j => j = g) w w4 := (((kdd.gx.tr g2).tr k2d.gx).tr k3.gx).tr g4
    have gS : Gx S w w4 := gT.wide fun j _ h => h ▸ i5
    have hO3 : ∀ j, On (.slice A3 K c3) j → w.heap.size ≤ j := fun j hj => by
      have := (o3.lt j hj).1
      have h3 : w.heap.size ≤ w2.heap.size := g2.size
      have h1 : w2.drew.heap.size = w2.heap.size := rfl
      have h2 : w.drew.drew.heap.size = w.heap.size := rfl
      omega
    have hgl := hlt g i5
    have hrl := hlt r hsr
    have hbt : Bytes (f.1.take K) := fun z hz => i9.rng z (List.mem_of_mem_take hz)
    have hlt' : (f.1.take K).length = K := by rw [List.length_take]; omega
    have o4 : Own .u8 5 w4 w2.drew.heap.size (.slice A3 K c3) (f.1.take K) := o3.gx g4 fun j hj h => by have := hO3 j hj; have h : j = g := h; omega
    have hfile : (s.crash keep).file = some (f.1.take K, K) := by unfold DS.crash; rw [hf]; dsimp only [Option.map_some]; rw [hK]
    refine Rt.some' ⟨rfl, w4, fun j => S j ∨ On (.slice A3 K c3) j, rfl, ⟨_, 1, c, F, e, ⟨room0, hq1, hq2, hl4⟩, Bv.gx' hfa gT fun j hj h => i6 (by have h : j = g := h; rw [← h]; exact hj), fun j hj => ⟨.inl (hfo j hj).1, (hfo j hj).2⟩, ?_, .inl hsr, fun j hj => ?_⟩, gS, fun j hj => hj.imp id (hO3 j)⟩
    · rw [hfile]
      refine ⟨rfl, i2, i3, g, A3, c3, rest, rfl, .inl i5, i6, i7, ?_, ?_, fun j hj => ?_, ?_, ?_⟩
      · show Lc w4 g (.string nl :: .slice A3 (f.1.take K).length c3 :: .int .i64 (K : Int) :: rest)
        rw [hlt']; exact l4
      · show Bv .u8 w4 A3 (f.1.take K).length c3 (f.1.take K)
        rw [hlt']; exact o4.bv hbt
      · have hj : On (.slice A3 (f.1.take K).length c3) j := hj
        rw [hlt'] at hj
        have := hO3 j hj
        exact ⟨.inr hj, by omega, by omega⟩
      · show K ≤ (f.1.take K).length
        rw [hlt']; exact Nat.le_refl _
      · show (f.1.take K).length ≤ _
        rw [hlt']; omega
    · rcases hj with h | h
      · exact Nat.lt_of_lt_of_le (hlt j h) gS.size
      · exact (o4.lt j h).2
end
end Go.Proofs.YtdcdgmiojlldaaaDoor.Wl
/- The definition's log: AppendLog, RecoverLog. -/
namespace Go.Proofs.YtdcdgmiojlldaaaDoor.Wl
open Go Big Go.RowKit Go.IntWalk Var Low Par
set_option linter.unusedVariables false
set_option linter.unusedSimpArgs false
open Fr (sm hsm IsPut byEl lookP_go RAll)
open Ba (bv opEl bytesB OpD batchP encB checkC numC)
section
variable {α : Type} {Q : α → Prop} {n m : Nat} {w w' w0 w1 : World} {A B C R : Option Addr} {l c c' d base e mb p b L rc : Nat} {k q cls : Int} {x r o zs : List Int} {rs : List (List Int)} {S S' T : Nat → Prop} {fp : Option Nat} {s : DS} {sync : Bool}
theorem Rx.lt {r : Nat} (h : Rx w S r s) : ∀ j, S j → j < w.heap.size := by
  obtain ⟨A, l, c, F, e, h⟩ := h
  exact h.lt
theorem Rx.len_le {r : Nat} (h : Rx w S r s) : s.len ≤ 16777216 := by
  obtain ⟨A, l, c, F, e, h⟩ := h
  unfold DS.len
  cases hf : s.file with
  | none => exact Nat.zero_le _
  | some f => have hfl := h.fl; rw [hf] at hfl; obtain ⟨_, _, _, g, B9, e9, rest, _, _, _, _, _, _, _, _, h12⟩ := hfl; exact h12
section
variable {xs : List OpD}
theorem RApp_tail (h : Rx w S d s) {xs : List Int} (hx : Bv .u8 w B l c xs) (hst : Stb (fun j => S j ∨ w.heap.size ≤ j) (fun w => Bv .u8 w B l c xs) w) (hl40 : l ≤ 2 ^ 40) (hn : 10 < n) :
    Rt (cl (butteryref6_Disk_Append n [pt d, .string nl, .slice B l c] w) fun vs52 w53 => tC vs52 fun v54 cs55 => tI .i64 v54 fun n56 => tN cs55 (cond (n56 != 0) (some (⟨.ret, [.int .i64 n56], w53⟩ : Res)) (cond (!sync) (some (⟨.ret, [.int .i64 n56], w53⟩ : Res)) (cl (butteryref6_Disk_Sync n [pt d, .string nl] w53) fun vs57 w58 => tC vs57 fun v59 cs60 => tI .i64 v59 fun n61 => tN cs60 (some (⟨.ret, [.int .i64 n61], w58⟩ : Res))))))
      fun r => ∃ w' S', r = ⟨.ret, [.int .i64 (if (s.append xs).1 ≠ 0 ∨ sync = false then s.append xs else (s.append xs).2.sync).1], w'⟩ ∧ Gx S w w' ∧ (∀ j, S' j → S j ∨ w.heap.size ≤ j) ∧ Rx w' S' d (if (s.append xs).1 ≠ 0 ∨ sync = false then s.append xs else (s.append xs).2.sync).2 := by
  obtain ⟨_, hr, w2, S2, rfl, g2, hs2, h2⟩ := RAppend_spec h hst hl40 hn
  refine Rt.cl hr ?_
  (repeat' (first|(with_reducible (first|apply Rt.fin|apply Rt.tL|apply Rt.tI|apply Rt.tB|apply Rt.tS|apply Rt.tP|apply Rt.tD|apply Rt.tM|apply Rt.tC|apply Rt.tN|apply Rt.tA|apply Rt.tG|apply Rt.tF|apply Rt.os|apply Rt.clS|apply Rt.jmN|apply Rt.jbN|apply Rt.jbE|apply Rt.ckR|exact Rt.some' rfl))|((with_reducible (first|apply Rt.ld0|apply Rt.ld1|apply Rt.ld2|apply Rt.ld3|apply Rt.ld4|apply Rt.ld5)); first|assumption|exact Lc.kp (by assumption) (by assumption))|((with_reducible apply Rt.ol); first|assumption|exact cell_kp (by assumption) (by assumption))|fail))
  refine Rt.cN (fun h0 => ?_) fun h0 => ?_
  · have h0 : (s.append xs).1 = 0 := h0
    cases sync with
    | false =>
      refine Rt.cT rfl (Rt.some' ⟨w2, S2, ?_, g2, hs2, ?_⟩)
      · rw [if_pos (.inr rfl)]
      · rw [if_pos (.inr rfl)]; exact h2
    | true =>
      refine Rt.cF rfl ?_
      obtain ⟨_, hr3, w3, rfl, h3, g3⟩ := RSync_spec h2 hn
      refine Rt.cl hr3 ?_
      (repeat' (first|(with_reducible (first|apply Rt.fin|apply Rt.tL|apply Rt.tI|apply Rt.tB|apply Rt.tS|apply Rt.tP|apply Rt.tD|apply Rt.tM|apply Rt.tC|apply Rt.tN|apply Rt.tA|apply Rt.tG|apply Rt.tF|apply Rt.os|apply Rt.clS|apply Rt.jmN|apply Rt.jbN|apply Rt.jbE|apply Rt.ckR|exact Rt.some' rfl))|((with_reducible (first|apply Rt.ld0|apply Rt.ld1|apply Rt.ld2|apply Rt.ld3|apply Rt.ld4|apply Rt.ld5)); first|assumption|exact Lc.kp (by assumption) (by assumption))|((with_reducible apply Rt.ol); first|assumption|exact cell_kp (by assumption) (by assumption))|fail))
      refine Rt.some' ⟨w3, S2, ?_, g2.tr' g3 fun j hj h => (hs2 j h).elim id fun h => by omega, hs2, ?_⟩
      · rw [if_neg (by simpa using h0)]
      · rw [if_neg (by simpa using h0)]; exact h3
  · have h0 : (s.append xs).1 ≠ 0 := h0
    refine Rt.some' ⟨w2, S2, ?_, g2, hs2, ?_⟩
    · rw [if_pos (.inl h0)]
    · rw [if_pos (.inl h0)]; exact h2
theorem RApp_spec (h : Rx w S d s) (hq : 0 ≤ q ∧ q < 2 ^ 64) (hx : Ev opEl w A l c xs) (hn : 2 ^ 50 < n) : Rt (butteryref6_AppendLog n [pt d, .string nl, bv q A l c, .bool sync] w) (RF S w [.int .i64 (s.wapp (bytesB q xs) sync).1] fun S' w' => Rx w' S' d (s.wapp (bytesB q xs) sync).2) := by
  show Rt (butteryref6_AppendLog n [pt d, .string nl, .agg #[.int .u64 q, .slice A l c], .bool sync] w) _
  rw [butteryref6_AppendLog_eq]
  refine Rt.fin (Rt.al fun w1 l1 k1 s1 => ?_)
  (repeat' (first|(with_reducible (first|apply Rt.fin|apply Rt.tL|apply Rt.tI|apply Rt.tB|apply Rt.tS|apply Rt.tP|apply Rt.tD|apply Rt.tM|apply Rt.tC|apply Rt.tN|apply Rt.tA|apply Rt.tG|apply Rt.tF|apply Rt.os|apply Rt.clS|apply Rt.jmN|apply Rt.jbN|apply Rt.jbE|apply Rt.ckR|exact Rt.some' rfl))|((with_reducible (first|apply Rt.ld0|apply Rt.ld1|apply Rt.ld2|apply Rt.ld3|apply Rt.ld4|apply Rt.ld5)); first|assumption|exact Lc.kp (by assumption) (by assumption))|((with_reducible apply Rt.ol); first|assumption|exact cell_kp (by assumption) (by assumption))|fail))
  have hbw := Ba.bytesB_wf (s := q) hx
  have hbl := Ba.bytesB_len (s := q) (xs := xs) fun _ _ => trivial
  refine Ba.Rt.cROe (Ba.RBytes_spec hq (hx.kp k1) (by omega)) fun B3 d3 w3 o3 k3 => ?_
  have k03 := k1.tr k3
  have hk3 := h.kp k03
  refine Rt.cN (fun h0 => ?_) fun h0 => ?_
  · obtain ⟨_, hr4, w4, rfl, h4, g4⟩ := RSize_spec (n := n) hk3 (by omega)
    have o4 : Own .u8 5 w4 w1.heap.size (.slice B3 (bytesB q xs).1.length d3) (bytesB q xs).1 := o3.gx g4 fun j hj hs => by have := (o3.lt j hj).1; have := h.lt j hs; omega
    refine Rt.cl hr4 ?_
    (repeat' (first|(with_reducible (first|apply Rt.fin|apply Rt.tL|apply Rt.tI|apply Rt.tB|apply Rt.tS|apply Rt.tP|apply Rt.tD|apply Rt.tM|apply Rt.tC|apply Rt.tN|apply Rt.tA|apply Rt.tG|apply Rt.tF|apply Rt.os|apply Rt.clS|apply Rt.jmN|apply Rt.jbN|apply Rt.jbE|apply Rt.ckR|exact Rt.some' rfl))|((with_reducible (first|apply Rt.ld0|apply Rt.ld1|apply Rt.ld2|apply Rt.ld3|apply Rt.ld4|apply Rt.ld5)); first|assumption|exact Lc.kp (by assumption) (by assumption))|((with_reducible apply Rt.ol); first|assumption|exact cell_kp (by assumption) (by assumption))|fail))
    have g04 : Gx S w w4 := k03.gx.tr g4
    have hlt := h.lt
    have hlen : s.len ≤ 16777216 := h.len_le
    have fin_ : ∀ (a : Int), (a = (((if s.open.1 = 0 then s.len else 0 : Nat)) : Int)) → ¬ (s.open.1 ≠ 0 ∧ s.open.1 ≠ 8) → ∀ {X : Option Res},
        X = (cl (butteryref6_Put n [.int .i64 a, .slice B3 (bytesB q xs).1.length d3] w4) fun vs45 w46 => tC vs45 fun v47 cs48 => tL v47 fun A49 l50 c51 => tN cs48 (cl (butteryref6_Disk_Append n [pt d, .string nl, .slice A49 l50 c51] w46) fun vs52 w53 => tC vs52 fun v54 cs55 => tI .i64 v54 fun n56 => tN cs55 (cond (n56 != 0) (some (⟨.ret, [.int .i64 n56], w53⟩ : Res)) (cond (!sync) (some (⟨.ret, [.int .i64 n56], w53⟩ : Res)) (cl (butteryref6_Disk_Sync n [pt d, .string nl] w53) fun vs57 w58 => tC vs57 fun v59 cs60 => tI .i64 v59 fun n61 => tN cs60 (some (⟨.ret, [.int .i64 n61], w58⟩ : Res))))))) →
        Rt X (fun r => r.ex = .ret ∧ RF S w [.int .i64 (s.wapp (bytesB q xs) sync).1] (fun S' w' => Rx w' S' d (s.wapp (bytesB q xs) sync).2) (r.vals, r.w)) := by
      rintro a ha hno _ rfl
      have hat : a.toNat = (if s.open.1 = 0 then s.len else 0) := by omega
      have hp := putF_is (if s.open.1 = 0 then s.len else 0) (bytesB q xs).1
      refine Rt.cO (Fr.RPut_spec hn (o4.bv hbw) (by omega) (by rw [ha]; split <;> omega) (by rw [hat]; exact hp)) fun B5 d5 w5 o5 k5 => ?_
      have hpb := hp.bytes hbw
      have hst : Stb (fun j => S j ∨ w5.heap.size ≤ j) (fun w => Bv .u8 w B5 (putF (if s.open.1 = 0 then s.len else 0) (bytesB q xs).1).length d5 (putF (if s.open.1 = 0 then s.len else 0) (bytesB q xs).1)) w5 :=
        Fr.Own_stb o5 hpb fun j hj hs => by
          have := o5.lt j hj
          have := g04.size
          rcases hs with hs | hs
          · have := hlt j hs; omega
          · omega
      refine Rt.mono (RApp_tail (h4.kp k5) (o5.bv hpb) hst (by have := putF_len (if s.open.1 = 0 then s.len else 0) (bytesB q xs).1; omega) (by omega)) ?_
      rintro _ ⟨w6, S6, rfl, g6, hs6, h6⟩
      have e : s.wapp (bytesB q xs) sync = (if (s.open.2.append (putF (if s.open.1 = 0 then s.len else 0) (bytesB q xs).1)).1 ≠ 0 ∨ sync = false then s.open.2.append (putF (if s.open.1 = 0 then s.len else 0) (bytesB q xs).1) else (s.open.2.append (putF (if s.open.1 = 0 then s.len else 0) (bytesB q xs).1)).2.sync) := by
        unfold DS.wapp; rw [if_neg (by simpa using h0), if_neg hno]
      rw [e]
      refine ⟨rfl, w6, S6, rfl, (g04.tr k5.gx).tr g6, fun j hj => (hs6 j hj).imp id fun h => ?_, h6⟩
      have := (g04.tr k5.gx).size
      omega
    by_cases ho : s.open.1 = 0
    · rw [ho, if_pos rfl]
      refine Rt.jmX (Rt.cN (fun _ => Rt.some' (.inl ⟨rfl, ?_⟩)) fun e => absurd rfl e)
      exact fin_ _ (by rw [if_pos ho]) (fun h => h.1 ho) rfl
    · rw [if_neg ho]
      refine Rt.jmX (Rt.cN (fun e => absurd e ho) fun _ => Rt.cN (fun h8 => ?_) fun h8 => ?_)
      · exact Rt.some' (.inl ⟨rfl, fin_ _ (by rw [if_neg ho]; rfl) (fun h => h.2 h8) rfl⟩)
      · have e : s.wapp (bytesB q xs) sync = s.open := by unfold DS.wapp; rw [if_neg (by simpa using h0), if_pos ⟨ho, h8⟩]
        rw [e]
        exact Rt.some' (.inr ⟨by simp, rfl, w4, S, rfl, g04, fun _ h => .inl h, h4⟩)
  · have e : s.wapp (bytesB q xs) sync = ((bytesB q xs).2, s) := if_pos h0
    rw [e]
    exact Rt.some' ⟨rfl, w3, S, rfl, k03.gx, fun _ h => .inl h, hk3⟩
end
section
variable {out xs : List BatD}
theorem RRec_l0 (hn : 2 ^ 59 < n) (hr : Ev byEl w0 R L rc rs) (hL : L ≤ 2 ^ 30) (hrl : ∀ r ∈ rs, r.length ≤ 2 ^ 30) : ∀ (q i j : Nat) (w : World) (A : Option Addr) (c : Nat) (out : List BatD) (last : Int), i + q = L → q < j → Kp w0 w → OwnX (fun k => k < w0.heap.size) batEl 33 w w0.heap.size (.slice A out.length c) out → out.length ≤ i → 0 ≤ last →
    Rt (butteryref6_RecoverLog.l0 n j R L rc cls A out.length c last (i : Int) w) fun r => ∃ A' c' w', Kp w0 w' ∧ OwnX (fun k => k < w0.heap.size) batEl 33 w' w0.heap.size (.slice A' (out ++ (recF (rs.drop i) last).1).length c') (out ++ (recF (rs.drop i) last).1) ∧
      ((recF (rs.drop i) last).2 = false ∧ r = ⟨.exit 0, [.int .i64 cls, .slice A' (out ++ (recF (rs.drop i) last).1).length c'], w'⟩ ∨ (recF (rs.drop i) last).2 = true ∧ r = ⟨.ret, [.slice A' (out ++ (recF (rs.drop i) last).1).length c', .int .i64 2, .int .i64 0], w'⟩) := by
  obtain ⟨ti, tz, hT⟩ := slBt
  have hrs := hr.len
  intro q
  induction q with
  | zero =>
    intro i j w A c out last hi hj hk ho hol hla
    obtain ⟨j, rfl⟩ : ∃ j', j = j' + 1 := ⟨j - 1, by omega⟩
    rw [butteryref6_RecoverLog.l0_succ]
    refine Rt.cDF (by omega) ?_
    rw [List.drop_of_length_le (by omega)]
    have e : recF [] last = ([], false) := rfl
    rw [e]
    dsimp only
    rw [List.append_nil]
    exact Rt.some' ⟨A, c, w, hk, ho, .inl ⟨rfl, rfl⟩⟩
  | succ q ih =>
    intro i j w A c out last hi hj hk ho hol hla
    obtain ⟨j, rfl⟩ : ∃ j', j = j' + 1 := ⟨j - 1, by omega⟩
    rw [butteryref6_RecoverLog.l0_succ]
    refine Rt.cDT (by omega) (Fr.Rt.ixB (hr.kp hk).sl (by omega) (by omega) fun x a B m d ex hv hc => ?_)
    rw [Int.toNat_natCast] at ex
    have hxm : x ∈ rs := List.mem_of_getElem? ex
    have hdr : rs.drop i = x :: rs.drop (i + 1) := by
      obtain ⟨hlt, e⟩ := List.getElem?_eq_some_iff.1 ex
      rw [List.drop_eq_getElem_cons hlt, e]
    have hvl := hv.len
    have hxl := hrl x hxm
    (repeat' (first|(with_reducible (first|apply Rt.fin|apply Rt.tL|apply Rt.tI|apply Rt.tB|apply Rt.tS|apply Rt.tP|apply Rt.tD|apply Rt.tM|apply Rt.tC|apply Rt.tN|apply Rt.tA|apply Rt.tG|apply Rt.tF|apply Rt.os|apply Rt.clS|apply Rt.jmN|apply Rt.jbN|apply Rt.jbE|apply Rt.ckR|exact Rt.some' rfl))|((with_reducible (first|apply Rt.ld0|apply Rt.ld1|apply Rt.ld2|apply Rt.ld3|apply Rt.ld4|apply Rt.ld5)); first|assumption|exact Lc.kp (by assumption) (by assumption))|((with_reducible apply Rt.ol); first|assumption|exact cell_kp (by assumption) (by assumption))|fail))
    refine Ba.Rt.cBat (Ba.RRead_spec hv (by omega) hn) fun B2 d2 w1 o1 k1 => ?_
    have hcan := fun s ops => can_ok (x := x) (s := s) (ops := ops) hv.rng
    have hre : recF (x :: rs.drop (i + 1)) last = if (allP batchP x).1 ≠ 0 ∨ (allP batchP x).2.1 ≤ last then ([], true)
      else ((allP batchP x).2 :: (recF (rs.drop (i + 1)) ((allP batchP x).2.1 + (((allP batchP x).2.2.length : Nat) : Int) - 1)).1, (recF (rs.drop (i + 1)) ((allP batchP x).2.1 + (((allP batchP x).2.2.length : Nat) : Int) - 1)).2) := rfl
    rw [hdr]
    generalize allP batchP x = y at o1 hcan hre ⊢
    obtain ⟨e, s, ops⟩ := y
    dsimp only at o1 hcan hre ⊢
    have bad : (e ≠ 0 ∨ s ≤ last) → ∀ w', Kp w w' → Rt (some (⟨.ret, [.slice A out.length c, .int .i64 2, .int .i64 0], w'⟩ : Res)) fun r => ∃ A' c' w', Kp w0 w' ∧ OwnX (fun k => k < w0.heap.size) batEl 33 w' w0.heap.size (.slice A' (out ++ (recF (x :: rs.drop (i + 1)) last).1).length c') (out ++ (recF (x :: rs.drop (i + 1)) last).1) ∧
      ((recF (x :: rs.drop (i + 1)) last).2 = false ∧ r = ⟨.exit 0, [.int .i64 cls, .slice A' (out ++ (recF (x :: rs.drop (i + 1)) last).1).length c'], w'⟩ ∨ (recF (x :: rs.drop (i + 1)) last).2 = true ∧ r = ⟨.ret, [.slice A' (out ++ (recF (x :: rs.drop (i + 1)) last).1).length c', .int .i64 2, .int .i64 0], w'⟩) := by
      intro h w' hk'
      rw [hre, if_pos h]
      dsimp only
      rw [List.append_nil]
      exact Rt.some' ⟨A, c, w', hk.tr hk', ho.kp hk', .inr ⟨rfl, rfl⟩⟩
    refine Ba.Rt.al2 fun w2 l2 k2 s2 => ?_
    refine Rt.cN (fun h0 => ?_) fun h0 => bad (.inl h0) _ (k1.tr k2)
    have h0 : e = 0 := h0
    subst h0
    obtain ⟨⟨hs1, hs2⟩, ho1, ho2⟩ := hcan s ops rfl
    (repeat' (first|(with_reducible (first|apply Rt.fin|apply Rt.tL|apply Rt.tI|apply Rt.tB|apply Rt.tS|apply Rt.tP|apply Rt.tD|apply Rt.tM|apply Rt.tC|apply Rt.tN|apply Rt.tA|apply Rt.tG|apply Rt.tF|apply Rt.os|apply Rt.clS|apply Rt.jmN|apply Rt.jbN|apply Rt.jbE|apply Rt.ckR|exact Rt.some' rfl))|((with_reducible (first|apply Rt.ld0|apply Rt.ld1|apply Rt.ld2|apply Rt.ld3|apply Rt.ld4|apply Rt.ld5)); first|assumption|exact Lc.kp (by assumption) (by assumption))|((with_reducible apply Rt.ol); first|assumption|exact cell_kp (by assumption) (by assumption))|fail))
    refine Rt.cD (fun h1 => bad (.inr h1) _ (k1.tr k2)) fun h1 => ?_
    have kd : Kp w2 w2 := Kp.rfl' w2
    have l2d := l2.kp kd
    (repeat' (first|(with_reducible (first|apply Rt.fin|apply Rt.tL|apply Rt.tI|apply Rt.tB|apply Rt.tS|apply Rt.tP|apply Rt.tD|apply Rt.tM|apply Rt.tC|apply Rt.tN|apply Rt.tA|apply Rt.tG|apply Rt.tF|apply Rt.os|apply Rt.clS|apply Rt.jmN|apply Rt.jbN|apply Rt.jbE|apply Rt.ckR|exact Rt.some' rfl))|((with_reducible (first|apply Rt.ld0|apply Rt.ld1|apply Rt.ld2|apply Rt.ld3|apply Rt.ld4|apply Rt.ld5)); first|assumption|exact Lc.kp (by assumption) (by assumption))|((with_reducible apply Rt.ol); first|assumption|exact cell_kp (by assumption) (by assumption))|fail))
    have k02 : Kp w w2 := (k1.tr k2).tr kd
    refine Rt.al fun w3 l3 k3 s3 => ?_
    have k03 : Kp w w3 := k02.tr k3
    have hlt : ∀ j, On (.slice A out.length c) j → w0.heap.size ≤ j ∧ j < w.heap.size := fun j hj => ho.lt j hj
    have hw1 := k1.size
    have hw0 := hk.size
    have o3 : OwnX (fun j => j < w.heap.size) opEl 30 w3 w.heap.size (.slice B2 ops.length d2) ops := ((o1.kp k2).kp kd).kp k3
    refine Rt.app1L rfl hT (ho.kp k03) l3 rfl (x := (s, ops)) ?_ (by omega) (by have := k03.size; omega) fun A4 c4 w4 o4 g4 s4 => ?_
    · have hst := (o3.stb fun k h => h).less (S' := fun k => k < w0.heap.size ∨ On (.slice A out.length c) k) fun k _ h => h.elim (fun h => by omega) fun h => (hlt k h).2
      exact fun w' hg => ⟨B2, d2, rfl, ⟨by dsimp only; omega, by dsimp only; omega⟩, hst w' hg⟩
    have l33 := l2d.kp k3
    have l4 := l33.gx g4 (fun h => by have := (hlt _ h).2; omega)
    (repeat' (first|(with_reducible (first|apply Rt.fin|apply Rt.tL|apply Rt.tI|apply Rt.tB|apply Rt.tS|apply Rt.tP|apply Rt.tD|apply Rt.tM|apply Rt.tC|apply Rt.tN|apply Rt.tA|apply Rt.tG|apply Rt.tF|apply Rt.os|apply Rt.clS|apply Rt.jmN|apply Rt.jbN|apply Rt.jbE|apply Rt.ckR|exact Rt.some' rfl))|((with_reducible (first|apply Rt.ld0|apply Rt.ld1|apply Rt.ld2|apply Rt.ld3|apply Rt.ld4|apply Rt.ld5)); first|assumption|exact Lc.kp (by assumption) (by assumption))|((with_reducible apply Rt.ol); first|assumption|exact cell_kp (by assumption) (by assumption))|fail))
    have e1 : IntKind.u64.wrap (IntKind.u64.wrap (s + IntKind.u64.wrap (ops.length : Int)) - 1) = s + ops.length - 1 := by
      rw [u64_in (ops.length : Int) (by omega), u64_in (s + (ops.length : Int)) (by omega), u64_in _ (by omega)]
    have e2 : IntKind.i64.wrap ((i : Int) + 1) = ((i + 1 : Nat) : Int) := by rw [i64_in _ (by omega)]; omega
    rw [e1, e2]
    have hll : (out ++ [(s, ops)]).length = out.length + 1 := by rw [List.length_append]; rfl
    have hk4 : Kp w0 w4 := (hk.tr k03).tx g4 fun j hj => (hlt j hj).1
    have := ih (i + 1) j w4 A4 c4 (out ++ [(s, ops)]) (s + ops.length - 1) (by omega) (by omega) hk4 (by rw [hll]; exact o4) (by omega) (by omega)
    rw [hll] at this
    refine Rt.mono this ?_
    rintro r ⟨A', c', w', h2, h3, h4⟩
    rw [hre, if_neg (by omega)]
    dsimp only
    rw [List.append_assoc] at h3 h4
    exact ⟨A', c', w', h2, h3, h4⟩
def RRecR (S : Nat → Prop) (w : World) (d : Nat) (x : List BatD × Int × Int) (s : DS) : List Value × World → Prop := fun r => ∃ A c w', r = ([.slice A x.1.length c, .int .i64 x.2.1, .int .i64 x.2.2], w') ∧ OwnX (fun k => k < w.heap.size) batEl 33 w' w.heap.size (.slice A x.1.length c) x.1 ∧ Rx w' S d s ∧ Gx S w w'
theorem RRecover_spec (h : Rx w S d s) (hn : 2 ^ 59 < n) : Rt (butteryref6_RecoverLog n [pt d, .string nl] w) (RRecR S w d s.rec_.1 s.rec_.2) := by
  rw [butteryref6_RecoverLog_eq]
  refine Rt.fin ?_
  obtain ⟨_, hr1, w1, rfl, h1, g1⟩ := RSize_spec (n := n) h (by omega)
  refine Rt.cl hr1 ?_
  (repeat' (first|(with_reducible (first|apply Rt.fin|apply Rt.tL|apply Rt.tI|apply Rt.tB|apply Rt.tS|apply Rt.tP|apply Rt.tD|apply Rt.tM|apply Rt.tC|apply Rt.tN|apply Rt.tA|apply Rt.tG|apply Rt.tF|apply Rt.os|apply Rt.clS|apply Rt.jmN|apply Rt.jbN|apply Rt.jbE|apply Rt.ckR|exact Rt.some' rfl))|((with_reducible (first|apply Rt.ld0|apply Rt.ld1|apply Rt.ld2|apply Rt.ld3|apply Rt.ld4|apply Rt.ld5)); first|assumption|exact Lc.kp (by assumption) (by assumption))|((with_reducible apply Rt.ol); first|assumption|exact cell_kp (by assumption) (by assumption))|fail))
  refine Rt.cN (fun h0 => ?_) fun h0 => ?_
  · have h0 : s.open.1 = 0 := h0
    obtain ⟨f, hf⟩ := s.open_ok h0
    rw [if_pos h0]
    have hb : s.bytes = f.1 := by unfold DS.bytes; rw [hf]
    obtain ⟨_, hr2, B, c2, w2, xs, rfl, o2, b2, hx, hxl, h2, g2⟩ := RRead_spec (n := n) (k := (s.len : Int)) h1 (fun f' hf' => by
      rw [s.open_len.2, hf] at hf'; rw [← Option.some.inj hf']; unfold DS.len; rw [hf]) (by omega) (by omega)
    refine Rt.cl hr2 ?_
    have g02 := g1.tr g2
    (repeat' (first|(with_reducible (first|apply Rt.fin|apply Rt.tL|apply Rt.tI|apply Rt.tB|apply Rt.tS|apply Rt.tP|apply Rt.tD|apply Rt.tM|apply Rt.tC|apply Rt.tN|apply Rt.tA|apply Rt.tG|apply Rt.tF|apply Rt.os|apply Rt.clS|apply Rt.jmN|apply Rt.jbN|apply Rt.jbE|apply Rt.ckR|exact Rt.some' rfl))|((with_reducible (first|apply Rt.ld0|apply Rt.ld1|apply Rt.ld2|apply Rt.ld3|apply Rt.ld4|apply Rt.ld5)); first|assumption|exact Lc.kp (by assumption) (by assumption))|((with_reducible apply Rt.ol); first|assumption|exact cell_kp (by assumption) (by assumption))|fail))
    refine Rt.cN (fun h3 => ?_) fun h3 => ?_
    · have h3 : s.open.2.open.1 = 0 := h3
      obtain ⟨f', hf', hxf⟩ := hx h3
      rw [s.open_len.2, hf] at hf'
      have hxf : xs = f.1 := by rw [hxf, Option.some.inj hf']
      subst hxf
      have hrd := rdF_is f.1
      obtain ⟨hl1, hl2⟩ := Rd_len hrd
      rw [List.length_nil] at hl2
      refine Fr.Rt.callAll (Fr.RAll_spec (by omega) (o2.bv b2) (by omega) hrd) fun R rc w3 e3 k3 => ?_
      have g03 := g02.tr k3.gx (S := S)
      refine Rt.jb (Rt.mono (RRec_l0 hn e3 (by omega) (fun r hr => by have := hl2 r hr; omega) _ 0 n w3 none 0 [] 0 (Nat.zero_add _) (by omega) (Kp.rfl' w3) (OwnX.nil _ _ _) (Nat.zero_le _) (Int.le_refl _)) ?_)
      rintro r ⟨A', c', w4, k4, o4, hc⟩
      rw [List.drop_zero, List.nil_append] at o4 hc
      have e : s.rec_ = (((logF s.bytes).1, (logF s.bytes).2, 0), s.open.2.open.2) := by unfold DS.rec_; rw [if_neg (by simpa using h0), if_neg (by simpa using h3)]
      rw [e, hb]
      have o5 : OwnX (fun k => k < w.heap.size) batEl 33 w4 w.heap.size (.slice A' (recF (rdF f.1).1 0).1.length c') (recF (rdF f.1).1 0).1 := (o4.less fun k hk => by have := g03.size; omega).mono g03.size
      have d5 := (h2.kp k3).kp k4
      rcases hc with ⟨hc, rfl⟩ | ⟨hc, rfl⟩
      · refine .inl ⟨.inr rfl, ?_⟩
        (repeat' (first|(with_reducible (first|apply Rt.fin|apply Rt.tL|apply Rt.tI|apply Rt.tB|apply Rt.tS|apply Rt.tP|apply Rt.tD|apply Rt.tM|apply Rt.tC|apply Rt.tN|apply Rt.tA|apply Rt.tG|apply Rt.tF|apply Rt.os|apply Rt.clS|apply Rt.jmN|apply Rt.jbN|apply Rt.jbE|apply Rt.ckR|exact Rt.some' rfl))|((with_reducible (first|apply Rt.ld0|apply Rt.ld1|apply Rt.ld2|apply Rt.ld3|apply Rt.ld4|apply Rt.ld5)); first|assumption|exact Lc.kp (by assumption) (by assumption))|((with_reducible apply Rt.ol); first|assumption|exact cell_kp (by assumption) (by assumption))|fail))
        refine Rt.some' ⟨rfl, A', c', w4, ?_, o5, d5, g03.tr k4.gx⟩
        unfold logF
        rw [if_neg (by rw [hc]; simp)]
      · refine .inr ⟨rfl, rfl, A', c', w4, ?_, o5, d5, g03.tr k4.gx⟩
        unfold logF
        rw [if_pos hc]
    · have h3 : s.open.2.open.1 ≠ 0 := h3
      have e : s.rec_ = (([], 0, s.open.2.open.1), s.open.2.open.2) := by unfold DS.rec_; rw [if_neg (by simpa using h0), if_pos h3]
      rw [e]
      exact Rt.some' ⟨rfl, none, 0, w2, rfl, OwnX.nil _ _ _, h2, g02⟩
  · have h0 : s.open.1 ≠ 0 := h0
    have e : s.rec_ = (([], 0, s.open.1), s.open.2) := by unfold DS.rec_; rw [if_pos h0]
    rw [e]
    exact Rt.some' ⟨rfl, none, 0, w1, rfl, OwnX.nil _ _ _, h1, g1⟩
end
end
end Go.Proofs.YtdcdgmiojlldaaaDoor.Wl
/- WAL: both disks, side by side. -/
namespace Go.Proofs.YtdcdgmiojlldaaaDoor.Wl
open Go Big Go.RowKit Go.IntWalk Var Low Par
set_option linter.unusedVariables false
set_option linter.unusedSimpArgs false
open Fr (sm hsm IsPut byEl lookP_go RAll)
open Ba (bv opEl bytesB OpD batchP encB checkC numC bigO)
theorem Rd_bytes {sm : List Int → Int} {a : Nat} {s : List Int} {wi : Bool} {now : List Int} {d d' : Nat} {rs : List (List Int)} {c : Int} (h : Fr.Rd sm a s wi now d rs d' c) : Bytes s → Bytes now → ∀ r ∈ rs, Bytes r := by
  induction h with
  | stop h => intro _ _ r hr; cases hr
  | more h t ih =>
    intro hs hn
    obtain ⟨_, _, _, _, _, i, hx⟩ := lookP_go h
    refine ih (fun z hz => hs z (List.mem_of_mem_drop hz)) fun z hz => (List.mem_append.1 hz).elim (hn z) fun hz => ?_
    rw [hx] at hz
    exact hs z (List.mem_of_mem_drop (List.mem_of_mem_take hz))
  | last h t ih =>
    intro hs hn r hr
    obtain ⟨_, _, _, _, _, i, hx⟩ := lookP_go h
    rcases List.mem_cons.1 hr with rfl | hr
    · intro z hz
      refine (List.mem_append.1 hz).elim (hn z) fun hz => ?_
      rw [hx] at hz
      exact hs z (List.mem_of_mem_drop (List.mem_of_mem_take hz))
    · exact ih (fun z hz => hs z (List.mem_of_mem_drop hz)) (fun z hz => by cases hz) r hr
theorem recF_ops : ∀ {rs : List (List Int)} {last : Int}, (∀ r ∈ rs, Bytes r) → ∀ x ∈ (recF rs last).1, x.2.length ≤ 100
  | [], _, _, x, hx => by cases hx
  | r :: rs, last, hr, x, hx => by
    unfold recF at hx
    split at hx
    · cases hx
    · rename_i h
      have h0 : (allP batchP r).1 = 0 := Decidable.byContradiction fun h1 => h (.inl h1)
      dsimp only at hx
      rcases List.mem_cons.1 hx with rfl | hx
      · exact (can_ok (x := r) (s := (allP batchP r).2.1) (ops := (allP batchP r).2.2) (hr r List.mem_cons_self) (by rw [← h0])).2.2
      · exact recF_ops (fun r' hr' => hr r' (List.mem_cons_of_mem _ hr')) x hx
theorem recF_len : ∀ {rs : List (List Int)} {last : Int}, (recF rs last).1.length ≤ rs.length
  | [], _ => Nat.le_refl _
  | r :: rs, last => by
    unfold recF
    split
    · exact Nat.zero_le _
    · dsimp only
      rw [List.length_cons, List.length_cons]
      have := recF_len (rs := rs) (last := (allP batchP r).2.1 + (((allP batchP r).2.2.length : Nat) : Int) - 1)
      omega
theorem logF_len (b : List Int) : (logF b).1.length ≤ b.length := Nat.le_trans recF_len (Rd_len (rdF_is b)).1
theorem logF_ops {b : List Int} (hb : Bytes b) : ∀ x ∈ (logF b).1, x.2.length ≤ 100 := recF_ops (Rd_bytes (rdF_is b) hb fun z hz => by cases hz)
section
variable {α : Type} {Q : α → Prop} {n m : Nat} {w w' w0 w1 : World} {A B C R : Option Addr} {l c c' d base e mb p b L rc r : Nat} {k q cls keep : Int} {x o zs : List Int} {rs : List (List Int)} {S S' T : Nat → Prop} {fp : Option Nat} {s t s' t' : DS} {sync : Bool} {xs : List BatD} {ways : List Int}
theorem Dk.bytes (h : Dk w S d s) : Bytes s.bytes := by
  obtain ⟨mb, fp, A, c, hd⟩ := h
  unfold DS.bytes
  cases hf : s.file with
  | none => intro z hz; cases hz
  | some f => have hfl := hd.fl; rw [hf] at hfl; obtain ⟨p, _, _, _, i3, _⟩ := hfl.some'; exact i3
theorem rec_ops (h : Bytes s.bytes) : ∀ x ∈ s.rec_.1.1, x.2.length ≤ 100 := by
  unfold DS.rec_
  split
  · intro x hx; cases hx
  · split
    · intro x hx; cases hx
    · exact logF_ops h
theorem rec_len (s : DS) : s.rec_.1.1.length ≤ s.len := by
  unfold DS.rec_
  split
  · exact Nat.zero_le _
  · split
    · exact Nat.zero_le _
    · rw [← s.bytes_len]; exact logF_len _
structure Bo (w0 w : World) (d r : Nat) (s t : DS) (S T : Nat → Prop) : Prop where
  dk : Dk w S d s
  rx : Rx w T r t
  sb : ∀ j, S j → w0.heap.size ≤ j
  tb : ∀ j, T j → w0.heap.size ≤ j
  dj : ∀ j, S j → ¬ T j
  kp : Kp w0 w
theorem Bo.kp' (h : Bo w0 w d r s t S T) (k : Kp w w') : Bo w0 w' d r s t S T := ⟨h.dk.kp k, h.rx.kp k, h.sb, h.tb, h.dj, h.kp.tr k⟩
theorem Bo.stD (h : Bo w0 w d r s t S T) (h1 : Dk w' S' d s') (g : Gx S w w') (hs : ∀ j, S' j → S j ∨ w.heap.size ≤ j) : Bo w0 w' d r s' t S' T := by
  have hlt := h.rx.lt
  exact ⟨h1, h.rx.gx g h.dj, fun j hj => (hs j hj).elim (h.sb j) fun hj => Nat.le_trans h.kp.size hj, h.tb, fun j hj ht => (hs j hj).elim (fun hj => h.dj j hj ht) fun hj => by have := hlt j ht; omega, h.kp.tx g h.sb⟩
theorem Bo.stR {T' : Nat → Prop} (h : Bo w0 w d r s t S T) (h1 : Rx w' T' r t') (g : Gx T w w') (hs : ∀ j, T' j → T j ∨ w.heap.size ≤ j) : Bo w0 w' d r s t' S T' := by
  have hlt := h.dk.lt
  exact ⟨h.dk.gx g fun j ht hj => h.dj j hj ht, h1, h.sb, fun j hj => (hs j hj).elim (h.tb j) fun hj => Nat.le_trans h.kp.size hj, fun j hj ht => (hs j ht).elim (fun ht => h.dj j hj ht) fun ht => by have := hlt j hj; omega, h.kp.tx g h.tb⟩
theorem both_rec (hn : 2 ^ 63 < n) (h : Bo w0 w d r s s S T) {f : Option Addr → Nat → Nat → Int → Int → World → Option α}
    (hf : ∀ A c w1, (∀ {g : Option Addr → Nat → Nat → Int → Int → Bool → World → Option α}, (∀ A' c' w3, Bo w0 w3 d r s.rec_.2 s.rec_.2 S T → Rt (g A' s.rec_.1.1.length c' s.rec_.1.2.1 s.rec_.1.2.2 true w3) Q) →
        Rt (cl (butteryref6_RecoverLog n [pt r, .string nl] w1) fun vs144 w145 => tC vs144 fun v146 cs147 => tL v146 fun A148 l149 c150 => tC cs147 fun v151 cs152 => tI .i64 v151 fun n153 => tC cs152 fun v154 cs155 => tI .i64 v154 fun n156 => tN cs155 (cl (butteryref1_SameBatches n [.slice A s.rec_.1.1.length c, .slice A148 l149 c150] w145) fun vs157 w158 => tC vs157 fun v159 cs160 => tB v159 fun b161 => tN cs160 (g A148 l149 c150 n153 n156 b161 w158))) Q) →
      Rt (f A s.rec_.1.1.length c s.rec_.1.2.1 s.rec_.1.2.2 w1) Q) :
    Rt (cl (wal_Recover n [pt d, .string nl] w) fun vs131 w132 => tC vs131 fun v133 cs134 => tL v133 fun A135 l136 c137 => tC cs134 fun v138 cs139 => tI .i64 v138 fun n140 => tC cs139 fun v141 cs142 => tI .i64 v141 fun n143 => tN cs142 (f A135 l136 c137 n140 n143 w132)) Q := by
  obtain ⟨_, hr1, A1, c1, w1, rfl, o1, h1, g1⟩ := Recover_spec h.dk (show 2 ^ 59 < n by omega)
  refine Rt.cl hr1 ?_
  (repeat' (first|(with_reducible (first|apply Rt.fin|apply Rt.tL|apply Rt.tI|apply Rt.tB|apply Rt.tS|apply Rt.tP|apply Rt.tD|apply Rt.tM|apply Rt.tC|apply Rt.tN|apply Rt.tA|apply Rt.tG|apply Rt.tF|apply Rt.os|apply Rt.clS|apply Rt.jmN|apply Rt.jbN|apply Rt.jbE|apply Rt.ckR|exact Rt.some' rfl))|((with_reducible (first|apply Rt.ld0|apply Rt.ld1|apply Rt.ld2|apply Rt.ld3|apply Rt.ld4|apply Rt.ld5)); first|assumption|exact Lc.kp (by assumption) (by assumption))|((with_reducible apply Rt.ol); first|assumption|exact cell_kp (by assumption) (by assumption))|fail))
  have hb1 := h.stD h1 g1 fun _ h => .inl h
  refine hf A1 c1 w1 fun {g} hg => ?_
  obtain ⟨_, hr2, A2, c2, w2, rfl, o2, h2, g2⟩ := RRecover_spec hb1.rx (show 2 ^ 59 < n by omega)
  refine Rt.cl hr2 ?_
  (repeat' (first|(with_reducible (first|apply Rt.fin|apply Rt.tL|apply Rt.tI|apply Rt.tB|apply Rt.tS|apply Rt.tP|apply Rt.tD|apply Rt.tM|apply Rt.tC|apply Rt.tN|apply Rt.tA|apply Rt.tG|apply Rt.tF|apply Rt.os|apply Rt.clS|apply Rt.jmN|apply Rt.jbN|apply Rt.jbE|apply Rt.ckR|exact Rt.some' rfl))|((with_reducible (first|apply Rt.ld0|apply Rt.ld1|apply Rt.ld2|apply Rt.ld3|apply Rt.ld4|apply Rt.ld5)); first|assumption|exact Lc.kp (by assumption) (by assumption))|((with_reducible apply Rt.ol); first|assumption|exact cell_kp (by assumption) (by assumption))|fail))
  have hb2 := hb1.stR h2 g2 fun _ h => .inl h
  have hops := rec_ops (s := s) h.dk.bytes
  have hTlt := h.rx.lt
  have e1 := (o1.stb fun k h => h) w2 (g2.wide fun k _ hk => hTlt k hk)
  have hmx : s.rec_.1.1.length < 2 ^ 60 := by
    have := rec_len s
    have := h.rx.len_le
    omega
  refine Rt.cBt (SameBs_spec hn e1 o2.ownE.ev hmx fun x hx => by have := hops x hx; omega) rfl fun w3 k3 => ?_
  exact hg A2 c2 w3 (hb2.kp' k3)
end
end Go.Proofs.YtdcdgmiojlldaaaDoor.Wl
/- WAL: WalPlays. -/
namespace Go.Proofs.YtdcdgmiojlldaaaDoor.Wl
open Go Big Go.RowKit Go.IntWalk Var Low Par
set_option linter.unusedVariables false
set_option linter.unusedSimpArgs false
open Fr (sm hsm IsPut byEl lookP_go RAll)
open Ba (bv opEl bytesB OpD batchP encB checkC numC bigO)
section
variable {α : Type} {Q : α → Prop} {n m : Nat} {w w' w0 w1 : World} {A B C R A2 : Option Addr} {l c c' c2 d base e mb p b L l2 rc r : Nat} {k q cls keep : Int} {x o zs : List Int} {rs : List (List Int)} {S S' T : Nat → Prop} {fp : Option Nat} {s t s' t' : DS} {sync : Bool} {xs : List BatD} {ways : List Int}
theorem Plays_l0 (hn : 2 ^ 63 < n) (hx : Ev batEl w0 A l c xs) (hw : Bv .i64 w0 A2 l2 c2 ways) (hl : l ≤ 12) (hl2 : l ≤ l2) (hk : -2 ^ 63 ≤ keep ∧ keep < 2 ^ 63) : ∀ (t i j : Nat) (w : World) (s : DS) (S T : Nat → Prop), i + t = l → t < j → Bo w0 w d r s s S T →
    Rt (butterylaw8_WalPlays.l0 n j A l c A2 l2 c2 keep (some ⟨d, 0, none⟩) (some ⟨r, 0, none⟩) (i : Int) w) fun y => y.ex = .ret ∧ y.vals = [.bool true] ∧ Kp w0 y.w ∨ y.ex = .exit 0 ∧ y.vals = [pt d, pt r] ∧ ∃ s S T, Bo w0 y.w d r s s S T := by
  have hxl := hx.len
  intro t
  induction t with
  | zero =>
    intro i j w s S T hi hj h
    obtain ⟨j, rfl⟩ : ∃ j', j = j' + 1 := ⟨j - 1, by omega⟩
    rw [butterylaw8_WalPlays.l0_succ]
    exact Rt.cDF (by omega) (Rt.some' (.inr ⟨rfl, rfl, s, S, T, h⟩))
  | succ t ih =>
    intro i j w s S T hi hj h
    obtain ⟨j, rfl⟩ : ∃ j', j = j' + 1 := ⟨j - 1, by omega⟩
    rw [butterylaw8_WalPlays.l0_succ]
    obtain ⟨x, ex⟩ : ∃ x, xs[i]? = some x := ⟨_, List.getElem?_eq_getElem (by omega)⟩
    have same : ∀ {y : BatD}, xs[((i : Int)).toNat]? = some y → x = y := fun {y} h => by rw [Int.toNat_natCast, ex] at h; exact Option.some.inj h
    have hkw := h.kp
    refine Rt.cDT (by omega) (Rt.jb ?_)
    refine Rt.ixBt hx.sl (by omega) (by omega) fun y a B1 d1 ey hy0 hyv c0 c1 => ?_
    obtain rfl := same ey
    (repeat' (first|(with_reducible (first|apply Rt.fin|apply Rt.tL|apply Rt.tI|apply Rt.tB|apply Rt.tS|apply Rt.tP|apply Rt.tD|apply Rt.tM|apply Rt.tC|apply Rt.tN|apply Rt.tA|apply Rt.tG|apply Rt.tF|apply Rt.os|apply Rt.clS|apply Rt.jmN|apply Rt.jbN|apply Rt.jbE|apply Rt.ckR|exact Rt.some' rfl))|((with_reducible (first|apply Rt.ld0|apply Rt.ld1|apply Rt.ld2|apply Rt.ld3|apply Rt.ld4|apply Rt.ld5)); first|assumption|exact Lc.kp (by assumption) (by assumption))|((with_reducible apply Rt.ol); first|assumption|exact cell_kp (by assumption) (by assumption))|fail))
    refine Rt.cBo (Ba.Big_spec (hyv.kp hkw) hn) fun bb w1 hbb k1 => ?_
    have hb1 := h.kp' k1
    have kw1 := hb1.kp
    cases bb with
    | true => exact Rt.cT rfl (Rt.some' (.inr ⟨rfl, .inl ⟨rfl, rfl, kw1⟩⟩))
    | false =>
    refine Rt.cF rfl ?_
    refine Rt.ix (hw.sl.kp kw1) (by omega) (by omega) ?_
    generalize hn47 : ways.getD (i : Int).toNat 0 = n47
    clear c0 c1
    refine Rt.ixBt hx.sl (by omega) (by omega) fun y a2 B2 d2 ey2 hy02 hyv2 c0 c1 => ?_
    obtain rfl := same ey2
    have kw1d := kw1.dr
    (repeat' (first|(with_reducible (first|apply Rt.fin|apply Rt.tL|apply Rt.tI|apply Rt.tB|apply Rt.tS|apply Rt.tP|apply Rt.tD|apply Rt.tM|apply Rt.tC|apply Rt.tN|apply Rt.tA|apply Rt.tG|apply Rt.tF|apply Rt.os|apply Rt.clS|apply Rt.jmN|apply Rt.jbN|apply Rt.jbE|apply Rt.ckR|exact Rt.some' rfl))|((with_reducible (first|apply Rt.ld0|apply Rt.ld1|apply Rt.ld2|apply Rt.ld3|apply Rt.ld4|apply Rt.ld5)); first|assumption|exact Lc.kp (by assumption) (by assumption))|((with_reducible apply Rt.ol); first|assumption|exact cell_kp (by assumption) (by assumption))|fail))
    have hb1d := hb1.kp' (Kp.rfl' w1).dr
    obtain ⟨_, hr2, w2, S2, rfl, g2, hs2, h2⟩ := WApp_spec (n := n) (sync := (bits .and .i64 n47 1 == 1)) hb1d.dk hy02 (hyv2.kp kw1d) (by omega)
    have hb2 := hb1d.stD h2 g2 hs2
    refine Rt.cl hr2 ?_
    (repeat' (first|(with_reducible (first|apply Rt.fin|apply Rt.tL|apply Rt.tI|apply Rt.tB|apply Rt.tS|apply Rt.tP|apply Rt.tD|apply Rt.tM|apply Rt.tC|apply Rt.tN|apply Rt.tA|apply Rt.tG|apply Rt.tF|apply Rt.os|apply Rt.clS|apply Rt.jmN|apply Rt.jbN|apply Rt.jbE|apply Rt.ckR|exact Rt.some' rfl))|((with_reducible (first|apply Rt.ld0|apply Rt.ld1|apply Rt.ld2|apply Rt.ld3|apply Rt.ld4|apply Rt.ld5)); first|assumption|exact Lc.kp (by assumption) (by assumption))|((with_reducible apply Rt.ol); first|assumption|exact cell_kp (by assumption) (by assumption))|fail))
    rw [num8_spec]
    (repeat' (first|(with_reducible (first|apply Rt.fin|apply Rt.tL|apply Rt.tI|apply Rt.tB|apply Rt.tS|apply Rt.tP|apply Rt.tD|apply Rt.tM|apply Rt.tC|apply Rt.tN|apply Rt.tA|apply Rt.tG|apply Rt.tF|apply Rt.os|apply Rt.clS|apply Rt.jmN|apply Rt.jbN|apply Rt.jbE|apply Rt.ckR|exact Rt.some' rfl))|((with_reducible (first|apply Rt.ld0|apply Rt.ld1|apply Rt.ld2|apply Rt.ld3|apply Rt.ld4|apply Rt.ld5)); first|assumption|exact Lc.kp (by assumption) (by assumption))|((with_reducible apply Rt.ol); first|assumption|exact cell_kp (by assumption) (by assumption))|fail))
    clear c0 c1
    refine Rt.ixBt hx.sl (by omega) (by omega) fun y a3 B3 d3 ey3 hy03 hyv3 c0 c1 => ?_
    obtain rfl := same ey3
    have kw2 := hb2.kp
    (repeat' (first|(with_reducible (first|apply Rt.fin|apply Rt.tL|apply Rt.tI|apply Rt.tB|apply Rt.tS|apply Rt.tP|apply Rt.tD|apply Rt.tM|apply Rt.tC|apply Rt.tN|apply Rt.tA|apply Rt.tG|apply Rt.tF|apply Rt.os|apply Rt.clS|apply Rt.jmN|apply Rt.jbN|apply Rt.jbE|apply Rt.ckR|exact Rt.some' rfl))|((with_reducible (first|apply Rt.ld0|apply Rt.ld1|apply Rt.ld2|apply Rt.ld3|apply Rt.ld4|apply Rt.ld5)); first|assumption|exact Lc.kp (by assumption) (by assumption))|((with_reducible apply Rt.ol); first|assumption|exact cell_kp (by assumption) (by assumption))|fail))
    obtain ⟨_, hr3, w3, T3, rfl, g3, hs3, h3⟩ := RApp_spec (n := n) (sync := (bits .and .i64 n47 1 == 1)) hb2.rx hy03 (hyv3.kp kw2) (by omega)
    have hb3 := hb2.stR h3 g3 hs3
    refine Rt.cl hr3 ?_
    (repeat' (first|(with_reducible (first|apply Rt.fin|apply Rt.tL|apply Rt.tI|apply Rt.tB|apply Rt.tS|apply Rt.tP|apply Rt.tD|apply Rt.tM|apply Rt.tC|apply Rt.tN|apply Rt.tA|apply Rt.tG|apply Rt.tF|apply Rt.os|apply Rt.clS|apply Rt.jmN|apply Rt.jbN|apply Rt.jbE|apply Rt.ckR|exact Rt.some' rfl))|((with_reducible (first|apply Rt.ld0|apply Rt.ld1|apply Rt.ld2|apply Rt.ld3|apply Rt.ld4|apply Rt.ld5)); first|assumption|exact Lc.kp (by assumption) (by assumption))|((with_reducible apply Rt.ol); first|assumption|exact cell_kp (by assumption) (by assumption))|fail))
    refine Rt.cN (fun _ => ?_) fun h => absurd rfl h
    generalize (s.wapp (bytesB x.1 x.2) (bits .and .i64 n47 1 == 1)).2 = s3 at hb3 h3 h2 hb2
    obtain ⟨_, hu1, rfl⟩ := Used_spec (n := n) hb3.dk
    refine Rt.cl hu1 ?_
    (repeat' (first|(with_reducible (first|apply Rt.fin|apply Rt.tL|apply Rt.tI|apply Rt.tB|apply Rt.tS|apply Rt.tP|apply Rt.tD|apply Rt.tM|apply Rt.tC|apply Rt.tN|apply Rt.tA|apply Rt.tG|apply Rt.tF|apply Rt.os|apply Rt.clS|apply Rt.jmN|apply Rt.jbN|apply Rt.jbE|apply Rt.ckR|exact Rt.some' rfl))|((with_reducible (first|apply Rt.ld0|apply Rt.ld1|apply Rt.ld2|apply Rt.ld3|apply Rt.ld4|apply Rt.ld5)); first|assumption|exact Lc.kp (by assumption) (by assumption))|((with_reducible apply Rt.ol); first|assumption|exact cell_kp (by assumption) (by assumption))|fail))
    obtain ⟨A9, l9, c9, F9, e9, hra⟩ := hb3.rx
    obtain ⟨_, hu2, rfl⟩ := RUsed_spec (n := n) hra (by omega)
    refine Rt.cl hu2 ?_
    (repeat' (first|(with_reducible (first|apply Rt.fin|apply Rt.tL|apply Rt.tI|apply Rt.tB|apply Rt.tS|apply Rt.tP|apply Rt.tD|apply Rt.tM|apply Rt.tC|apply Rt.tN|apply Rt.tA|apply Rt.tG|apply Rt.tF|apply Rt.os|apply Rt.clS|apply Rt.jmN|apply Rt.jbN|apply Rt.jbE|apply Rt.ckR|exact Rt.some' rfl))|((with_reducible (first|apply Rt.ld0|apply Rt.ld1|apply Rt.ld2|apply Rt.ld3|apply Rt.ld4|apply Rt.ld5)); first|assumption|exact Lc.kp (by assumption) (by assumption))|((with_reducible apply Rt.ol); first|assumption|exact cell_kp (by assumption) (by assumption))|fail))
    refine Rt.cN (fun _ => ?_) fun h => absurd rfl h
    obtain ⟨_, hu3, rfl⟩ := Failed_spec (n := n) hb3.dk
    refine Rt.cl hu3 ?_
    (repeat' (first|(with_reducible (first|apply Rt.fin|apply Rt.tL|apply Rt.tI|apply Rt.tB|apply Rt.tS|apply Rt.tP|apply Rt.tD|apply Rt.tM|apply Rt.tC|apply Rt.tN|apply Rt.tA|apply Rt.tG|apply Rt.tF|apply Rt.os|apply Rt.clS|apply Rt.jmN|apply Rt.jbN|apply Rt.jbE|apply Rt.ckR|exact Rt.some' rfl))|((with_reducible (first|apply Rt.ld0|apply Rt.ld1|apply Rt.ld2|apply Rt.ld3|apply Rt.ld4|apply Rt.ld5)); first|assumption|exact Lc.kp (by assumption) (by assumption))|((with_reducible apply Rt.ol); first|assumption|exact cell_kp (by assumption) (by assumption))|fail))
    obtain ⟨_, hu4, rfl⟩ := RFailed_spec (n := n) hb3.rx
    refine Rt.cl hu4 ?_
    (repeat' (first|(with_reducible (first|apply Rt.fin|apply Rt.tL|apply Rt.tI|apply Rt.tB|apply Rt.tS|apply Rt.tP|apply Rt.tD|apply Rt.tM|apply Rt.tC|apply Rt.tN|apply Rt.tA|apply Rt.tG|apply Rt.tF|apply Rt.os|apply Rt.clS|apply Rt.jmN|apply Rt.jbN|apply Rt.jbE|apply Rt.ckR|exact Rt.some' rfl))|((with_reducible (first|apply Rt.ld0|apply Rt.ld1|apply Rt.ld2|apply Rt.ld3|apply Rt.ld4|apply Rt.ld5)); first|assumption|exact Lc.kp (by assumption) (by assumption))|((with_reducible apply Rt.ol); first|assumption|exact cell_kp (by assumption) (by assumption))|fail))
    refine Rt.cN (fun _ => ?_) fun h => absurd rfl h
    have kw3 := hb3.kp
    refine Rt.jm (Rt.mono (Q' := fun y => ∃ w1 s1 S1 T1, y = ⟨.norm, [.slice A l c, .slice A2 l2 c2, .int .i64 keep, pt d, pt r, .int .i64 (i : Int)], w1⟩ ∧ Bo w0 w1 d r s1 s1 S1 T1) ?_ ?_)
    · refine Rt.ix (hw.sl.kp kw3) (by omega) (by omega) ?_
      refine Rt.cQ (fun _ => ?_) fun _ => Rt.some' ⟨_, _, _, _, rfl, hb3⟩
      obtain ⟨_, hr4, w4, rfl, h4, g4⟩ := Crash_spec (n := n) (keep := keep) hb3.dk (by omega)
      have hb4 := hb3.stD h4 g4 fun _ h => .inl h
      refine Rt.cl hr4 ?_
      (repeat' (first|(with_reducible (first|apply Rt.fin|apply Rt.tL|apply Rt.tI|apply Rt.tB|apply Rt.tS|apply Rt.tP|apply Rt.tD|apply Rt.tM|apply Rt.tC|apply Rt.tN|apply Rt.tA|apply Rt.tG|apply Rt.tF|apply Rt.os|apply Rt.clS|apply Rt.jmN|apply Rt.jbN|apply Rt.jbE|apply Rt.ckR|exact Rt.some' rfl))|((with_reducible (first|apply Rt.ld0|apply Rt.ld1|apply Rt.ld2|apply Rt.ld3|apply Rt.ld4|apply Rt.ld5)); first|assumption|exact Lc.kp (by assumption) (by assumption))|((with_reducible apply Rt.ol); first|assumption|exact cell_kp (by assumption) (by assumption))|fail))
      obtain ⟨_, hr5, w5, T5, rfl, h5, g5, hs5⟩ := RCrash_spec (n := n) (keep := keep) hb4.rx hk (by omega)
      have hb5 := hb4.stR h5 g5 hs5
      refine Rt.cl hr5 ?_
      (repeat' (first|(with_reducible (first|apply Rt.fin|apply Rt.tL|apply Rt.tI|apply Rt.tB|apply Rt.tS|apply Rt.tP|apply Rt.tD|apply Rt.tM|apply Rt.tC|apply Rt.tN|apply Rt.tA|apply Rt.tG|apply Rt.tF|apply Rt.os|apply Rt.clS|apply Rt.jmN|apply Rt.jbN|apply Rt.jbE|apply Rt.ckR|exact Rt.some' rfl))|((with_reducible (first|apply Rt.ld0|apply Rt.ld1|apply Rt.ld2|apply Rt.ld3|apply Rt.ld4|apply Rt.ld5)); first|assumption|exact Lc.kp (by assumption) (by assumption))|((with_reducible apply Rt.ol); first|assumption|exact cell_kp (by assumption) (by assumption))|fail))
      exact Rt.some' ⟨_, _, _, _, rfl, hb5⟩
    rintro _ ⟨w6, s6, S6, T6, rfl, hb6⟩
    refine ⟨rfl, ?_⟩
    (repeat' (first|(with_reducible (first|apply Rt.fin|apply Rt.tL|apply Rt.tI|apply Rt.tB|apply Rt.tS|apply Rt.tP|apply Rt.tD|apply Rt.tM|apply Rt.tC|apply Rt.tN|apply Rt.tA|apply Rt.tG|apply Rt.tF|apply Rt.os|apply Rt.clS|apply Rt.jmN|apply Rt.jbN|apply Rt.jbE|apply Rt.ckR|exact Rt.some' rfl))|((with_reducible (first|apply Rt.ld0|apply Rt.ld1|apply Rt.ld2|apply Rt.ld3|apply Rt.ld4|apply Rt.ld5)); first|assumption|exact Lc.kp (by assumption) (by assumption))|((with_reducible apply Rt.ol); first|assumption|exact cell_kp (by assumption) (by assumption))|fail))
    have kw6 := hb6.kp
    have e2 : IntKind.i64.wrap ((i : Int) + 1) = ((i + 1 : Nat) : Int) := by rw [i64_in _ (by omega)]; omega
    have go : ∀ (w7 : World) (s7 : DS) (S7 T7 : Nat → Prop), Bo w0 w7 d r s7 s7 S7 T7 → Rt (butterylaw8_WalPlays.l0 n j A l c A2 l2 c2 keep (some ⟨d, 0, none⟩) (some ⟨r, 0, none⟩) (IntKind.i64.wrap ((i : Int) + 1)) w7) fun y => y.ex = .ret ∧ y.vals = [.bool true] ∧ Kp w0 y.w ∨ y.ex = .exit 0 ∧ y.vals = [pt d, pt r] ∧ ∃ s S T, Bo w0 y.w d r s s S T := fun w7 s7 S7 T7 h7 => by
      rw [e2]; exact ih (i + 1) j w7 s7 S7 T7 (by omega) (by omega) h7
    refine Rt.ix (hw.sl.kp kw6) (by omega) (by omega) ?_
    refine Rt.cQ (fun _ => ?_) fun _ => Rt.some' (.inl ⟨.inl rfl, ?_⟩)
    · refine both_rec hn hb6 fun A7 c7 w7 hg => ?_
      refine hg fun A8 c8 w8 hb8 => ?_
      refine Rt.cF rfl ?_
      refine Rt.cN (fun _ => ?_) fun h => absurd rfl h
      rw [num8_spec]
      (repeat' (first|(with_reducible (first|apply Rt.fin|apply Rt.tL|apply Rt.tI|apply Rt.tB|apply Rt.tS|apply Rt.tP|apply Rt.tD|apply Rt.tM|apply Rt.tC|apply Rt.tN|apply Rt.tA|apply Rt.tG|apply Rt.tF|apply Rt.os|apply Rt.clS|apply Rt.jmN|apply Rt.jbN|apply Rt.jbE|apply Rt.ckR|exact Rt.some' rfl))|((with_reducible (first|apply Rt.ld0|apply Rt.ld1|apply Rt.ld2|apply Rt.ld3|apply Rt.ld4|apply Rt.ld5)); first|assumption|exact Lc.kp (by assumption) (by assumption))|((with_reducible apply Rt.ol); first|assumption|exact cell_kp (by assumption) (by assumption))|fail))
      refine Rt.cN (fun _ => ?_) fun h => absurd rfl h
      refine Rt.some' (.inl ⟨.inl rfl, ?_⟩)
      (repeat' (first|(with_reducible (first|apply Rt.fin|apply Rt.tL|apply Rt.tI|apply Rt.tB|apply Rt.tS|apply Rt.tP|apply Rt.tD|apply Rt.tM|apply Rt.tC|apply Rt.tN|apply Rt.tA|apply Rt.tG|apply Rt.tF|apply Rt.os|apply Rt.clS|apply Rt.jmN|apply Rt.jbN|apply Rt.jbE|apply Rt.ckR|exact Rt.some' rfl))|((with_reducible (first|apply Rt.ld0|apply Rt.ld1|apply Rt.ld2|apply Rt.ld3|apply Rt.ld4|apply Rt.ld5)); first|assumption|exact Lc.kp (by assumption) (by assumption))|((with_reducible apply Rt.ol); first|assumption|exact cell_kp (by assumption) (by assumption))|fail))
      exact go _ _ _ _ hb8
    · (repeat' (first|(with_reducible (first|apply Rt.fin|apply Rt.tL|apply Rt.tI|apply Rt.tB|apply Rt.tS|apply Rt.tP|apply Rt.tD|apply Rt.tM|apply Rt.tC|apply Rt.tN|apply Rt.tA|apply Rt.tG|apply Rt.tF|apply Rt.os|apply Rt.clS|apply Rt.jmN|apply Rt.jbN|apply Rt.jbE|apply Rt.ckR|exact Rt.some' rfl))|((with_reducible (first|apply Rt.ld0|apply Rt.ld1|apply Rt.ld2|apply Rt.ld3|apply Rt.ld4|apply Rt.ld5)); first|assumption|exact Lc.kp (by assumption) (by assumption))|((with_reducible apply Rt.ol); first|assumption|exact cell_kp (by assumption) (by assumption))|fail))
      exact go _ _ _ _ hb6
theorem Plays_spec {a0 : Int} {A3 A5 : Option Addr} {l3 c3 l5 c5 : Nat} {faults junk : List Int} (hn : 2 ^ 63 < n) (h0 : a0 < 2 ^ 63) (hx : Ev batEl w A l c xs) (hw : Bv .i64 w A2 l2 c2 ways) (hf : Bv .i64 w A3 l3 c3 faults) (hk : -2 ^ 63 ≤ keep ∧ keep < 2 ^ 63) (hj : Bv .u8 w A5 l5 c5 junk) :
    Rt (butterylaw8_WalPlays n [.int .i64 a0, .slice A l c, .slice A2 l2 c2, .slice A3 l3 c3, .int .i64 keep, .slice A5 l5 c5] w) (RB True w) := by
  obtain ⟨ib, hT⟩ := Fr.slI
  rw [butterylaw8_WalPlays_eq]
  refine Rt.fin (Rt.cBt (alive_spec hn) trivial fun w1 k1 => Rt.cF rfl (Rt.cD (fun h => Rt.endB (by simp) k1) fun i1 => Rt.cD (fun h => Rt.endB (by simp) k1) fun i2 => Rt.cD (fun h => Rt.endB (by simp) k1) fun i3 => Rt.cD (fun h => Rt.endB (by simp) k1) fun i4 => ?_))
  obtain ⟨_, hr1, d, w2, S, rfl, h2, k2, hS⟩ := New_spec (n := n) (w := w1) h0
  refine Rt.cl hr1 ?_
  (repeat' (first|(with_reducible (first|apply Rt.fin|apply Rt.tL|apply Rt.tI|apply Rt.tB|apply Rt.tS|apply Rt.tP|apply Rt.tD|apply Rt.tM|apply Rt.tC|apply Rt.tN|apply Rt.tA|apply Rt.tG|apply Rt.tF|apply Rt.os|apply Rt.clS|apply Rt.jmN|apply Rt.jbN|apply Rt.jbE|apply Rt.ckR|exact Rt.some' rfl))|((with_reducible (first|apply Rt.ld0|apply Rt.ld1|apply Rt.ld2|apply Rt.ld3|apply Rt.ld4|apply Rt.ld5)); first|assumption|exact Lc.kp (by assumption) (by assumption))|((with_reducible apply Rt.ol); first|assumption|exact cell_kp (by assumption) (by assumption))|fail))
  obtain ⟨_, hr2, r, w3, T, rfl, h3, k3, hT3⟩ := RNew_spec (n := n) (w := w2) h0
  refine Rt.cl hr2 ?_
  (repeat' (first|(with_reducible (first|apply Rt.fin|apply Rt.tL|apply Rt.tI|apply Rt.tB|apply Rt.tS|apply Rt.tP|apply Rt.tD|apply Rt.tM|apply Rt.tC|apply Rt.tN|apply Rt.tA|apply Rt.tG|apply Rt.tF|apply Rt.os|apply Rt.clS|apply Rt.jmN|apply Rt.jbN|apply Rt.jbE|apply Rt.ckR|exact Rt.some' rfl))|((with_reducible (first|apply Rt.ld0|apply Rt.ld1|apply Rt.ld2|apply Rt.ld3|apply Rt.ld4|apply Rt.ld5)); first|assumption|exact Lc.kp (by assumption) (by assumption))|((with_reducible apply Rt.ol); first|assumption|exact cell_kp (by assumption) (by assumption))|fail))
  have hlt2 := h2.lt
  have hb3 : Bo w1 w3 d r _ _ S T := ⟨h2.kp k3, h3, hS, fun j hj => Nat.le_trans k2.size (hT3 j hj), fun j hj ht => by have := hlt2 j hj; have := hT3 j ht; omega, k2.tr k3⟩
  have junkS : ∀ {S' : Nat → Prop} {w' : World}, Kp w1 w' → (∀ j, S' j → w1.heap.size ≤ j) → Stb (fun j => S' j ∨ w'.heap.size ≤ j) (fun w => Bv .u8 w A5 l5 c5 junk) w' := fun hk' hS' w'' g => (hj.kp k1).kp (hk'.tx g fun j hj' => hj'.elim (hS' j) fun h => Nat.le_trans hk'.size h)
  obtain ⟨_, hr4, w4, S4, rfl, g4, hs4, h4⟩ := Append_spec (n := n) hb3.dk (junkS hb3.kp hb3.sb) (by omega)
  have hb4 := hb3.stD h4 g4 hs4
  refine Rt.cl hr4 ?_
  (repeat' (first|(with_reducible (first|apply Rt.fin|apply Rt.tL|apply Rt.tI|apply Rt.tB|apply Rt.tS|apply Rt.tP|apply Rt.tD|apply Rt.tM|apply Rt.tC|apply Rt.tN|apply Rt.tA|apply Rt.tG|apply Rt.tF|apply Rt.os|apply Rt.clS|apply Rt.jmN|apply Rt.jbN|apply Rt.jbE|apply Rt.ckR|exact Rt.some' rfl))|((with_reducible (first|apply Rt.ld0|apply Rt.ld1|apply Rt.ld2|apply Rt.ld3|apply Rt.ld4|apply Rt.ld5)); first|assumption|exact Lc.kp (by assumption) (by assumption))|((with_reducible apply Rt.ol); first|assumption|exact cell_kp (by assumption) (by assumption))|fail))
  obtain ⟨_, hr5, w5, T5, rfl, g5, hs5, h5⟩ := RAppend_spec (n := n) hb4.rx (junkS hb4.kp hb4.tb) (by omega) (by omega)
  have hb5 := hb4.stR h5 g5 hs5
  refine Rt.cl hr5 ?_
  (repeat' (first|(with_reducible (first|apply Rt.fin|apply Rt.tL|apply Rt.tI|apply Rt.tB|apply Rt.tS|apply Rt.tP|apply Rt.tD|apply Rt.tM|apply Rt.tC|apply Rt.tN|apply Rt.tA|apply Rt.tG|apply Rt.tF|apply Rt.os|apply Rt.clS|apply Rt.jmN|apply Rt.jbN|apply Rt.jbE|apply Rt.ckR|exact Rt.some' rfl))|((with_reducible (first|apply Rt.ld0|apply Rt.ld1|apply Rt.ld2|apply Rt.ld3|apply Rt.ld4|apply Rt.ld5)); first|assumption|exact Lc.kp (by assumption) (by assumption))|((with_reducible apply Rt.ol); first|assumption|exact cell_kp (by assumption) (by assumption))|fail))
  have kw5 := k1.tr hb5.kp
  have hfl := hf.len
  refine Rt.app0 hT (hf.kp kw5).sl hf.nil (by omega) fun A6 c6 w6 o6 k6 => ?_
  (repeat' (first|(with_reducible (first|apply Rt.fin|apply Rt.tL|apply Rt.tI|apply Rt.tB|apply Rt.tS|apply Rt.tP|apply Rt.tD|apply Rt.tM|apply Rt.tC|apply Rt.tN|apply Rt.tA|apply Rt.tG|apply Rt.tF|apply Rt.os|apply Rt.clS|apply Rt.jmN|apply Rt.jbN|apply Rt.jbE|apply Rt.ckR|exact Rt.some' rfl))|((with_reducible (first|apply Rt.ld0|apply Rt.ld1|apply Rt.ld2|apply Rt.ld3|apply Rt.ld4|apply Rt.ld5)); first|assumption|exact Lc.kp (by assumption) (by assumption))|((with_reducible apply Rt.ol); first|assumption|exact cell_kp (by assumption) (by assumption))|fail))
  have hb6 := hb5.kp' k6
  subst hfl
  obtain ⟨_, hr7, w7, S7, rfl, h7, g7, hs7⟩ := Fail_spec (n := n) hb6.dk (o6.bv hf.rng) (by omega)
  have hb7 := hb6.stD h7 g7 hs7
  refine Rt.cl hr7 ?_
  (repeat' (first|(with_reducible (first|apply Rt.fin|apply Rt.tL|apply Rt.tI|apply Rt.tB|apply Rt.tS|apply Rt.tP|apply Rt.tD|apply Rt.tM|apply Rt.tC|apply Rt.tN|apply Rt.tA|apply Rt.tG|apply Rt.tF|apply Rt.os|apply Rt.clS|apply Rt.jmN|apply Rt.jbN|apply Rt.jbE|apply Rt.ckR|exact Rt.some' rfl))|((with_reducible (first|apply Rt.ld0|apply Rt.ld1|apply Rt.ld2|apply Rt.ld3|apply Rt.ld4|apply Rt.ld5)); first|assumption|exact Lc.kp (by assumption) (by assumption))|((with_reducible apply Rt.ol); first|assumption|exact cell_kp (by assumption) (by assumption))|fail))
  obtain ⟨_, hr8, w8, T8, rfl, h8, g8, hs8⟩ := RFail_spec (n := n) hb7.rx (hf.kp (k1.tr hb7.kp)) (by omega)
  have hb8 := hb7.stR h8 g8 hs8
  refine Rt.cl hr8 ?_
  (repeat' (first|(with_reducible (first|apply Rt.fin|apply Rt.tL|apply Rt.tI|apply Rt.tB|apply Rt.tS|apply Rt.tP|apply Rt.tD|apply Rt.tM|apply Rt.tC|apply Rt.tN|apply Rt.tA|apply Rt.tG|apply Rt.tF|apply Rt.os|apply Rt.clS|apply Rt.jmN|apply Rt.jbN|apply Rt.jbE|apply Rt.ckR|exact Rt.some' rfl))|((with_reducible (first|apply Rt.ld0|apply Rt.ld1|apply Rt.ld2|apply Rt.ld3|apply Rt.ld4|apply Rt.ld5)); first|assumption|exact Lc.kp (by assumption) (by assumption))|((with_reducible apply Rt.ol); first|assumption|exact cell_kp (by assumption) (by assumption))|fail))
  refine Rt.jb (Rt.mono (Plays_l0 (n := n) hn (hx.kp k1) (hw.kp k1) (by omega) (by omega) hk l 0 n w8 _ _ _ (by omega) (by omega) hb8) ?_)
  rintro ⟨exx, vs, w9⟩ (⟨e1, e2, k9⟩ | ⟨e1, e2, s9, S9, T9, hb9⟩)
  · dsimp only at e1 e2 k9; subst e1 e2
    exact .inr ⟨rfl, rfl, true, w9, rfl, by simp, k1.tr k9⟩
  dsimp only at e1 e2 hb9; subst e1 e2
  refine .inl ⟨.inr rfl, ?_⟩
  (repeat' (first|(with_reducible (first|apply Rt.fin|apply Rt.tL|apply Rt.tI|apply Rt.tB|apply Rt.tS|apply Rt.tP|apply Rt.tD|apply Rt.tM|apply Rt.tC|apply Rt.tN|apply Rt.tA|apply Rt.tG|apply Rt.tF|apply Rt.os|apply Rt.clS|apply Rt.jmN|apply Rt.jbN|apply Rt.jbE|apply Rt.ckR|exact Rt.some' rfl))|((with_reducible (first|apply Rt.ld0|apply Rt.ld1|apply Rt.ld2|apply Rt.ld3|apply Rt.ld4|apply Rt.ld5)); first|assumption|exact Lc.kp (by assumption) (by assumption))|((with_reducible apply Rt.ol); first|assumption|exact cell_kp (by assumption) (by assumption))|fail))
  have nilI : ∀ w', Bv .i64 w' none 0 0 [] := fun w' => ⟨Sl.nil .., fun _ => ⟨rfl, rfl⟩, Nat.le_refl _, Nat.zero_le _, fun z hz => by cases hz⟩
  obtain ⟨_, hrA, wA, SA, rfl, hA, gA, hsA⟩ := Fail_spec (n := n) hb9.dk (nilI _) (by omega)
  have hbA := hb9.stD hA gA hsA
  refine Rt.cl hrA ?_
  (repeat' (first|(with_reducible (first|apply Rt.fin|apply Rt.tL|apply Rt.tI|apply Rt.tB|apply Rt.tS|apply Rt.tP|apply Rt.tD|apply Rt.tM|apply Rt.tC|apply Rt.tN|apply Rt.tA|apply Rt.tG|apply Rt.tF|apply Rt.os|apply Rt.clS|apply Rt.jmN|apply Rt.jbN|apply Rt.jbE|apply Rt.ckR|exact Rt.some' rfl))|((with_reducible (first|apply Rt.ld0|apply Rt.ld1|apply Rt.ld2|apply Rt.ld3|apply Rt.ld4|apply Rt.ld5)); first|assumption|exact Lc.kp (by assumption) (by assumption))|((with_reducible apply Rt.ol); first|assumption|exact cell_kp (by assumption) (by assumption))|fail))
  obtain ⟨_, hrB, wB, TB, rfl, hB, gB, hsB⟩ := RFail_spec (n := n) hbA.rx (nilI _) (by omega)
  have hbB := hbA.stR hB gB hsB
  refine Rt.cl hrB ?_
  (repeat' (first|(with_reducible (first|apply Rt.fin|apply Rt.tL|apply Rt.tI|apply Rt.tB|apply Rt.tS|apply Rt.tP|apply Rt.tD|apply Rt.tM|apply Rt.tC|apply Rt.tN|apply Rt.tA|apply Rt.tG|apply Rt.tF|apply Rt.os|apply Rt.clS|apply Rt.jmN|apply Rt.jbN|apply Rt.jbE|apply Rt.ckR|exact Rt.some' rfl))|((with_reducible (first|apply Rt.ld0|apply Rt.ld1|apply Rt.ld2|apply Rt.ld3|apply Rt.ld4|apply Rt.ld5)); first|assumption|exact Lc.kp (by assumption) (by assumption))|((with_reducible apply Rt.ol); first|assumption|exact cell_kp (by assumption) (by assumption))|fail))
  refine both_rec hn hbB fun A7 c7 w7 hg => ?_
  refine hg fun A8 c8 w8 hb8 => ?_
  refine Rt.cT rfl ?_
  refine Rt.cQ (fun _ => ?_) fun h => absurd rfl h
  rw [num8_spec]
  (repeat' (first|(with_reducible (first|apply Rt.fin|apply Rt.tL|apply Rt.tI|apply Rt.tB|apply Rt.tS|apply Rt.tP|apply Rt.tD|apply Rt.tM|apply Rt.tC|apply Rt.tN|apply Rt.tA|apply Rt.tG|apply Rt.tF|apply Rt.os|apply Rt.clS|apply Rt.jmN|apply Rt.jbN|apply Rt.jbE|apply Rt.ckR|exact Rt.some' rfl))|((with_reducible (first|apply Rt.ld0|apply Rt.ld1|apply Rt.ld2|apply Rt.ld3|apply Rt.ld4|apply Rt.ld5)); first|assumption|exact Lc.kp (by assumption) (by assumption))|((with_reducible apply Rt.ol); first|assumption|exact cell_kp (by assumption) (by assumption))|fail))
  exact Rt.endB (by simp) (k1.tr hb8.kp)
end
end Go.Proofs.YtdcdgmiojlldaaaDoor.Wl
/- Batches that come in. -/
namespace Go.Proofs.YtdcdgmiojlldaaaDoor.Wl
open Go Big Go.RowKit Go.IntWalk Var Low Par
set_option linter.unusedVariables false
set_option linter.unusedSimpArgs false
open Ba (opEl op_open)
theorem len2 {l : List Value} (h : l.length = 2) : ∃ a b, l = [a, b] := by
  match l, h with
  | [a, b], _ => exact ⟨a, b, rfl⟩
theorem bat_open {H : Type} {enc : TypeId × Value → H} {W : World} {base : Nat} {spare : Nat → Bool} {held : Bool} (n : Nat) (cs : List Value) (y : DataW H × List MemPlace) (h : DataW.trod enc Tryd.prog W base spare held n 33 cs = some y) : ∃ x, batEl.rd W cs x := by
  obtain ⟨hl, hg⟩ := st_open Tryd.underlying33 h
  have hl : cs.length = 2 := hl.trans (by kernel_rfl)
  obtain ⟨c0, c1, rfl⟩ := len2 hl
  clear hl h
  obtain ⟨_, _, g0⟩ := hg 0 _ rfl
  obtain ⟨_, _, g1⟩ := hg 1 _ rfl
  obtain ⟨s, e0, r0⟩ := int_open (k := .u64) Tryd.underlying27 g0
  obtain ⟨A, l, c, xs, e1, b1⟩ := ev_open (E := opEl) Tryd.underlying31 (by kernel_rfl) op_open g1
  have f0 : c0 = Value.int .u64 s := (List.cons.inj ((show [c0] = List.take (Tryd.prog.cellsOf 27) (List.drop 0 [c0, c1]) by rw [show Tryd.prog.cellsOf 27 = 1 by kernel_rfl]; rfl).trans e0)).1
  have f1 : c1 = Value.slice A l c := (List.cons.inj ((show [c1] = List.take (Tryd.prog.cellsOf 31) (List.drop 1 [c0, c1]) by rw [show Tryd.prog.cellsOf 31 = 1 by kernel_rfl]; rfl).trans e1)).1
  clear e0 e1
  subst f0 f1
  have hl := b1.len
  subst hl
  exact ⟨(s, xs), A, c, rfl, u64b r0, b1⟩
end Go.Proofs.YtdcdgmiojlldaaaDoor.Wl

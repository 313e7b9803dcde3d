/- Frames: a bit that was turned; blocks; a record over blocks. -/
import Derived.Test.YtebcmkohnebgmaaDoorF8
namespace Go.Proofs.YtebcmkohnebgmaaDoor.Fr
open Go Big Go.RowKit Go.IntWalk Crc
set_option linter.unusedVariables false
set_option linter.unusedSimpArgs false
section
variable {α : Type} {Q : α → Prop} {n m : Nat} {w w' w0 w1 : World} {A B C : Option Addr} {l c d base lo co at_ p tk : Nat} {k : Int} {x r out o zs s now : List Int} {rs acc xs ys : List (List Int)} {wi : Bool}
theorem and7 (x : Int) : 0 ≤ bits .and .i64 x 7 ∧ bits .and .i64 x 7 ≤ 7 := by
  unfold bits
  simp only [IntKind.bits]
  have h : (BitVec.ofInt 64 x &&& BitVec.ofInt 64 7).toNat ≤ 7 := by rw [BitVec.toNat_and]; exact Nat.and_le_right
  generalize hz : (BitVec.ofInt 64 x &&& BitVec.ofInt 64 7).toNat = z at h
  show 0 ≤ IntKind.i64.wrap (((BitVec.ofInt 64 x &&& BitVec.ofInt 64 7).toNat : Nat) : Int) ∧ IntKind.i64.wrap (((BitVec.ofInt 64 x &&& BitVec.ofInt 64 7).toNat : Nat) : Int) ≤ 7
  rw [hz, i64_in _ (by omega)]; omega
theorem Turns_l0 {at1 bit : Int} (hx : Ev byEl w A l c xs) (hl : l ≤ 10) : ∀ (q i j : Nat), i + q = l → q < j → (∀ x ∈ xs.take i, x.length ≤ 300) →
    Rt (butterylaw7_FrameTurns.l0 n j A l c at1 bit (i : Int) w) fun r => r.w = w ∧ (r.ex = .ret ∧ r.vals = [.bool true] ∨ r.ex = .exit 0 ∧ r.vals = [.slice A l c, .int .i64 at1, .int .i64 bit] ∧ ∀ x ∈ xs, x.length ≤ 300) := by
  have hxl := hx.len
  intro q
  induction q with
  | zero =>
    intro i j hi hj hr
    obtain ⟨j, rfl⟩ : ∃ j', j = j' + 1 := ⟨j - 1, by omega⟩
    rw [butterylaw7_FrameTurns.l0_succ]
    rw [List.take_of_length_le (by omega)] at hr
    exact Rt.cDF (by omega) (Rt.some' ⟨rfl, .inr ⟨rfl, rfl, hr⟩⟩)
  | succ q ih =>
    intro i j hi hj hr
    obtain ⟨j, rfl⟩ : ∃ j', j = j' + 1 := ⟨j - 1, by omega⟩
    rw [butterylaw7_FrameTurns.l0_succ]
    refine Rt.cDT (by omega) (Rt.ixB hx.sl (by omega) (by omega) fun x a B m d ex hv ca => ?_)
    rw [Int.toNat_natCast] at ex
    have hml := hv.len
    refine Rt.ol ca (Rt.tL (Rt.cD (fun h => Rt.some' ⟨rfl, .inl ⟨rfl, rfl⟩⟩) fun h => ?_))
    rw [i64_in _ (by omega), show ((i : Int) + 1) = ((i + 1 : Nat) : Int) by omega]
    refine ih (i + 1) j (by omega) (by omega) fun x' hx' => ?_
    rw [List.take_add_one, ex, List.mem_append] at hx'
    rcases hx' with h' | h'
    · exact hr x' h'
    · simp at h'; subst h'; omega
theorem Turns_l1 {es : List Nat} {t : Nat} {D : Option Addr} {f : Nat} (hd : Sl .i64 w D es.length (nums es)) (hle : es.length ≤ 10) : ∀ (q i j : Nat), i + q = es.length → q < j → i ≤ upTo es t →
    Rt (butterylaw7_FrameTurns.l1 n j A l c B m d D es.length f (t : Int) (i : Int) w) fun r => r = ⟨.exit 2, [.slice A l c, .slice B m d, .int .i64 (upTo es t : Int)], w⟩ := by
  intro q
  induction q with
  | zero =>
    intro i j hi hj hr
    obtain ⟨j, rfl⟩ : ∃ j', j = j' + 1 := ⟨j - 1, by omega⟩
    rw [butterylaw7_FrameTurns.l1_succ]
    exact Rt.cDF (by omega) (Rt.some' (by rw [(upTo_at hr).2.2 (by omega)]))
  | succ q ih =>
    intro i j hi hj hr
    obtain ⟨j, rfl⟩ : ∃ j', j = j' + 1 := ⟨j - 1, by omega⟩
    rw [butterylaw7_FrameTurns.l1_succ]
    refine Rt.cDT (by omega) (Rt.ix hd (by omega) (by omega) ?_)
    have e1 : (nums es).getD ((i : Int)).toNat 0 = ((es.getD i 0 : Nat) : Int) := by
      rw [Int.toNat_natCast]
      simp [nums, List.getD_eq_getElem?_getD, List.getElem?_map, List.getElem?_eq_getElem (show i < es.length by omega)]
    rw [e1]
    refine Rt.cD (fun h => ?_) fun h => ?_
    · rw [i64_in _ (by omega), show ((i : Int) + 1) = ((i + 1 : Nat) : Int) by omega]
      exact ih (i + 1) j (by omega) (by omega) ((upTo_at hr).1 (by omega) (by omega))
    · exact Rt.some' (by rw [(upTo_at hr).2.1 (by omega) (by omega)])
theorem Turns_spec {at1 bit : Int} (hn' : 2 ^ 63 < n) (hx : Ev byEl w A l c xs) (ha1 : at1 < 2 ^ 63) : Rt (butterylaw7_FrameTurns n [.slice A l c, .int .i64 at1, .int .i64 bit] w) (RB True w) := by
  have hn : 2 ^ 50 < n := by omega
  have hxl := hx.len
  rw [butterylaw7_FrameTurns_eq]
  refine Rt.fin (Rt.cBt (alive_spec hn) trivial fun w1 k1 => Rt.cF rfl (Rt.cD (fun h => Rt.endB (by simp) k1) fun h1 => Rt.cD (fun h => Rt.endB (by simp) k1) fun h2 => Rt.cD (fun h => Rt.endB (by simp) k1) fun h3 => ?_))
  refine Rt.jb (Rt.mono (Turns_l0 (n := n) (hx.kp k1) (by omega) l 0 n (by omega) (by omega) (by simp)) ?_)
  rintro ⟨ex, vs, w2⟩ ⟨e2, ⟨h4, h5⟩ | ⟨h4, h5, hsh⟩⟩
  · dsimp only at e2 h4 h5; subst e2 h4 h5
    exact .inr ⟨rfl, rfl, true, _, rfl, by simp, k1⟩
  dsimp only at e2 h4 h5; subst e2 h4 h5
  refine .inl ⟨.inr rfl, ?_⟩
  (repeat (first | (with_reducible (first | refine Rt.fin ?_ | refine Rt.tL ?_ | refine Rt.tI ?_ | refine Rt.tB ?_ | refine Rt.tS ?_ | refine Rt.tP ?_ | refine Rt.tD ?_ | refine Rt.tM ?_ | refine Rt.tC ?_ | refine Rt.tN ?_ | refine Rt.tA ?_ | refine Rt.tG ?_ | refine Rt.tF ?_ | refine Rt.os ?_ | refine Rt.clS ?_ | refine Rt.jmN ?_ | refine Rt.jbN ?_ | refine Rt.jbE ?_)) | ((with_reducible (first | apply Rt.ld0 | apply Rt.ld1 | apply Rt.ld2 | apply Rt.ld3 | apply Rt.ld4 | apply Rt.ld5)); first | assumption | exact Lc.kp (by assumption) (by assumption)) | ((with_reducible apply Rt.ol); first | assumption | exact cell_kp (by assumption) (by assumption)) | ((with_reducible apply Rt.ckR); focus ((repeat (first | (with_reducible (first | refine Rt.fin ?_ | refine Rt.tL ?_ | refine Rt.tI ?_ | refine Rt.tB ?_ | refine Rt.tS ?_ | refine Rt.tP ?_ | refine Rt.tD ?_ | refine Rt.tM ?_ | refine Rt.tC ?_ | refine Rt.tN ?_ | refine Rt.tA ?_ | refine Rt.tG ?_ | refine Rt.tF ?_ | refine Rt.os ?_ | refine Rt.clS ?_ | refine Rt.jmN ?_ | refine Rt.jbN ?_ | refine Rt.jbE ?_)) | ((with_reducible (first | apply Rt.ld0 | apply Rt.ld1 | apply Rt.ld2 | apply Rt.ld3 | apply Rt.ld4 | apply Rt.ld5)); first | assumption | exact Lc.kp (by assumption) (by assumption)) | ((with_reducible apply Rt.ol); first | assumption | exact cell_kp (by assumption) (by assumption)))); exact Rt.some' rfl))))
  refine Rt.call (log_spec hn (hx.kp k1) (by omega) fun x hx' => by have := hsh x hx'; omega) ?_
  rintro vs w3 ⟨C, e, D, f, b, es, w3', hr, k3, hL, hel, hbl, ho, hoi, hne⟩
  cases hr
  (repeat (first | (with_reducible (first | refine Rt.fin ?_ | refine Rt.tL ?_ | refine Rt.tI ?_ | refine Rt.tB ?_ | refine Rt.tS ?_ | refine Rt.tP ?_ | refine Rt.tD ?_ | refine Rt.tM ?_ | refine Rt.tC ?_ | refine Rt.tN ?_ | refine Rt.tA ?_ | refine Rt.tG ?_ | refine Rt.tF ?_ | refine Rt.os ?_ | refine Rt.clS ?_ | refine Rt.jmN ?_ | refine Rt.jbN ?_ | refine Rt.jbE ?_)) | ((with_reducible (first | apply Rt.ld0 | apply Rt.ld1 | apply Rt.ld2 | apply Rt.ld3 | apply Rt.ld4 | apply Rt.ld5)); first | assumption | exact Lc.kp (by assumption) (by assumption)) | ((with_reducible apply Rt.ol); first | assumption | exact cell_kp (by assumption) (by assumption)) | ((with_reducible apply Rt.ckR); focus ((repeat (first | (with_reducible (first | refine Rt.fin ?_ | refine Rt.tL ?_ | refine Rt.tI ?_ | refine Rt.tB ?_ | refine Rt.tS ?_ | refine Rt.tP ?_ | refine Rt.tD ?_ | refine Rt.tM ?_ | refine Rt.tC ?_ | refine Rt.tN ?_ | refine Rt.tA ?_ | refine Rt.tG ?_ | refine Rt.tF ?_ | refine Rt.os ?_ | refine Rt.clS ?_ | refine Rt.jmN ?_ | refine Rt.jbN ?_ | refine Rt.jbE ?_)) | ((with_reducible (first | apply Rt.ld0 | apply Rt.ld1 | apply Rt.ld2 | apply Rt.ld3 | apply Rt.ld4 | apply Rt.ld5)); first | assumption | exact Lc.kp (by assumption) (by assumption)) | ((with_reducible apply Rt.ol); first | assumption | exact cell_kp (by assumption) (by assumption)))); exact Rt.some' rfl))))
  have k13 := k1.tr k3
  have hb0 := IsLog_len hL (fun h => by subst h; simp at hxl; omega)
  rw [if_neg (by omega)]
  have e1 : Int.tmod at1 (b.length : Int) = ((at1.toNat % b.length : Nat) : Int) := by
    rw [Int.tmod_eq_emod_of_nonneg (by omega), Int.natCast_emod, Int.toNat_of_nonneg (by omega)]
  rw [e1]
  have hmod : at1.toNat % b.length < b.length := Nat.mod_lt _ hb0
  generalize at1.toNat % b.length = t at hmod ⊢
  have hby := hL.bytes (ev_bytes hx)
  have h7 := and7 bit
  refine Rt.ix ho.sl.2 (by omega) (by omega) ?_
  rw [u64_in (bits .and .i64 bit 7) (by omega), if_neg (by omega)]
  generalize hv : bits .xor .u8 (b.getD ((t : Int)).toNat 0) (IntKind.u8.wrap (1 * 2 ^ min (Int.toNat (bits .and .i64 bit 7)) 8)) = v
  have hvr := u8_range .xor (b.getD ((t : Int)).toNat 0) (IntKind.u8.wrap (1 * 2 ^ min (Int.toNat (bits .and .i64 bit 7)) 8))
  rw [hv] at hvr
  obtain ⟨a, w4, ea, hab, hw4, o4, g4, st4⟩ := ho.store (i := (t : Int)) (by omega) (by omega) v
  rw [st4]
  rw [Int.toNat_natCast] at o4
  subst ea
  have k3 : Kp w2 w3 := k3
  have hab : w2.heap.size ≤ a.block := hab
  have k4 : Kp w2 w4 := k3.gr g4 fun k hk => by injection hk with hk; omega
  have hac : On (.slice (some a) b.length e) a.block := by
    rcases ho.2 with ⟨h', _⟩ | ⟨g, cap, cur, h', _⟩
    · injection h' with h'; cases h'
    · injection h' with h' _ _; injection h' with h'; subst h'; rfl
  have hoi4 := hoi.kept g4 (by
    by_cases hq : (Value.slice D es.length f).ownBlock = none
    · exact .inl hq
    · right; intro hq'
      exact hne a.block hac hq')
  have hby4 : Bytes (b.set t v) := fun z hz => by
    rcases List.mem_or_eq_of_mem_set hz with h | h
    · exact hby z h
    · subst h; exact wf8 hvr.1 hvr.2
  have hbl4 : (b.set t v).length = b.length := List.length_set
  have k14 := k1.tr k4
  refine Rt.jb (Rt.mono (Turns_l1 (n := n) (es := es) (t := t) hoi4.sl.2 (by omega) es.length 0 n (by omega) (by omega) (by omega)) ?_)
  rintro _ rfl
  refine .inl ⟨.inr rfl, ?_⟩
  dsimp only
  (repeat (first | (with_reducible (first | refine Rt.fin ?_ | refine Rt.tL ?_ | refine Rt.tI ?_ | refine Rt.tB ?_ | refine Rt.tS ?_ | refine Rt.tP ?_ | refine Rt.tD ?_ | refine Rt.tM ?_ | refine Rt.tC ?_ | refine Rt.tN ?_ | refine Rt.tA ?_ | refine Rt.tG ?_ | refine Rt.tF ?_ | refine Rt.os ?_ | refine Rt.clS ?_ | refine Rt.jmN ?_ | refine Rt.jbN ?_ | refine Rt.jbE ?_)) | ((with_reducible (first | apply Rt.ld0 | apply Rt.ld1 | apply Rt.ld2 | apply Rt.ld3 | apply Rt.ld4 | apply Rt.ld5)); first | assumption | exact Lc.kp (by assumption) (by assumption)) | ((with_reducible apply Rt.ol); first | assumption | exact cell_kp (by assumption) (by assumption)) | ((with_reducible apply Rt.ckR); focus ((repeat (first | (with_reducible (first | refine Rt.fin ?_ | refine Rt.tL ?_ | refine Rt.tI ?_ | refine Rt.tB ?_ | refine Rt.tS ?_ | refine Rt.tP ?_ | refine Rt.tD ?_ | refine Rt.tM ?_ | refine Rt.tC ?_ | refine Rt.tN ?_ | refine Rt.tA ?_ | refine Rt.tG ?_ | refine Rt.tF ?_ | refine Rt.os ?_ | refine Rt.clS ?_ | refine Rt.jmN ?_ | refine Rt.jbN ?_ | refine Rt.jbE ?_)) | ((with_reducible (first | apply Rt.ld0 | apply Rt.ld1 | apply Rt.ld2 | apply Rt.ld3 | apply Rt.ld4 | apply Rt.ld5)); first | assumption | exact Lc.kp (by assumption) (by assumption)) | ((with_reducible apply Rt.ol); first | assumption | exact cell_kp (by assumption) (by assumption)))); exact Rt.some' rfl))))
  obtain ⟨rs', d', cc, hrd⟩ := Rd.turned hsm hL (m := t) (d := 0) (b2 := b.set t v) (by rw [List.take_set_of_le (Nat.le_refl _)]) hbl4
  rw [Nat.zero_add] at hrd
  have hu := upTo_le es t
  have hb4 : Bv .u8 w4 (some a) b.length e (b.set t v) := o4.bv hby4
  refine Rt.callAll (All_spec hn hb4 (by omega) hrd) fun R rc w5 e5 k5 => ?_
  refine Rt.callAll (RAll_spec hn (hb4.kp k5) (by omega) hrd) fun R2 rc2 w6 e6 k6 => ?_
  have k56 := k5.tr k6
  have k16 := k14.tr k56
  refine Rt.cD (fun h => ?_) fun h => ?_
  · refine Rt.cBt (Same_spec hn' (e5.kp k6) e6) rfl fun w7 k7 => ?_
    exact Rt.cT rfl (Rt.endB (by simp) (k16.tr k7))
  · have hnil : rs' = [] := by
      rw [List.length_append, List.length_take] at h
      exact List.length_eq_zero_iff.1 (by omega)
    subst hnil
    rw [List.append_nil] at e5
    refine Rt.cutE (hx.kp k16) rfl (by omega) (by omega) (by omega) fun F eF => ?_
    rw [Int.toNat_natCast, show Int.toNat 0 = 0 from rfl, List.drop_zero, Nat.sub_zero, Nat.sub_zero] at eF
    rw [List.append_nil]
    refine Rt.cBt (Same_spec hn' (e5.kp k6) eF) rfl fun w7 k7 => ?_
    exact Rt.cT rfl (Rt.endB (by simp) (k16.tr k7))
/-! ### Blocks -/
theorem Blocks_l0 {a : Nat} {f : Bool} (h : Pieces sm a f r out) : a ≤ 121 → ∀ (m i : Nat), out.length < m → i + out.length ≤ 2 ^ 40 →
    Rt (butterylaw7_FrameBlocks.l0 n m C lo co (a : Int) (i : Int) (r.length : Int) w) fun r => r = ⟨.ret, [.bool (((i + out.length : Nat) : Int) == (lo : Int))], w⟩ := by
  induction h with
  | @last a f r h =>
    intro h121 m i hm hi
    obtain ⟨m, rfl⟩ : ∃ m', m = m' + 1 := ⟨m - 1, by omega⟩
    rw [pc_len] at hi ⊢
    rw [butterylaw7_FrameBlocks.l0_succ, i64_in (128 - (a : Int)) (by omega), i64_in (128 - (a : Int) - 7) (by omega)]
    refine Rt.jm (Rt.mono (Q' := fun q => q = ⟨.norm, [.slice C lo co, .int .i64 (a : Int), .int .i64 (i : Int), .int .i64 (r.length : Int), .int .i64 (r.length : Int)], w⟩) ?_ ?_)
    · refine Rt.cD (fun h' => Rt.some' rfl) fun h' => Rt.some' ?_
      rw [show 128 - (a : Int) - 7 = (r.length : Int) by omega]
    · rintro _ rfl
      refine ⟨rfl, ?_⟩
      dsimp only
      (repeat (first | (with_reducible (first | refine Rt.fin ?_ | refine Rt.tL ?_ | refine Rt.tI ?_ | refine Rt.tB ?_ | refine Rt.tS ?_ | refine Rt.tP ?_ | refine Rt.tD ?_ | refine Rt.tM ?_ | refine Rt.tC ?_ | refine Rt.tN ?_ | refine Rt.tA ?_ | refine Rt.tG ?_ | refine Rt.tF ?_ | refine Rt.os ?_ | refine Rt.clS ?_ | refine Rt.jmN ?_ | refine Rt.jbN ?_ | refine Rt.jbE ?_)) | ((with_reducible (first | apply Rt.ld0 | apply Rt.ld1 | apply Rt.ld2 | apply Rt.ld3 | apply Rt.ld4 | apply Rt.ld5)); first | assumption | exact Lc.kp (by assumption) (by assumption)) | ((with_reducible apply Rt.ol); first | assumption | exact cell_kp (by assumption) (by assumption)) | ((with_reducible apply Rt.ckR); focus ((repeat (first | (with_reducible (first | refine Rt.fin ?_ | refine Rt.tL ?_ | refine Rt.tI ?_ | refine Rt.tB ?_ | refine Rt.tS ?_ | refine Rt.tP ?_ | refine Rt.tD ?_ | refine Rt.tM ?_ | refine Rt.tC ?_ | refine Rt.tN ?_ | refine Rt.tA ?_ | refine Rt.tG ?_ | refine Rt.tF ?_ | refine Rt.os ?_ | refine Rt.clS ?_ | refine Rt.jmN ?_ | refine Rt.jbN ?_ | refine Rt.jbE ?_)) | ((with_reducible (first | apply Rt.ld0 | apply Rt.ld1 | apply Rt.ld2 | apply Rt.ld3 | apply Rt.ld4 | apply Rt.ld5)); first | assumption | exact Lc.kp (by assumption) (by assumption)) | ((with_reducible apply Rt.ol); first | assumption | exact cell_kp (by assumption) (by assumption)))); exact Rt.some' rfl))))
      rw [i64_in ((r.length : Int) - r.length) (by omega), i64_in ((i : Int) + 7) (by omega), i64_in ((i : Int) + 7 + r.length) (by omega)]
      refine Rt.cT (by simp) (Rt.some' ?_)
      rw [show ((i : Int) + 7 + r.length) = ((i + (7 + r.length) : Nat) : Int) by omega]
  | @more a f r out h t ih =>
    intro h121 m i hm hi
    obtain ⟨m, rfl⟩ : ∃ m', m = m' + 1 := ⟨m - 1, by omega⟩
    have hx : (r.take (121 - a)).length = 121 - a := by rw [List.length_take]; omega
    rw [List.length_append, pc_len, hx] at hm hi ⊢
    rw [butterylaw7_FrameBlocks.l0_succ, i64_in (128 - (a : Int)) (by omega), i64_in (128 - (a : Int) - 7) (by omega)]
    have hle := t.len.1
    rw [List.length_drop] at hle
    refine Rt.jm (Rt.mono (Q' := fun q => q = ⟨.norm, [.slice C lo co, .int .i64 (a : Int), .int .i64 (i : Int), .int .i64 (r.length : Int), .int .i64 ((121 - a : Nat) : Int)], w⟩) ?_ ?_)
    · refine Rt.cD (fun h' => by omega) fun h' => Rt.some' ?_
      rw [show 128 - (a : Int) - 7 = ((121 - a : Nat) : Int) by omega]
    · rintro _ rfl
      refine ⟨rfl, ?_⟩
      dsimp only
      (repeat (first | (with_reducible (first | refine Rt.fin ?_ | refine Rt.tL ?_ | refine Rt.tI ?_ | refine Rt.tB ?_ | refine Rt.tS ?_ | refine Rt.tP ?_ | refine Rt.tD ?_ | refine Rt.tM ?_ | refine Rt.tC ?_ | refine Rt.tN ?_ | refine Rt.tA ?_ | refine Rt.tG ?_ | refine Rt.tF ?_ | refine Rt.os ?_ | refine Rt.clS ?_ | refine Rt.jmN ?_ | refine Rt.jbN ?_ | refine Rt.jbE ?_)) | ((with_reducible (first | apply Rt.ld0 | apply Rt.ld1 | apply Rt.ld2 | apply Rt.ld3 | apply Rt.ld4 | apply Rt.ld5)); first | assumption | exact Lc.kp (by assumption) (by assumption)) | ((with_reducible apply Rt.ol); first | assumption | exact cell_kp (by assumption) (by assumption)) | ((with_reducible apply Rt.ckR); focus ((repeat (first | (with_reducible (first | refine Rt.fin ?_ | refine Rt.tL ?_ | refine Rt.tI ?_ | refine Rt.tB ?_ | refine Rt.tS ?_ | refine Rt.tP ?_ | refine Rt.tD ?_ | refine Rt.tM ?_ | refine Rt.tC ?_ | refine Rt.tN ?_ | refine Rt.tA ?_ | refine Rt.tG ?_ | refine Rt.tF ?_ | refine Rt.os ?_ | refine Rt.clS ?_ | refine Rt.jmN ?_ | refine Rt.jbN ?_ | refine Rt.jbE ?_)) | ((with_reducible (first | apply Rt.ld0 | apply Rt.ld1 | apply Rt.ld2 | apply Rt.ld3 | apply Rt.ld4 | apply Rt.ld5)); first | assumption | exact Lc.kp (by assumption) (by assumption)) | ((with_reducible apply Rt.ol); first | assumption | exact cell_kp (by assumption) (by assumption)))); exact Rt.some' rfl))))
      have e3 : Int.tmod (IntKind.i64.wrap (IntKind.i64.wrap ((a : Int) + 7) + ((121 - a : Nat) : Int))) 128 = 0 := by
        rw [i64_in ((a : Int) + 7) (by omega), i64_in _ (by omega), show (a : Int) + 7 + ((121 - a : Nat) : Int) = 128 by omega]; rfl
      have e4 : IntKind.i64.wrap ((r.length : Int) - ((121 - a : Nat) : Int)) = ((r.drop (121 - a)).length : Int) := by rw [i64_in _ (by omega), List.length_drop]; omega
      have e5 : IntKind.i64.wrap (IntKind.i64.wrap ((i : Int) + 7) + ((121 - a : Nat) : Int)) = ((i + (7 + (121 - a)) : Nat) : Int) := by
        rw [i64_in ((i : Int) + 7) (by omega), i64_in _ (by omega)]; omega
      rw [e3, e4, e5]
      refine Rt.cQ (fun h0 => by rw [List.length_drop] at h0; omega) fun _ => Rt.cDF (by decide) ?_
      have := ih (by omega) m (i + (7 + (121 - a))) (by omega) (by omega)
      rw [show i + (7 + (121 - a)) + out.length = i + (7 + (121 - a) + out.length) by omega] at this
      exact this
theorem Blocks_spec {size : Int} (hn : 2 ^ 50 < n) (hb : Bv .u8 w B l d r) (hs : size < 2 ^ 63) : Rt (butterylaw7_FrameBlocks n [.int .i64 size, .slice B l d] w) (RB True w) := by
  have hrl := hb.len
  obtain ⟨out, hp⟩ := IsPut.total sm size.toNat r
  have hol := hp.len
  rw [butterylaw7_FrameBlocks_eq]
  refine Rt.fin (Rt.cBt (alive_spec hn) trivial fun w1 k1 => Rt.cF rfl (Rt.cD (fun h => Rt.endB (by simp) k1) fun h1 => Rt.cD (fun h => Rt.endB (by simp) k1) fun h2 => Rt.cD (fun h => Rt.endB (by simp) k1) fun h3 => ?_))
  refine Rt.cO (Put_spec hn (hb.kp k1) (by omega) hs hp) fun D f w2 o2 k2 => ?_
  obtain ⟨o, hpc, rfl⟩ := hp
  have e0 : Int.tmod size 128 = ((size.toNat % 128 : Nat) : Int) := by
    rw [Int.tmod_eq_emod_of_nonneg (by omega)]; omega
  have e1 : IntKind.i64.wrap (128 - ((size.toNat % 128 : Nat) : Int)) = ((128 - size.toNat % 128 : Nat) : Int) := by rw [i64_in _ (by omega)]; omega
  rw [e0, e1]
  rw [List.length_append, List.length_replicate] at hol ⊢
  have hk := k1.tr k2
  refine Rt.jm (Rt.cD (fun h => ?_) fun h => ?_)
  · have hp : padN size.toNat = 128 - size.toNat % 128 := by unfold padN; rw [if_pos (by omega)]
    have ha : (size.toNat + padN size.toNat) % 128 = 0 := by omega
    rw [ha] at hpc
    refine Rt.some' ⟨rfl, ?_⟩
    (repeat (first | (with_reducible (first | refine Rt.fin ?_ | refine Rt.tL ?_ | refine Rt.tI ?_ | refine Rt.tB ?_ | refine Rt.tS ?_ | refine Rt.tP ?_ | refine Rt.tD ?_ | refine Rt.tM ?_ | refine Rt.tC ?_ | refine Rt.tN ?_ | refine Rt.tA ?_ | refine Rt.tG ?_ | refine Rt.tF ?_ | refine Rt.os ?_ | refine Rt.clS ?_ | refine Rt.jmN ?_ | refine Rt.jbN ?_ | refine Rt.jbE ?_)) | ((with_reducible (first | apply Rt.ld0 | apply Rt.ld1 | apply Rt.ld2 | apply Rt.ld3 | apply Rt.ld4 | apply Rt.ld5)); first | assumption | exact Lc.kp (by assumption) (by assumption)) | ((with_reducible apply Rt.ol); first | assumption | exact cell_kp (by assumption) (by assumption)) | ((with_reducible apply Rt.ckR); focus ((repeat (first | (with_reducible (first | refine Rt.fin ?_ | refine Rt.tL ?_ | refine Rt.tI ?_ | refine Rt.tB ?_ | refine Rt.tS ?_ | refine Rt.tP ?_ | refine Rt.tD ?_ | refine Rt.tM ?_ | refine Rt.tC ?_ | refine Rt.tN ?_ | refine Rt.tA ?_ | refine Rt.tG ?_ | refine Rt.tF ?_ | refine Rt.os ?_ | refine Rt.clS ?_ | refine Rt.jmN ?_ | refine Rt.jbN ?_ | refine Rt.jbE ?_)) | ((with_reducible (first | apply Rt.ld0 | apply Rt.ld1 | apply Rt.ld2 | apply Rt.ld3 | apply Rt.ld4 | apply Rt.ld5)); first | assumption | exact Lc.kp (by assumption) (by assumption)) | ((with_reducible apply Rt.ol); first | assumption | exact cell_kp (by assumption) (by assumption)))); exact Rt.some' rfl))))
    have := Blocks_l0 (n := n) (C := D) (lo := padN size.toNat + o.length) (co := f) (w := w2) hpc (by omega) n (128 - size.toNat % 128) (by omega) (by omega)
    rw [hrl] at this
    refine Rt.mono this ?_
    rintro _ rfl
    exact ⟨rfl, _, w2, rfl, by rw [hp]; simp, hk⟩
  · have hp : padN size.toNat = 0 := padN_zero (by omega)
    have ha : (size.toNat + padN size.toNat) % 128 = size.toNat % 128 := by omega
    rw [ha] at hpc
    refine Rt.some' ⟨rfl, ?_⟩
    (repeat (first | (with_reducible (first | refine Rt.fin ?_ | refine Rt.tL ?_ | refine Rt.tI ?_ | refine Rt.tB ?_ | refine Rt.tS ?_ | refine Rt.tP ?_ | refine Rt.tD ?_ | refine Rt.tM ?_ | refine Rt.tC ?_ | refine Rt.tN ?_ | refine Rt.tA ?_ | refine Rt.tG ?_ | refine Rt.tF ?_ | refine Rt.os ?_ | refine Rt.clS ?_ | refine Rt.jmN ?_ | refine Rt.jbN ?_ | refine Rt.jbE ?_)) | ((with_reducible (first | apply Rt.ld0 | apply Rt.ld1 | apply Rt.ld2 | apply Rt.ld3 | apply Rt.ld4 | apply Rt.ld5)); first | assumption | exact Lc.kp (by assumption) (by assumption)) | ((with_reducible apply Rt.ol); first | assumption | exact cell_kp (by assumption) (by assumption)) | ((with_reducible apply Rt.ckR); focus ((repeat (first | (with_reducible (first | refine Rt.fin ?_ | refine Rt.tL ?_ | refine Rt.tI ?_ | refine Rt.tB ?_ | refine Rt.tS ?_ | refine Rt.tP ?_ | refine Rt.tD ?_ | refine Rt.tM ?_ | refine Rt.tC ?_ | refine Rt.tN ?_ | refine Rt.tA ?_ | refine Rt.tG ?_ | refine Rt.tF ?_ | refine Rt.os ?_ | refine Rt.clS ?_ | refine Rt.jmN ?_ | refine Rt.jbN ?_ | refine Rt.jbE ?_)) | ((with_reducible (first | apply Rt.ld0 | apply Rt.ld1 | apply Rt.ld2 | apply Rt.ld3 | apply Rt.ld4 | apply Rt.ld5)); first | assumption | exact Lc.kp (by assumption) (by assumption)) | ((with_reducible apply Rt.ol); first | assumption | exact cell_kp (by assumption) (by assumption)))); exact Rt.some' rfl))))
    have := Blocks_l0 (n := n) (C := D) (lo := padN size.toNat + o.length) (co := f) (w := w2) hpc (by omega) n 0 (by omega) (by omega)
    rw [hrl] at this
    refine Rt.mono this ?_
    rintro _ rfl
    exact ⟨rfl, _, w2, rfl, by rw [hp]; simp, hk⟩
/-! ### A record over blocks -/
theorem Middle_l0 {aa cc : Int} {L : Nat} (hL : L ≤ 1000) (hbs : w0.heap.size ≤ base) : ∀ (q i j : Nat) (ys : List Int) (w : World), i + q = L → q < j → Kp w0 w → ys.length = L → Bytes ys → Own .u8 5 w base (.slice A L c) ys →
    Rt (butterylaw7_FrameMiddle.l0 n j aa (L : Int) cc A L c (i : Int) w) fun r => Kp w0 r.w ∧ r.ex = .exit 0 ∧ r.vals = [.int .i64 aa, .slice A L c] ∧ ∃ ys, List.length ys = L ∧ Bytes ys ∧ Own .u8 5 r.w base (.slice A L c) ys := by
  intro q
  induction q with
  | zero =>
    intro i j ys w hi hj hk hy hb ho
    obtain ⟨j, rfl⟩ : ∃ j', j = j' + 1 := ⟨j - 1, by omega⟩
    rw [butterylaw7_FrameMiddle.l0_succ]
    exact Rt.cDF (by omega) (Rt.some' ⟨hk, rfl, rfl, ys, hy, hb, ho⟩)
  | succ q ih =>
    intro i j ys w hi hj hk hy hb ho
    obtain ⟨j, rfl⟩ : ∃ j', j = j' + 1 := ⟨j - 1, by omega⟩
    rw [butterylaw7_FrameMiddle.l0_succ]
    generalize hv : IntKind.u8.wrap (cc + IntKind.u8.wrap (bits .and .i64 (i : Int) 63)) = v
    have hvr : 0 ≤ v ∧ v < 256 := by rw [← hv, u8w]; omega
    obtain ⟨a, w4, ea, hab, hw4, o4, g4, st4⟩ := ho.store (i := (i : Int)) (by omega) (by omega) v
    refine Rt.cDT (by omega) ?_
    rw [st4, i64_in _ (by omega), show ((i : Int) + 1) = ((i + 1 : Nat) : Int) by omega]
    refine ih (i + 1) j (ys.set ((i : Int)).toNat v) w4 (by omega) (by omega) (hk.gr g4 fun k hk' => by injection hk' with hk'; omega) (by rw [List.length_set, hy]) (fun z hz => ?_) o4
    rcases List.mem_or_eq_of_mem_set hz with h | h
    · exact hb z h
    · subst h; exact wf8 hvr.1 hvr.2
theorem zbytes (n : Nat) : Bytes (List.replicate n 0) := fun z hz => by rw [(List.mem_replicate.1 hz).2]; decide
theorem Middle_spec {aa bb cc : Int} (hn : 2 ^ 50 < n) : Rt (butterylaw7_FrameMiddle n [.int .i64 aa, .int .i64 bb, .int .u8 cc] w) (RB True w) := by
  obtain ⟨ib, hT⟩ := slB
  rw [butterylaw7_FrameMiddle_eq]
  refine Rt.fin (Rt.cBt (alive_spec hn) trivial fun w1 k1 => Rt.cF rfl (Rt.cD (fun h => Rt.endB (by simp) k1) fun h1 => Rt.cD (fun h => Rt.endB (by simp) k1) fun h2 => Rt.cD (fun h => Rt.endB (by simp) k1) fun h3 => Rt.cD (fun h => Rt.endB (by simp) k1) fun h4 => ?_))
  refine Rt.mk hT (by omega) (by omega) fun w2 o2 k2 => ?_
  (repeat (first | (with_reducible (first | refine Rt.fin ?_ | refine Rt.tL ?_ | refine Rt.tI ?_ | refine Rt.tB ?_ | refine Rt.tS ?_ | refine Rt.tP ?_ | refine Rt.tD ?_ | refine Rt.tM ?_ | refine Rt.tC ?_ | refine Rt.tN ?_ | refine Rt.tA ?_ | refine Rt.tG ?_ | refine Rt.tF ?_ | refine Rt.os ?_ | refine Rt.clS ?_ | refine Rt.jmN ?_ | refine Rt.jbN ?_ | refine Rt.jbE ?_)) | ((with_reducible (first | apply Rt.ld0 | apply Rt.ld1 | apply Rt.ld2 | apply Rt.ld3 | apply Rt.ld4 | apply Rt.ld5)); first | assumption | exact Lc.kp (by assumption) (by assumption)) | ((with_reducible apply Rt.ol); first | assumption | exact cell_kp (by assumption) (by assumption)) | ((with_reducible apply Rt.ckR); focus ((repeat (first | (with_reducible (first | refine Rt.fin ?_ | refine Rt.tL ?_ | refine Rt.tI ?_ | refine Rt.tB ?_ | refine Rt.tS ?_ | refine Rt.tP ?_ | refine Rt.tD ?_ | refine Rt.tM ?_ | refine Rt.tC ?_ | refine Rt.tN ?_ | refine Rt.tA ?_ | refine Rt.tG ?_ | refine Rt.tF ?_ | refine Rt.os ?_ | refine Rt.clS ?_ | refine Rt.jmN ?_ | refine Rt.jbN ?_ | refine Rt.jbE ?_)) | ((with_reducible (first | apply Rt.ld0 | apply Rt.ld1 | apply Rt.ld2 | apply Rt.ld3 | apply Rt.ld4 | apply Rt.ld5)); first | assumption | exact Lc.kp (by assumption) (by assumption)) | ((with_reducible apply Rt.ol); first | assumption | exact cell_kp (by assumption) (by assumption)))); exact Rt.some' rfl))))
  obtain ⟨L, rfl⟩ : ∃ L : Nat, bb = L := ⟨bb.toNat, by omega⟩
  rw [Int.toNat_natCast] at o2 ⊢
  refine Rt.jb (Rt.mono (Middle_l0 (n := n) (w0 := w1) (base := w1.heap.size) (by omega) (Nat.le_refl _) L 0 n _ w2 (by omega) (by omega) k2 List.length_replicate (zbytes _) o2) ?_)
  rintro ⟨ex, vs, w3⟩ ⟨k3, e1, e2, ys, hy, hyb, o3⟩
  dsimp only at k3 e1 e2 o3; subst e1 e2
  refine .inl ⟨.inr rfl, ?_⟩
  (repeat (first | (with_reducible (first | refine Rt.fin ?_ | refine Rt.tL ?_ | refine Rt.tI ?_ | refine Rt.tB ?_ | refine Rt.tS ?_ | refine Rt.tP ?_ | refine Rt.tD ?_ | refine Rt.tM ?_ | refine Rt.tC ?_ | refine Rt.tN ?_ | refine Rt.tA ?_ | refine Rt.tG ?_ | refine Rt.tF ?_ | refine Rt.os ?_ | refine Rt.clS ?_ | refine Rt.jmN ?_ | refine Rt.jbN ?_ | refine Rt.jbE ?_)) | ((with_reducible (first | apply Rt.ld0 | apply Rt.ld1 | apply Rt.ld2 | apply Rt.ld3 | apply Rt.ld4 | apply Rt.ld5)); first | assumption | exact Lc.kp (by assumption) (by assumption)) | ((with_reducible apply Rt.ol); first | assumption | exact cell_kp (by assumption) (by assumption)) | ((with_reducible apply Rt.ckR); focus ((repeat (first | (with_reducible (first | refine Rt.fin ?_ | refine Rt.tL ?_ | refine Rt.tI ?_ | refine Rt.tB ?_ | refine Rt.tS ?_ | refine Rt.tP ?_ | refine Rt.tD ?_ | refine Rt.tM ?_ | refine Rt.tC ?_ | refine Rt.tN ?_ | refine Rt.tA ?_ | refine Rt.tG ?_ | refine Rt.tF ?_ | refine Rt.os ?_ | refine Rt.clS ?_ | refine Rt.jmN ?_ | refine Rt.jbN ?_ | refine Rt.jbE ?_)) | ((with_reducible (first | apply Rt.ld0 | apply Rt.ld1 | apply Rt.ld2 | apply Rt.ld3 | apply Rt.ld4 | apply Rt.ld5)); first | assumption | exact Lc.kp (by assumption) (by assumption)) | ((with_reducible apply Rt.ol); first | assumption | exact cell_kp (by assumption) (by assumption)))); exact Rt.some' rfl))))
  obtain ⟨K, rfl⟩ : ∃ K : Nat, aa = K := ⟨aa.toNat, by omega⟩
  refine Rt.mk hT (by omega) (by omega) fun w4 o4 k4 => ?_
  (repeat (first | (with_reducible (first | refine Rt.fin ?_ | refine Rt.tL ?_ | refine Rt.tI ?_ | refine Rt.tB ?_ | refine Rt.tS ?_ | refine Rt.tP ?_ | refine Rt.tD ?_ | refine Rt.tM ?_ | refine Rt.tC ?_ | refine Rt.tN ?_ | refine Rt.tA ?_ | refine Rt.tG ?_ | refine Rt.tF ?_ | refine Rt.os ?_ | refine Rt.clS ?_ | refine Rt.jmN ?_ | refine Rt.jbN ?_ | refine Rt.jbE ?_)) | ((with_reducible (first | apply Rt.ld0 | apply Rt.ld1 | apply Rt.ld2 | apply Rt.ld3 | apply Rt.ld4 | apply Rt.ld5)); first | assumption | exact Lc.kp (by assumption) (by assumption)) | ((with_reducible apply Rt.ol); first | assumption | exact cell_kp (by assumption) (by assumption)) | ((with_reducible apply Rt.ckR); focus ((repeat (first | (with_reducible (first | refine Rt.fin ?_ | refine Rt.tL ?_ | refine Rt.tI ?_ | refine Rt.tB ?_ | refine Rt.tS ?_ | refine Rt.tP ?_ | refine Rt.tD ?_ | refine Rt.tM ?_ | refine Rt.tC ?_ | refine Rt.tN ?_ | refine Rt.tA ?_ | refine Rt.tG ?_ | refine Rt.tF ?_ | refine Rt.os ?_ | refine Rt.clS ?_ | refine Rt.jmN ?_ | refine Rt.jbN ?_ | refine Rt.jbE ?_)) | ((with_reducible (first | apply Rt.ld0 | apply Rt.ld1 | apply Rt.ld2 | apply Rt.ld3 | apply Rt.ld4 | apply Rt.ld5)); first | assumption | exact Lc.kp (by assumption) (by assumption)) | ((with_reducible apply Rt.ol); first | assumption | exact cell_kp (by assumption) (by assumption)))); exact Rt.some' rfl))))
  rw [Int.toNat_natCast] at o4 ⊢
  have b4 := o4.bv (zbytes K)
  have b3 := o3.bv hyb
  obtain ⟨out1, hp1⟩ := IsPut.total sm 0 (List.replicate K 0)
  obtain ⟨out2, hp2⟩ := IsPut.total sm out1.length ys
  have hl1 := hp1.len
  have hl2 := hp2.len
  rw [List.length_replicate] at hl1
  have hb1 := hp1.bytes (zbytes K)
  have hb2 := hp2.bytes hyb
  refine Rt.cO (Put_spec (size := 0) hn b4 (by omega) (by decide) hp1) fun D f w5 o5 k5 => ?_
  have k45 := k4.tr k5
  refine Rt.cO (Put_spec (size := (out1.length : Int)) hn (b3.kp k45) (by omega) (by omega) (by rw [Int.toNat_natCast]; exact hp2)) fun E g w6 o6 k6 => ?_
  refine Rt.app hT (o5.kp k6) o6.sl.2 (o6.bv hb2).nil (by omega) (by have := k5.size; have := k6.size; omega) fun F h w7 o7 hk7 _ _ => ?_
  (repeat (first | (with_reducible (first | refine Rt.fin ?_ | refine Rt.tL ?_ | refine Rt.tI ?_ | refine Rt.tB ?_ | refine Rt.tS ?_ | refine Rt.tP ?_ | refine Rt.tD ?_ | refine Rt.tM ?_ | refine Rt.tC ?_ | refine Rt.tN ?_ | refine Rt.tA ?_ | refine Rt.tG ?_ | refine Rt.tF ?_ | refine Rt.os ?_ | refine Rt.clS ?_ | refine Rt.jmN ?_ | refine Rt.jbN ?_ | refine Rt.jbE ?_)) | ((with_reducible (first | apply Rt.ld0 | apply Rt.ld1 | apply Rt.ld2 | apply Rt.ld3 | apply Rt.ld4 | apply Rt.ld5)); first | assumption | exact Lc.kp (by assumption) (by assumption)) | ((with_reducible apply Rt.ol); first | assumption | exact cell_kp (by assumption) (by assumption)) | ((with_reducible apply Rt.ckR); focus ((repeat (first | (with_reducible (first | refine Rt.fin ?_ | refine Rt.tL ?_ | refine Rt.tI ?_ | refine Rt.tB ?_ | refine Rt.tS ?_ | refine Rt.tP ?_ | refine Rt.tD ?_ | refine Rt.tM ?_ | refine Rt.tC ?_ | refine Rt.tN ?_ | refine Rt.tA ?_ | refine Rt.tG ?_ | refine Rt.tF ?_ | refine Rt.os ?_ | refine Rt.clS ?_ | refine Rt.jmN ?_ | refine Rt.jbN ?_ | refine Rt.jbE ?_)) | ((with_reducible (first | apply Rt.ld0 | apply Rt.ld1 | apply Rt.ld2 | apply Rt.ld3 | apply Rt.ld4 | apply Rt.ld5)); first | assumption | exact Lc.kp (by assumption) (by assumption)) | ((with_reducible apply Rt.ol); first | assumption | exact cell_kp (by assumption) (by assumption)))); exact Rt.some' rfl))))
  have k56 := k5.tr k6
  have k47 : Kp w4 w7 := hk7 w4 k56 (Nat.le_refl _)
  have hl7 := o7.sl.1
  rw [hl7] at o7 ⊢
  have hL : IsLog sm 0 [List.replicate K 0, ys] (out1 ++ (out2 ++ [])) [0 + out1.length, 0 + out1.length + out2.length] := .cons hp1 (.cons (by rw [Nat.zero_add]; exact hp2) .nil)
  rw [List.append_nil] at hL
  have hby : Bytes (out1 ++ out2) := fun z hz => by
    rcases List.mem_append.1 hz with h | h
    · exact hb1 z h
    · exact hb2 z h
  refine Rt.callAll (All_spec hn (o7.bv hby) (by rw [List.length_append]; omega) (Rd.whole hsm hL)) fun R rc w8 e8 k8 => ?_
  have k48 := k47.tr k8
  have k48d := k48.dr
  have hk : Kp w w8.drew := ((k1.tr k3).tr k4).tr k48d
  refine Rt.cT rfl (Rt.ixB e8.sl (by decide) (by show (0 : Int) < ((2 : Nat) : Int); decide) fun x a B m d ex hv ca => ?_)
  have ex : some (List.replicate K 0) = some x := ex
  injection ex with ex
  subst ex
  refine Rt.ol (cell_kp ca (Kp.rfl' w8).dr) (Rt.tL (Rt.str (hv.kp (Kp.rfl' w8).dr) (Rt.str (b4.kp k48d) ?_)))
  refine Rt.cS (zbytes K) (zbytes K) (fun _ => ?_) fun h => absurd rfl h
  refine Rt.ixB e8.sl (by decide) (by show (1 : Int) < ((2 : Nat) : Int); decide) fun x a B m d ex hv ca => ?_
  have ex : some ys = some x := ex
  injection ex with ex
  subst ex
  refine Rt.ol (cell_kp ca (Kp.rfl' w8).dr) (Rt.tL (Rt.str (hv.kp (Kp.rfl' w8).dr) (Rt.str (b3.kp (k4.tr k48d)) ?_)))
  refine Rt.cS hyb hyb (fun _ => ?_) fun h => absurd rfl h
  exact Rt.cT (by simp) (Rt.endB (by simp) hk)
/-! ### What comes in -/
theorem by_open {H : Type} {enc : TypeId × Value → H} {W : World} {base : Nat} {spare : Nat → Bool} {held : Bool} (n : Nat) (cs : List Value) (y : DataW H × List MemPlace) (h : DataW.trod enc Tryd.prog W base spare held n 22 cs = some y) : ∃ x, byEl.rd W cs x := by
  obtain ⟨A, l, c, xs, e1, b1⟩ := bv_open (e := 5) (k := .u8) Tryd.underlying22 Tryd.underlying5 (by kernel_rfl) h
  exact ⟨xs, A, l, c, e1, b1⟩
end
end Go.Proofs.YtebcmkohnebgmaaDoor.Fr

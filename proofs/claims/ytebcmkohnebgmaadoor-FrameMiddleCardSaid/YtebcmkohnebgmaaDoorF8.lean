/- Frames: a log that was torn off; a bit that was turned; blocks; a record over blocks. -/
import Derived.Test.YtebcmkohnebgmaaDoorF7
namespace Go.Proofs.YtebcmkohnebgmaaDoor.Fr
open Go Big Go.RowKit Go.IntWalk Crc
set_option linter.unusedVariables false
set_option linter.unusedSimpArgs false
theorem slI : ∃ i, SlT Tryd.prog 32 3 .i64 i := slT (by kernel_rfl)
section
variable {α : Type} {Q : α → Prop} {n m : Nat} {w w' w0 w1 : World} {A B C : Option Addr} {l c d base lo co at_ p tk : Nat} {k : Int} {x r out o zs s now : List Int} {rs acc xs ys : List (List Int)} {wi : Bool}
def nums (es : List Nat) : List Int := es.map fun (e : Nat) => (e : Int)
theorem ev_bytes (hx : Ev byEl w A l c xs) : ∀ x ∈ xs, Bytes x := fun x hx' => by
  obtain ⟨i, hi, rfl⟩ := List.getElem_of_mem hx'
  have hxl := hx.len
  obtain ⟨_, y, us, e1, _, _, ⟨B, m, d, rfl, hv⟩, _⟩ := hx.sl.at_ (i := (i : Int)) (by omega) (by omega)
  rw [Int.toNat_natCast, List.getElem?_eq_getElem hi] at e1
  injection e1 with e1
  rw [e1]; exact hv.rng
theorem log_l0 (hn : 2 ^ 50 < n) (hx : Ev byEl w0 A l c xs) (hl : l ≤ 10) (hsh : ∀ x ∈ xs, x.length ≤ 20000) : ∀ (q i j : Nat) (C D : Option Addr) (e f : Nat) (b : List Int) (es : List Nat) (w : World), i + q = l → q < j → Kp w0 w → IsLog sm 0 (xs.take i) b es → es.length = i → b.length ≤ 50000 * i → Own .u8 5 w w0.heap.size (.slice C b.length e) b →
    Own .i64 3 w w0.heap.size (.slice D es.length f) (nums es) → (∀ j, On (.slice C b.length e) j → ¬ On (.slice D es.length f) j) →
    Rt (butterylaw7_log.l0 n j A l c C b.length e D es.length f (i : Int) w) fun r => Kp w0 r.w ∧ r.ex = .exit 0 ∧ ∃ C e D f b es, r.vals = [.slice C (List.length b) e, .slice D (List.length es) f] ∧ IsLog sm 0 xs b es ∧ es.length = l ∧ b.length ≤ 500000 ∧ Own .u8 5 r.w w0.heap.size (.slice C b.length e) b ∧ Own .i64 3 r.w w0.heap.size (.slice D es.length f) (nums es) ∧ (∀ j, On (.slice C b.length e) j → ¬ On (.slice D es.length f) j) := by
  obtain ⟨ib, hT⟩ := slB
  obtain ⟨ii, hTI⟩ := slI
  have hxl := hx.len
  intro q
  induction q with
  | zero =>
    intro i j C D e f b es w hi hj hk hL hes hb ho hoi hne
    obtain ⟨j, rfl⟩ : ∃ j', j = j' + 1 := ⟨j - 1, by omega⟩
    rw [butterylaw7_log.l0_succ]
    rw [List.take_of_length_le (by omega)] at hL
    exact Rt.cDF (by omega) (Rt.some' ⟨hk, rfl, C, e, D, f, b, es, rfl, hL, by omega, by omega, ho, hoi, hne⟩)
  | succ q ih =>
    intro i j C D e f b es w hi hj hk hL hes hb ho hoi hne
    obtain ⟨j, rfl⟩ : ∃ j', j = j' + 1 := ⟨j - 1, by omega⟩
    rw [butterylaw7_log.l0_succ]
    refine Rt.cDT (by omega) (Rt.ixB hx.sl (by omega) (by omega) fun x a B m d ex hv ca => ?_)
    rw [Int.toNat_natCast] at ex
    have hxs := hsh x (List.mem_of_getElem? ex)
    have hml := hv.len
    refine Rt.ol (cell_kp ca hk) (Rt.tL ?_)
    obtain ⟨out, hp⟩ := IsPut.total sm b.length x
    have hol := hp.len
    refine Rt.cO (RPut_spec (w := w) (size := (b.length : Int)) hn (hv.kp hk) (by omega) (by omega) (by rw [Int.toNat_natCast]; exact hp)) fun F f1 w1 o1 k1 => ?_
    have k01 := hk.tr k1
    have hoi1 := hoi.kp k1
    have ho1 := ho.kp k1
    refine Rt.appO hT ho1 o1.sl.2 (o1.bv (hp.bytes hv.rng)).nil (by omega) k01.size fun E g w2 o2 hE g2 => ?_
    (repeat (first | (with_reducible (first | refine Rt.fin ?_ | refine Rt.tL ?_ | refine Rt.tI ?_ | refine Rt.tB ?_ | refine Rt.tS ?_ | refine Rt.tP ?_ | refine Rt.tD ?_ | refine Rt.tM ?_ | refine Rt.tC ?_ | refine Rt.tN ?_ | refine Rt.tA ?_ | refine Rt.tG ?_ | refine Rt.tF ?_ | refine Rt.os ?_ | refine Rt.clS ?_ | refine Rt.jmN ?_ | refine Rt.jbN ?_ | refine Rt.jbE ?_)) | ((with_reducible (first | apply Rt.ld0 | apply Rt.ld1 | apply Rt.ld2 | apply Rt.ld3 | apply Rt.ld4 | apply Rt.ld5)); first | assumption | exact Lc.kp (by assumption) (by assumption)) | ((with_reducible apply Rt.ol); first | assumption | exact cell_kp (by assumption) (by assumption)) | ((with_reducible apply Rt.ckR); focus ((repeat (first | (with_reducible (first | refine Rt.fin ?_ | refine Rt.tL ?_ | refine Rt.tI ?_ | refine Rt.tB ?_ | refine Rt.tS ?_ | refine Rt.tP ?_ | refine Rt.tD ?_ | refine Rt.tM ?_ | refine Rt.tC ?_ | refine Rt.tN ?_ | refine Rt.tA ?_ | refine Rt.tG ?_ | refine Rt.tF ?_ | refine Rt.os ?_ | refine Rt.clS ?_ | refine Rt.jmN ?_ | refine Rt.jbN ?_ | refine Rt.jbE ?_)) | ((with_reducible (first | apply Rt.ld0 | apply Rt.ld1 | apply Rt.ld2 | apply Rt.ld3 | apply Rt.ld4 | apply Rt.ld5)); first | assumption | exact Lc.kp (by assumption) (by assumption)) | ((with_reducible apply Rt.ol); first | assumption | exact cell_kp (by assumption) (by assumption)))); exact Rt.some' rfl))))
    have hl2 := o2.sl.1
    rw [hl2] at o2 hE ⊢
    have k02 : Kp w0 w2 := k01.tx g2 fun j hj => (ho1.lt j hj).1
    have hoi2 := hoi1.gx g2 fun j hj hj' => hne j hj' hj
    have hE2 : ∀ j, On (.slice E (b ++ out).length g) j → ¬ On (.slice D es.length f) j := fun j hj hd => by
      rcases hE j hj with h | h
      · exact hne j h hd
      · have := (hoi1.lt j hd).2; omega
    refine Rt.al fun w3 l3 k3 _ => ?_
    have k03 := k02.tr k3
    refine Rt.push hTI (hoi2.kp k3) l3 (by simp [nums]; omega) k03.size fun G h w4 o4 hG g4 => ?_
    (repeat (first | (with_reducible (first | refine Rt.fin ?_ | refine Rt.tL ?_ | refine Rt.tI ?_ | refine Rt.tB ?_ | refine Rt.tS ?_ | refine Rt.tP ?_ | refine Rt.tD ?_ | refine Rt.tM ?_ | refine Rt.tC ?_ | refine Rt.tN ?_ | refine Rt.tA ?_ | refine Rt.tG ?_ | refine Rt.tF ?_ | refine Rt.os ?_ | refine Rt.clS ?_ | refine Rt.jmN ?_ | refine Rt.jbN ?_ | refine Rt.jbE ?_)) | ((with_reducible (first | apply Rt.ld0 | apply Rt.ld1 | apply Rt.ld2 | apply Rt.ld3 | apply Rt.ld4 | apply Rt.ld5)); first | assumption | exact Lc.kp (by assumption) (by assumption)) | ((with_reducible apply Rt.ol); first | assumption | exact cell_kp (by assumption) (by assumption)) | ((with_reducible apply Rt.ckR); focus ((repeat (first | (with_reducible (first | refine Rt.fin ?_ | refine Rt.tL ?_ | refine Rt.tI ?_ | refine Rt.tB ?_ | refine Rt.tS ?_ | refine Rt.tP ?_ | refine Rt.tD ?_ | refine Rt.tM ?_ | refine Rt.tC ?_ | refine Rt.tN ?_ | refine Rt.tA ?_ | refine Rt.tG ?_ | refine Rt.tF ?_ | refine Rt.os ?_ | refine Rt.clS ?_ | refine Rt.jmN ?_ | refine Rt.jbN ?_ | refine Rt.jbE ?_)) | ((with_reducible (first | apply Rt.ld0 | apply Rt.ld1 | apply Rt.ld2 | apply Rt.ld3 | apply Rt.ld4 | apply Rt.ld5)); first | assumption | exact Lc.kp (by assumption) (by assumption)) | ((with_reducible apply Rt.ol); first | assumption | exact cell_kp (by assumption) (by assumption)))); exact Rt.some' rfl))))
    have hl4 : (nums es).length + 1 = (es ++ [(b ++ out).length]).length := by simp [nums]
    have e4 : nums es ++ [((b ++ out).length : Int)] = nums (es ++ [(b ++ out).length]) := by simp [nums]
    rw [e4, hl4] at o4
    rw [hl4] at hG
    have hon : ∀ j, On (.slice D es.length f) j → On (.slice D es.length f) j := fun j h => h
    have k04 : Kp w0 w4 := k03.tx g4 fun j hj => (hoi2.lt j hj).1
    rw [i64_in _ (by omega), show ((i : Int) + 1) = ((i + 1 : Nat) : Int) by omega, hl4]
    have hL2 := hL.snoc (r := x) (o := out) (by rw [Nat.zero_add]; exact hp)
    rw [Nat.zero_add, ← List.length_append] at hL2
    refine ih (i + 1) j E G g h (b ++ out) (es ++ [(b ++ out).length]) w4 (by omega) (by omega) k04 (by rw [List.take_add_one, ex]; exact hL2) (by simp [hes]) (by rw [List.length_append]; omega) ?_ o4 ?_
    · exact (o2.kp k3).gx g4 fun j hj hj' => hE2 j hj hj'
    · intro j hj hj'
      rcases hG j hj' with h | h
      · exact hE2 j hj h
      · have := (o2.lt j hj).2
        have := k3.size
        omega
theorem log_spec (hn : 2 ^ 50 < n) (hx : Ev byEl w A l c xs) (hl : l ≤ 10) (hsh : ∀ x ∈ xs, x.length ≤ 20000) : Rt (butterylaw7_log n [.slice A l c] w) fun r => ∃ C e D f b es w', r = ([.slice C (List.length b) e, .slice D (List.length es) f], w') ∧ Kp w w' ∧ IsLog sm 0 xs b es ∧ es.length = l ∧ b.length ≤ 500000 ∧ Own .u8 5 w' w.heap.size (.slice C b.length e) b ∧ Own .i64 3 w' w.heap.size (.slice D es.length f) (nums es) ∧ (∀ j, On (.slice C b.length e) j → ¬ On (.slice D es.length f) j) := by
  rw [butterylaw7_log_eq]
  refine Rt.fin (Rt.jb (Rt.mono (log_l0 (n := n) hn hx hl hsh l 0 n none none 0 0 [] [] w (by omega) (by omega) (Kp.rfl' w) .nil rfl (by simp) (Own.nil _ _) (Own.nil _ _) (fun j hj => by cases hj)) ?_))
  rintro ⟨ex, vs, w2⟩ ⟨k2, h1, C, e, D, f, b, es, h2, h3, h4, h5, h6, h7, h8⟩
  dsimp only at k2 h1 h2 h6 h7; subst h1 h2
  refine .inl ⟨.inr rfl, ?_⟩
  (repeat (first | (with_reducible (first | refine Rt.fin ?_ | refine Rt.tL ?_ | refine Rt.tI ?_ | refine Rt.tB ?_ | refine Rt.tS ?_ | refine Rt.tP ?_ | refine Rt.tD ?_ | refine Rt.tM ?_ | refine Rt.tC ?_ | refine Rt.tN ?_ | refine Rt.tA ?_ | refine Rt.tG ?_ | refine Rt.tF ?_ | refine Rt.os ?_ | refine Rt.clS ?_ | refine Rt.jmN ?_ | refine Rt.jbN ?_ | refine Rt.jbE ?_)) | ((with_reducible (first | apply Rt.ld0 | apply Rt.ld1 | apply Rt.ld2 | apply Rt.ld3 | apply Rt.ld4 | apply Rt.ld5)); first | assumption | exact Lc.kp (by assumption) (by assumption)) | ((with_reducible apply Rt.ol); first | assumption | exact cell_kp (by assumption) (by assumption)) | ((with_reducible apply Rt.ckR); focus ((repeat (first | (with_reducible (first | refine Rt.fin ?_ | refine Rt.tL ?_ | refine Rt.tI ?_ | refine Rt.tB ?_ | refine Rt.tS ?_ | refine Rt.tP ?_ | refine Rt.tD ?_ | refine Rt.tM ?_ | refine Rt.tC ?_ | refine Rt.tN ?_ | refine Rt.tA ?_ | refine Rt.tG ?_ | refine Rt.tF ?_ | refine Rt.os ?_ | refine Rt.clS ?_ | refine Rt.jmN ?_ | refine Rt.jbN ?_ | refine Rt.jbE ?_)) | ((with_reducible (first | apply Rt.ld0 | apply Rt.ld1 | apply Rt.ld2 | apply Rt.ld3 | apply Rt.ld4 | apply Rt.ld5)); first | assumption | exact Lc.kp (by assumption) (by assumption)) | ((with_reducible apply Rt.ol); first | assumption | exact cell_kp (by assumption) (by assumption)))); exact Rt.some' rfl))))
  exact Rt.some' ⟨rfl, C, e, D, f, b, es, w2, rfl, k2, h3, h4, h5, h6, h7, h8⟩
theorem Torn_l0 {at1 : Int} (hx : Ev byEl w A l c xs) (hl : l ≤ 10) : ∀ (q i j : Nat), i + q = l → q < j → (∀ x ∈ xs.take i, x.length ≤ 300) →
    Rt (butterylaw7_FrameTorn.l0 n j A l c at1 (i : Int) w) fun r => r.w = w ∧ (r.ex = .ret ∧ r.vals = [.bool true] ∨ r.ex = .exit 0 ∧ r.vals = [.slice A l c, .int .i64 at1] ∧ ∀ x ∈ xs, x.length ≤ 300) := by
  have hxl := hx.len
  intro q
  induction q with
  | zero =>
    intro i j hi hj hr
    obtain ⟨j, rfl⟩ : ∃ j', j = j' + 1 := ⟨j - 1, by omega⟩
    rw [butterylaw7_FrameTorn.l0_succ]
    rw [List.take_of_length_le (by omega)] at hr
    exact Rt.cDF (by omega) (Rt.some' ⟨rfl, .inr ⟨rfl, rfl, hr⟩⟩)
  | succ q ih =>
    intro i j hi hj hr
    obtain ⟨j, rfl⟩ : ∃ j', j = j' + 1 := ⟨j - 1, by omega⟩
    rw [butterylaw7_FrameTorn.l0_succ]
    refine Rt.cDT (by omega) (Rt.ixB hx.sl (by omega) (by omega) fun x a B m d ex hv ca => ?_)
    rw [Int.toNat_natCast] at ex
    have hml := hv.len
    refine Rt.ol ca (Rt.tL (Rt.cD (fun h => Rt.some' ⟨rfl, .inl ⟨rfl, rfl⟩⟩) fun h => ?_))
    rw [i64_in _ (by omega), show ((i : Int) + 1) = ((i + 1 : Nat) : Int) by omega]
    refine ih (i + 1) j (by omega) (by omega) fun x' hx' => ?_
    rw [List.take_add_one, ex, List.mem_append] at hx'
    rcases hx' with h' | h'
    · exact hr x' h'
    · simp at h'; subst h'; omega
theorem upTo_cons (e : Nat) (es : List Nat) (t : Nat) : upTo (e :: es) t = if e ≤ t then upTo es t + 1 else 0 := by
  unfold upTo
  by_cases h : e ≤ t
  · rw [List.takeWhile_cons_of_pos (by simpa using h), if_pos h]; rfl
  · rw [List.takeWhile_cons_of_neg (by simpa using h), if_neg h]; rfl
theorem upTo_at {es : List Nat} {t : Nat} : ∀ {i : Nat} (h : i ≤ upTo es t), (i < es.length → es.getD i 0 ≤ t → i + 1 ≤ upTo es t) ∧ (i < es.length → ¬ es.getD i 0 ≤ t → upTo es t = i) ∧ (es.length ≤ i → upTo es t = i) := by
  induction es with
  | nil => intro i h; simp [upTo] at h ⊢; omega
  | cons e es ih =>
    intro i h
    rw [upTo_cons] at h ⊢
    by_cases he : e ≤ t
    · rw [if_pos he] at h ⊢
      cases i with
      | zero => exact ⟨fun _ _ => by omega, fun _ h' => absurd he (by simpa using h'), fun h' => by simp at h'⟩
      | succ i =>
        obtain ⟨h1, h2, h3⟩ := ih (i := i) (by omega)
        refine ⟨fun h4 h5 => by have := h1 (by simpa using h4) (by simpa using h5); omega, fun h4 h5 => by have := h2 (by simpa using h4) (by simpa using h5); omega, fun h4 => by have := h3 (by simpa using h4); omega⟩
    · rw [if_neg he] at h ⊢
      have : i = 0 := by omega
      subst this
      exact ⟨fun _ h5 => absurd (by simpa using h5) he, fun _ _ => rfl, fun h4 => by simp at h4⟩
theorem Torn_l1 {es : List Nat} {t : Nat} {D : Option Addr} {f : Nat} (hd : Sl .i64 w D es.length (nums es)) (hle : es.length ≤ 10) : ∀ (q i j : Nat), i + q = es.length → q < j → i ≤ upTo es t →
    Rt (butterylaw7_FrameTorn.l1 n j A l c B m d D es.length f (t : Int) (i : Int) w) fun r => r = ⟨.exit 2, [.slice A l c, .slice B m d, .int .i64 (t : Int), .int .i64 (upTo es t : Int)], w⟩ := by
  intro q
  induction q with
  | zero =>
    intro i j hi hj hr
    obtain ⟨j, rfl⟩ : ∃ j', j = j' + 1 := ⟨j - 1, by omega⟩
    rw [butterylaw7_FrameTorn.l1_succ]
    exact Rt.cDF (by omega) (Rt.some' (by rw [(upTo_at hr).2.2 (by omega)]))
  | succ q ih =>
    intro i j hi hj hr
    obtain ⟨j, rfl⟩ : ∃ j', j = j' + 1 := ⟨j - 1, by omega⟩
    rw [butterylaw7_FrameTorn.l1_succ]
    refine Rt.cDT (by omega) (Rt.ix hd (by omega) (by omega) ?_)
    have e1 : (nums es).getD ((i : Int)).toNat 0 = ((es.getD i 0 : Nat) : Int) := by
      rw [Int.toNat_natCast]
      simp [nums, List.getD_eq_getElem?_getD, List.getElem?_map, List.getElem?_eq_getElem (show i < es.length by omega)]
    rw [e1]
    refine Rt.cD (fun h => ?_) fun h => ?_
    · rw [i64_in _ (by omega), show ((i : Int) + 1) = ((i + 1 : Nat) : Int) by omega]
      exact ih (i + 1) j (by omega) (by omega) ((upTo_at hr).1 (by omega) (by omega))
    · exact Rt.some' (by rw [(upTo_at hr).2.1 (by omega) (by omega)])
theorem upTo_le (es : List Nat) (t : Nat) : upTo es t ≤ es.length := by
  induction es with
  | nil => exact Nat.le_refl _
  | cons e es ih => rw [upTo_cons, List.length_cons]; split <;> omega
theorem IsLog_len {a : Nat} {b : List Int} {es : List Nat} {rs : List (List Int)} (h : IsLog sm a rs b es) : rs ≠ [] → 0 < b.length := by
  intro hr
  cases h with
  | nil => exact absurd rfl hr
  | cons h t => have := h.len; rw [List.length_append]; omega
theorem Torn_spec {at1 : Int} (hn' : 2 ^ 63 < n) (hx : Ev byEl w A l c xs) (ha1 : at1 < 2 ^ 63) : Rt (butterylaw7_FrameTorn n [.slice A l c, .int .i64 at1] w) (RB True w) := by
  have hn : 2 ^ 50 < n := by omega
  have hxl := hx.len
  rw [butterylaw7_FrameTorn_eq]
  refine Rt.fin (Rt.cBt (alive_spec hn) trivial fun w1 k1 => Rt.cF rfl (Rt.cD (fun h => Rt.endB (by simp) k1) fun h1 => Rt.cD (fun h => Rt.endB (by simp) k1) fun h2 => Rt.cD (fun h => Rt.endB (by simp) k1) fun h3 => ?_))
  refine Rt.jb (Rt.mono (Torn_l0 (n := n) (hx.kp k1) (by omega) l 0 n (by omega) (by omega) (by simp)) ?_)
  rintro ⟨ex, vs, w2⟩ ⟨e2, ⟨h4, h5⟩ | ⟨h4, h5, hsh⟩⟩
  · dsimp only at e2 h4 h5; subst e2 h4 h5
    exact .inr ⟨rfl, rfl, true, _, rfl, by simp, k1⟩
  dsimp only at e2 h4 h5; subst e2 h4 h5
  refine .inl ⟨.inr rfl, ?_⟩
  (repeat (first | (with_reducible (first | refine Rt.fin ?_ | refine Rt.tL ?_ | refine Rt.tI ?_ | refine Rt.tB ?_ | refine Rt.tS ?_ | refine Rt.tP ?_ | refine Rt.tD ?_ | refine Rt.tM ?_ | refine Rt.tC ?_ | refine Rt.tN ?_ | refine Rt.tA ?_ | refine Rt.tG ?_ | refine Rt.tF ?_ | refine Rt.os ?_ | refine Rt.clS ?_ | refine Rt.jmN ?_ | refine Rt.jbN ?_ | refine Rt.jbE ?_)) | ((with_reducible (first | apply Rt.ld0 | apply Rt.ld1 | apply Rt.ld2 | apply Rt.ld3 | apply Rt.ld4 | apply Rt.ld5)); first | assumption | exact Lc.kp (by assumption) (by assumption)) | ((with_reducible apply Rt.ol); first | assumption | exact cell_kp (by assumption) (by assumption)) | ((with_reducible apply Rt.ckR); focus ((repeat (first | (with_reducible (first | refine Rt.fin ?_ | refine Rt.tL ?_ | refine Rt.tI ?_ | refine Rt.tB ?_ | refine Rt.tS ?_ | refine Rt.tP ?_ | refine Rt.tD ?_ | refine Rt.tM ?_ | refine Rt.tC ?_ | refine Rt.tN ?_ | refine Rt.tA ?_ | refine Rt.tG ?_ | refine Rt.tF ?_ | refine Rt.os ?_ | refine Rt.clS ?_ | refine Rt.jmN ?_ | refine Rt.jbN ?_ | refine Rt.jbE ?_)) | ((with_reducible (first | apply Rt.ld0 | apply Rt.ld1 | apply Rt.ld2 | apply Rt.ld3 | apply Rt.ld4 | apply Rt.ld5)); first | assumption | exact Lc.kp (by assumption) (by assumption)) | ((with_reducible apply Rt.ol); first | assumption | exact cell_kp (by assumption) (by assumption)))); exact Rt.some' rfl))))
  refine Rt.call (log_spec hn (hx.kp k1) (by omega) fun x hx' => by have := hsh x hx'; omega) ?_
  rintro vs w3 ⟨C, e, D, f, b, es, w3', hr, k3, hL, hel, hbl, ho, hoi, hne⟩
  cases hr
  (repeat (first | (with_reducible (first | refine Rt.fin ?_ | refine Rt.tL ?_ | refine Rt.tI ?_ | refine Rt.tB ?_ | refine Rt.tS ?_ | refine Rt.tP ?_ | refine Rt.tD ?_ | refine Rt.tM ?_ | refine Rt.tC ?_ | refine Rt.tN ?_ | refine Rt.tA ?_ | refine Rt.tG ?_ | refine Rt.tF ?_ | refine Rt.os ?_ | refine Rt.clS ?_ | refine Rt.jmN ?_ | refine Rt.jbN ?_ | refine Rt.jbE ?_)) | ((with_reducible (first | apply Rt.ld0 | apply Rt.ld1 | apply Rt.ld2 | apply Rt.ld3 | apply Rt.ld4 | apply Rt.ld5)); first | assumption | exact Lc.kp (by assumption) (by assumption)) | ((with_reducible apply Rt.ol); first | assumption | exact cell_kp (by assumption) (by assumption)) | ((with_reducible apply Rt.ckR); focus ((repeat (first | (with_reducible (first | refine Rt.fin ?_ | refine Rt.tL ?_ | refine Rt.tI ?_ | refine Rt.tB ?_ | refine Rt.tS ?_ | refine Rt.tP ?_ | refine Rt.tD ?_ | refine Rt.tM ?_ | refine Rt.tC ?_ | refine Rt.tN ?_ | refine Rt.tA ?_ | refine Rt.tG ?_ | refine Rt.tF ?_ | refine Rt.os ?_ | refine Rt.clS ?_ | refine Rt.jmN ?_ | refine Rt.jbN ?_ | refine Rt.jbE ?_)) | ((with_reducible (first | apply Rt.ld0 | apply Rt.ld1 | apply Rt.ld2 | apply Rt.ld3 | apply Rt.ld4 | apply Rt.ld5)); first | assumption | exact Lc.kp (by assumption) (by assumption)) | ((with_reducible apply Rt.ol); first | assumption | exact cell_kp (by assumption) (by assumption)))); exact Rt.some' rfl))))
  have k13 := k1.tr k3
  have hb0 := IsLog_len hL (fun h => by subst h; simp at hxl; omega)
  rw [if_neg (by omega)]
  have e1 : Int.tmod at1 (b.length : Int) = ((at1.toNat % b.length : Nat) : Int) := by
    rw [Int.tmod_eq_emod_of_nonneg (by omega), Int.natCast_emod, Int.toNat_of_nonneg (by omega)]
  rw [e1]
  have hmod : at1.toNat % b.length < b.length := Nat.mod_lt _ hb0
  generalize at1.toNat % b.length = t at hmod ⊢
  refine Rt.jb (Rt.mono (Torn_l1 (n := n) (es := es) (t := t) hoi.sl.2 (by omega) es.length 0 n (by omega) (by omega) (by omega)) ?_)
  rintro _ rfl
  refine .inl ⟨.inr rfl, ?_⟩
  dsimp only
  (repeat (first | (with_reducible (first | refine Rt.fin ?_ | refine Rt.tL ?_ | refine Rt.tI ?_ | refine Rt.tB ?_ | refine Rt.tS ?_ | refine Rt.tP ?_ | refine Rt.tD ?_ | refine Rt.tM ?_ | refine Rt.tC ?_ | refine Rt.tN ?_ | refine Rt.tA ?_ | refine Rt.tG ?_ | refine Rt.tF ?_ | refine Rt.os ?_ | refine Rt.clS ?_ | refine Rt.jmN ?_ | refine Rt.jbN ?_ | refine Rt.jbE ?_)) | ((with_reducible (first | apply Rt.ld0 | apply Rt.ld1 | apply Rt.ld2 | apply Rt.ld3 | apply Rt.ld4 | apply Rt.ld5)); first | assumption | exact Lc.kp (by assumption) (by assumption)) | ((with_reducible apply Rt.ol); first | assumption | exact cell_kp (by assumption) (by assumption)) | ((with_reducible apply Rt.ckR); focus ((repeat (first | (with_reducible (first | refine Rt.fin ?_ | refine Rt.tL ?_ | refine Rt.tI ?_ | refine Rt.tB ?_ | refine Rt.tS ?_ | refine Rt.tP ?_ | refine Rt.tD ?_ | refine Rt.tM ?_ | refine Rt.tC ?_ | refine Rt.tN ?_ | refine Rt.tA ?_ | refine Rt.tG ?_ | refine Rt.tF ?_ | refine Rt.os ?_ | refine Rt.clS ?_ | refine Rt.jmN ?_ | refine Rt.jbN ?_ | refine Rt.jbE ?_)) | ((with_reducible (first | apply Rt.ld0 | apply Rt.ld1 | apply Rt.ld2 | apply Rt.ld3 | apply Rt.ld4 | apply Rt.ld5)); first | assumption | exact Lc.kp (by assumption) (by assumption)) | ((with_reducible apply Rt.ol); first | assumption | exact cell_kp (by assumption) (by assumption)))); exact Rt.some' rfl))))
  have hby := hL.bytes (ev_bytes hx)
  refine Rt.cut (ho.bv hby) (by omega) (by omega) (by omega) fun E bE => ?_
  rw [Int.toNat_natCast, show Int.toNat 0 = 0 from rfl, List.drop_zero, Nat.sub_zero, Nat.sub_zero] at bE
  obtain ⟨d', cc, hrd, hcc⟩ := Rd.cutLog hsm hL (m := t) (d := 0) (by omega)
  rw [Nat.zero_add] at hrd
  refine Rt.callAll (All_spec hn bE (by omega) hrd) fun R rc w4 e4 k4 => ?_
  have hu := upTo_le es t
  refine Rt.cutE (hx.kp (k13.tr k4)) rfl (by omega) (by omega) (by omega) fun F eF => ?_
  rw [Int.toNat_natCast, show Int.toNat 0 = 0 from rfl, List.drop_zero, Nat.sub_zero, Nat.sub_zero] at eF
  refine Rt.cBt (Same_spec hn' e4 eF) rfl fun w5 k5 => ?_
  exact Rt.cT rfl (Rt.endB (by simpa using hcc) ((k13.tr k4).tr k5))
end
end Go.Proofs.YtebcmkohnebgmaaDoor.Fr

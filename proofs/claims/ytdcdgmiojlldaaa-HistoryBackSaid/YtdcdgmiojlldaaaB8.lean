/- A region that draws: its law. -/
import Derived.Test.YtdcdgmiojlldaaaB7
namespace Go.Proofs.Ytdcdgmiojlldaaa.Big
open Go
set_option linter.unusedVariables false
set_option linter.unusedSimpArgs false
section
variable {P : Program} {T : TT} {O : Orc} {N : Nat} {all : Array Oper} {bits : List Nat}

theorem wanted_congr {o : Oper} {a a' : Act} (h : ∀ t ∈ o.looksAt all, a.tmps[t]? = a'.tmps[t]?) : Region.wanted o (yielded all a.tmps) = Region.wanted o (yielded all a'.tmps) := by
  unfold Region.wanted
  cases hg : o.guard with
  | none => rfl
  | some gw =>
    obtain ⟨g, want⟩ := gw
    have : yielded all a.tmps g = yielded all a'.tmps g := by
      unfold yielded
      cases ht : (all[g]?).bind (·.dst) with
      | none => rfl
      | some t => simp only [Option.bind_some, h t (by simp [Oper.looksAt, hg, ht])]
    simp only [this]
theorem exec_congr {o : Oper} {a a' : Act} (hs : ∀ cs b, o.op ≠ .select cs b) (h : ∀ t ∈ o.looksAt all, a.tmps[t]? = a'.tmps[t]?) : execOp a.eval o = execOp a'.eval o :=
  execOp_congr o hs fun x hx => by
    cases x with
    | tmp t =>
      have := h t (List.mem_append_left _ (List.mem_filterMap.2 ⟨.tmp t, by simpa using hx, rfl⟩))
      simp only [Act.eval, Array.getD_eq_getD_getElem?, this]
    | _ => rfl

theorem countP_lt {α : Type} {p q : α → Bool} : ∀ {l : List α} {x : α}, (∀ y, q y = true → p y = true) → x ∈ l → p x = true → q x = false → l.countP q < l.countP p
  | [], x, _, hx, _, _ => by simp at hx
  | y :: l, x, h, hx, hp, hq => by
    have hle : l.countP q ≤ l.countP p := List.countP_mono_left fun z _ hz => h z hz
    rcases List.mem_cons.1 hx with rfl | hx
    · simp [List.countP_cons, hp, hq]; omega
    · have ih := countP_lt h hx hp hq
      simp only [List.countP_cons]
      by_cases hy : q y = true
      · simp [hy, h y hy]; omega
      · simp [hy]; split <;> omega

/-- How far an order has come. -/
structure Inv (T : TT) (bits : List Nat) (all : Array Oper) (ss : List St) (a0 : Act) (wend : World) (listed : Array Bool) (a : Act) (w : World) : Prop where
  size : listed.size = all.size
  down : ∀ i, listed.getD i false = true → ∀ j, j < all.size → (bits.getD i 0).testBit j = true → listed.getD j false = true
  act : a = actS (listed.getD · false) 0 ss a0
  world : w = wS T (listed.getD · false) wend 0 ss

theorem getD_other {listed : Array Bool} {i : Nat} (h : i < listed.size) : listed.getD i true = listed.getD i false := by simp [h]
theorem set_getD {listed : Array Bool} {m : Nat} (h : m < listed.size) (k : Nat) : (listed.setIfInBounds m true).getD k false = (listed.getD k false || k == m) := by
  by_cases hk : k = m
  · subst hk; simp [h]
  · rw [getD_set_ne false (Ne.symm hk)]; simp [hk]

theorem any_inv (hR : RegOk T bits all) {Q : Exit → Act → World → Prop} {ss : List St} {a0 aend : Act} {w0 wend : World} (hm : ss.map (·.o) = all.toList) (hc : Chain P T all ss a0 w0 aend wend) (hk : Checks P T bits 0 ss [] [])
    (hQ : Q .normal aend wend) : ∀ (fuel : Nat) (listed : Array Bool) (a : Act) (w : World), (List.range all.size).countP (fun i => !listed.getD i true) ≤ fuel → Inv T bits all ss a0 wend listed a w → wpAny P .any all Q fuel listed a w := by
  have hlen : ss.length = all.size := by have := congrArg List.length hm; simpa using this
  have hop : ∀ (i : Nat) (s : St), ss[i]? = some s → all[i]? = some s.o := fun i s h => by
    have : (ss.map (·.o))[i]? = some s.o := by simp [h]
    rw [hm] at this; simpa using this
  have hst : ∀ i, i < all.size → ∃ s, ss[i]? = some s := fun i hi => ⟨ss[i]'(by omega), by simp [hlen, hi]⟩
  have lt : ∀ {i : Nat} {s : St}, ss[i]? = some s → i < all.size := fun h => by have := (List.getElem?_eq_some_iff.1 h).1; omega
  -- none ready: all listed
  have hall : ∀ (listed : Array Bool) (a : Act) (w : World), Inv T bits all ss a0 wend listed a w → Region.ready .any all listed = [] → Q .normal a w := by
    intro listed a w hi hr
    have hl : ∀ i, i < all.size → listed.getD i false = true := by
      intro i
      induction i using Nat.strongRecOn with
      | ind i ih =>
        intro hlt
        cases hli : listed.getD i false with
        | true => rfl
        | false =>
          have : i ∈ Region.ready .any all listed := mem_ready.2 ⟨by rw [getD_other (by rw [hi.size]; exact hlt)]; exact hli, all[i], by simp [hlt], fun e he hb => by
            have := hR.back i all[i] (by simp [hlt]) e he hb
            exact ih e.on this (by omega)⟩
          rw [hr] at this; simp at this
    have e1 : a = aend := by rw [hi.act]; exact hc.end_ _ 0 fun j hj => by rw [Nat.zero_add]; exact hl j (by omega)
    have e2 : w = wend := by rw [hi.world]; exact wS_end _ _ _ fun j hj => by rw [Nat.zero_add]; exact hl j (by omega)
    rw [e1, e2]; exact hQ
  intro fuel
  induction fuel with
  | zero =>
    intro listed a w hf hi
    have hr : Region.ready .any all listed = [] := by
      rw [List.eq_nil_iff_forall_not_mem]
      intro i hmem
      have hmem' := mem_ready.1 hmem
      obtain ⟨h0, o, ho, _⟩ := hmem'
      have hlt := (Array.getElem?_eq_some_iff.1 ho).1
      have : 0 < (List.range all.size).countP (fun i => !listed.getD i true) := List.countP_pos_iff.2 ⟨i, by simp [hlt], by simp only [h0]; rfl⟩
      omega
    exact ⟨hr, hall listed a w hi hr⟩
  | succ fuel ih =>
    intro listed a w hf hi
    refine ⟨fun hr => hall listed a w hi hr, fun m hmem => ?_⟩
    obtain ⟨h0, o, ho, hpre⟩ := mem_ready.1 hmem
    have hlt := (Array.getElem?_eq_some_iff.1 ho).1
    have hltl : m < listed.size := by rw [hi.size]; exact hlt
    obtain ⟨sm, hsm⟩ := hst m hlt
    have hoo : o = sm.o := by have := hop m sm hsm; rw [ho] at this; exact Option.some.inj this
    have hun : listed.getD m false = false := by rw [← getD_other hltl]; exact h0
    -- what lies before is listed
    have hbit : ∀ j, j < all.size → (bits.getD m 0).testBit j = true → listed.getD j false = true := fun j hj hb => by
      obtain ⟨_, e, he, hbd, h⟩ := hR.bit m j o ho hj hb
      have hl := hpre e he hbd
      rcases h with rfl | h
      · exact hl
      · exact hi.down e.on hl j hj h
    -- a listed one behind it is not bound to it
    have hfore : ∀ (j : Nat) (s : St), ss[j]? = some s → m < j → listed.getD j false = true → sm.o.apart all s.o = true ∧ ¬(cls T sm.o = .e ∧ cls T s.o = .e) ∧ unord bits m j = true := fun j s hj hlt' hl => by
      have hb : (bits.getD j 0).testBit m = false := by
        cases hb : (bits.getD j 0).testBit m with
        | false => rfl
        | true => have := hi.down j hl m hlt hb; rw [hun] at this; cases this
      have := hR.apart m j sm.o s.o (hop m sm hsm) (hop j s hj) hlt' hb
      exact ⟨this.1, this.2, by simp only [unord, hb]; rfl⟩
    -- one ahead of it that is not listed is not bound to it
    have hback : ∀ (j : Nat) (s : St), ss[j]? = some s → j < m → listed.getD j false = false → s.o.apart all sm.o = true ∧ ¬(cls T s.o = .e ∧ cls T sm.o = .e) ∧ unord bits j m = true := fun j s hj hlt' hl => by
      have hb : (bits.getD m 0).testBit j = false := by
        cases hb : (bits.getD m 0).testBit j with
        | false => rfl
        | true => have := hbit j (lt hj) hb; rw [hl] at this; cases this
      have := hR.apart j m s.o sm.o (hop j s hj) (hop m sm hsm) hlt' hb
      exact ⟨this.1, this.2, by simp only [unord, hb]; rfl⟩
    -- its operands
    have hlook : ∀ t ∈ sm.o.looksAt all, a.tmps[t]? = sm.a.tmps[t]? := fun t ht => by
      rw [hi.act, hc.at_ 0 m sm hsm]
      refine actS_get ss 0 _ _ rfl rfl fun j s hj hd => ?_
      simp only [Nat.zero_add]
      rcases Nat.lt_trichotomy j m with h | h | h
      · rw [decide_eq_true h]
        cases hl : listed.getD j false with
        | true => rfl
        | false =>
          have := (Oper.apart_spec (hback j s hj h hl).1).1 t hd
          exact absurd ht this
      · subst h; rw [hun]; simp
      · rw [decide_eq_false (by omega)]
        cases hl : listed.getD j false with
        | false => rfl
        | true =>
          have := (Oper.apart_spec (hfore j s hj h hl).1).2.2 t hd
          exact absurd ht this
    have hexec : execOp a.eval sm.o = execOp sm.a.eval sm.o := exec_congr (hR.nosel m sm.o · · (hop m sm hsm)) hlook
    have hwant := wanted_congr (o := sm.o) (all := all) hlook
    have hso := hc.step m sm hsm
    -- the next state
    have hnext : ∀ w', (w' = wS T ((listed.setIfInBounds m true).getD · false) wend 0 ss) → wpAny P .any all Q fuel (listed.setIfInBounds m true) (a.put sm.o.dst sm.u) w' := fun w' hw' => by
      refine ih _ _ _ ?_ ⟨by simp [hi.size], fun i hl j hj hb => ?_, ?_, hw'⟩
      · have : (List.range all.size).countP (fun i => !(listed.setIfInBounds m true).getD i true) < (List.range all.size).countP (fun i => !listed.getD i true) :=
          countP_lt (x := m) (fun y hy => by
            by_cases hym : y = m
            · subst hym; simp [h0]
            · rwa [getD_set_ne true (Ne.symm hym)] at hy) (by simp [hlt]) (by simp only [h0]; rfl) (by simp [hltl])
        omega
      · by_cases him : i = m
        · subst him; exact getD_set_true (hbit j hj hb)
        · rw [getD_set_ne false (Ne.symm him)] at hl; exact getD_set_true (hi.down i hl j hj hb)
      · rw [hi.act]
        refine (actS_more (m := m) (set_getD hltl) hun ss 0 a0 (Nat.zero_le _) (by simpa using hsm) fun j s hj hlt' hl x hd => ?_).symm
        simp only [Nat.zero_add] at hlt' hl
        exact (Oper.apart_spec (hfore j s hj hlt' hl).1).2.1 x hd
    have hsame : isE T sm = false → w = wS T ((listed.setIfInBounds m true).getD · false) wend 0 ss := fun he => by
      rw [hi.world]
      refine wS_same ss 0 fun j s hj hs => ?_
      simp only [Nat.zero_add]
      have : j ≠ m := fun h => by subst h; rw [hsm] at hj; injection hj with hj; subst hj; rw [he] at hs; cases hs
      rw [getD_set_ne false (Ne.symm this)]
    unfold wpOp
    rw [ho]
    simp only []
    rw [hoo, hwant, ← hso.1]
    cases hb : sm.b with
    | false =>
      simp only [Bool.false_eq_true, if_false]
      have := hnext w (hsame (by simp [isE, hb]))
      rwa [(hso.2.2 hb).1] at this
    | true =>
      simp only [if_true]
      refine .inl ?_
      have hf := hso.2.1 hb
      cases hcl : cls T sm.o with
      | v =>
        refine ResOk.wp (v := sm.u) (w' := w) ?_ (hnext w (hsame (by simp [isE, hcl])))
        rw [hexec]; exact (hf.2.1 hcl).2 w
      | r =>
        have he : isE T sm = false := by simp [isE, hcl]
        have hr : isR T sm = true := by simp [isR, hb, hcl]
        refine ResOk.wp (v := sm.u) (w' := w) ?_ (hnext w (hsame he))
        rw [hexec, hi.world]
        rcases wS_R (m := m) he hc (listed.getD · false) 0 (Nat.zero_le _) (by simpa using hsm) with h | ⟨j, s, h1, h2, h3, h4, h5⟩ | ⟨j, s, h1, h2, h3, h4, h5⟩
        · rw [h]; have := hf.1; rwa [hf.2.2 hcl] at this
        · rw [h5]
          simp only [Nat.zero_add] at h3 h4
          have := (hk.back m sm hsm hr).2 j s h1 h2 h3 (by simpa using (hback j s h1 h3 h4).2.2)
          exact this
        · rw [h5]
          simp only [Nat.zero_add] at h3 h4
          exact (hk.fore j s h1 h2).2 m sm hsm hr h3 (by simpa using (hfore j s h1 h3 h4).2.2)
      | e =>
        have he : isE T sm = true := by simp [isE, hb, hcl]
        have hE : ∀ s, isE T s = true → cls T s.o = .e := fun s hs => by simp only [isE, Bool.and_eq_true, decide_eq_true_eq] at hs; exact hs.2
        have hset : ∀ j, j ≠ m → (listed.setIfInBounds m true).getD j false = listed.getD j false := fun j hj => getD_set_ne false (Ne.symm hj)
        have hahead : ∀ (j : Nat) (s : St), ss[j]? = some s → isE T s = true → j < m → listed.getD j false = true := fun j s hj hs hlt' => by
          cases hl : listed.getD j false with
          | true => rfl
          | false => exact absurd ⟨hE s hs, hcl⟩ (hback j s hj hlt' hl).2.1
        have hbehind : ∀ (j : Nat) (s : St), ss[j]? = some s → isE T s = true → m < j → listed.getD j false = false := fun j s hj hs hlt' => by
          cases hl : listed.getD j false with
          | false => rfl
          | true => exact absurd ⟨hcl, hE s hs⟩ (hfore j s hj hlt' hl).2.1
        obtain ⟨h1, h2⟩ := wS_E (m := m) he hc (listed.getD · false) ((listed.setIfInBounds m true).getD · false) 0 (Nat.zero_le _) (by simpa using hsm) hun (by simp [hltl])
          (fun j s hj hs hlt' => by
            simp only [Nat.zero_add] at hlt' ⊢
            rw [hset j (by omega)]
            exact ⟨hahead j s hj hs hlt', hahead j s hj hs hlt'⟩)
          (fun j s hj hs hlt' => by
            simp only [Nat.zero_add] at hlt' ⊢
            rw [hset j (by omega)]
            exact hbehind j s hj hs hlt')
        refine ResOk.wp (v := sm.u) (w' := sm.w') ?_ (hnext sm.w' h2.symm)
        rw [hexec, hi.world, h1]; exact hf.1

theorem regD_wp (hT : TOk P T) (hO : OOk P O) (hmix : P.follows .mixedOrders = true) {id : Nat} {e : Env} {a : Act} {w : World} {k : K} {r : Res} (hchk : chkR T bits all = true) (hd : okDst N all.toList = true) (he : EnvOk N e a)
    (h : regD P T O bits all all.toList 0 e w.drew [] [] k = some r) {Q : Exit → Act → World → Prop} (hQ : ∀ e' a' w', EnvOk N e' a' → k e' w' = some r → Q .normal a' w') : (Code.region id all true).wp P Q a w := by
  obtain ⟨ss, h1, e', a', w', h2, h3, h4, h5⟩ := regD_inv hT hO all.toList 0 e a w.drew [] [] [] hd he .nil h
  refine wp_region_any hmix (any_inv (chkR_ok hchk) h1 h4 h5 (hQ e' a' w' h2 h3) _ _ _ _ ?_ ⟨by simp, fun i hl => ?_, ?_, ?_⟩)
  · have := List.countP_le_length (p := fun i => !(Array.replicate all.size false).getD i true) (l := List.range all.size); simpa using this
  · exfalso; revert hl; simp [Array.getElem?_replicate]; split <;> simp
  · rw [actS_none]; intro k _; simp [Array.getElem?_replicate]; split <;> simp
  · rw [wS_start h4]; · rfl
    intro j s _ _; simp [Array.getElem?_replicate]; split <;> simp
end
end Go.Proofs.Ytdcdgmiojlldaaa.Big

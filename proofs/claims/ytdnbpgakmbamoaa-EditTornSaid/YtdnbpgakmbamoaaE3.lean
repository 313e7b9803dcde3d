/- Edits: how they are written, by the program. -/
import Derived.Test.YtdnbpgakmbamoaaE2
namespace Go.Proofs.Ytdnbpgakmbamoaa.Ed
open Go Big Go.RowKit Go.IntWalk Cm Var Low
set_option linter.unusedVariables false
set_option linter.unusedSimpArgs false
def encR (r : RunD) : List Int := enc r.file.toNat ++ enc r.bytes.toNat ++ enc r.count.toNat ++ enc r.first.length ++ r.first ++ enc r.last.length ++ r.last ++ enc r.seq.toNat
def encN (l : List Int) : List Int := (l.map fun f => enc f.toNat).flatten
def encA (l : List RunD) : List Int := (l.map encR).flatten
def encE (x : EditD) : List Int := enc x.add.length ++ encA x.add ++ enc x.drop.length ++ encN x.drop ++ enc x.next.toNat ++ enc x.log.toNat ++ enc x.seq.toNat
open Classical in
noncomputable def bytesE (x : EditD) : List Int := if rightE x then encE x else []
theorem enc_len10 {x : Nat} (h : x < 2 ^ 64) : (enc x).length ≤ 10 := enc_len 9 x (by omega)
theorem encR_len {r : RunD} (h : rightR r) : (encR r).length ≤ 600 := by
  unfold rightR at h
  have h1 := enc_len10 (x := r.file.toNat) (by omega)
  have h2 := enc_len10 (x := r.bytes.toNat) (by omega)
  have h3 := enc_len10 (x := r.count.toNat) (by omega)
  have h4 := enc_len10 (x := r.first.length) (by omega)
  have h5 := enc_len10 (x := r.last.length) (by omega)
  have h6 := enc_len10 (x := r.seq.toNat) (by omega)
  unfold encR
  simp only [List.length_append]
  omega
theorem encA_len : ∀ {l : List RunD}, (∀ r ∈ l, rightR r) → (encA l).length ≤ 600 * l.length
  | [], _ => by simp [encA]
  | r :: l, h => by
    have h1 := encR_len (h r List.mem_cons_self)
    have h2 := encA_len fun x hx => h x (List.mem_cons_of_mem _ hx)
    unfold encA at h2 ⊢
    simp only [List.map_cons, List.flatten_cons, List.length_append, List.length_cons]
    omega
theorem encN_len : ∀ {l : List Int}, (∀ f ∈ l, 0 ≤ f ∧ f < 2 ^ 63) → (encN l).length ≤ 10 * l.length
  | [], _ => by simp [encN]
  | f :: l, h => by
    have h0 := h f List.mem_cons_self
    have h1 := enc_len10 (x := f.toNat) (by omega)
    have h2 := encN_len fun x hx => h x (List.mem_cons_of_mem _ hx)
    unfold encN at h2 ⊢
    simp only [List.map_cons, List.flatten_cons, List.length_append, List.length_cons]
    omega
section
variable {α : Type} {Q : α → Prop} {n : Nat} {w w0 : World} {A B C : Option Addr} {l c m d base : Nat} {f b k s : Int} {p q : Nat} {x : RunD} {xs ys : List RunD} {fs bs : List Int} {e : EditD} {en el es : Int}
theorem put_l0 (hs : Sl .i64 w0 B m fs) (hf : ∀ f ∈ fs, 0 ≤ f ∧ f < 2 ^ 63) (hm : bs.length + 10 * m ≤ 2 ^ 37) (hn : 200 < n) : ∀ (q i j : Nat) (w : World) (A : Option Addr) (l c base : Nat), i + q = m → q < j → Kp w0 w → base ≤ w.heap.size → Own .u8 5 w base (.slice A l c) (bs ++ encN (fs.take i)) →
    Rt (edit_put.l0 n j A l c B m d (m : Int) (i : Int) w) fun r => Kp w0 r.w ∧ r.ex = .exit 0 ∧ ∃ A l c base', r.vals = [.slice A l c] ∧ Own .u8 5 r.w base' (.slice A l c) (bs ++ encN fs) ∧ (w.heap.size ≤ base' ∨ q = 0 ∧ base' = base) ∧ base' ≤ r.w.heap.size := by
  intro q
  have hxl := hs.len
  induction q with
  | zero =>
    intro i j w A l c base hi hj hk hb ho
    obtain ⟨j, rfl⟩ : ∃ j', j = j' + 1 := ⟨j - 1, by omega⟩
    rw [edit_put.l0_succ]
    rw [List.take_of_length_le (by omega)] at ho
    exact Rt.cDF (by omega) (Rt.some' ⟨hk, rfl, A, l, c, base, rfl, ho, .inr ⟨rfl, rfl⟩, hb⟩)
  | succ q ih =>
    intro i j w A l c base hi hj hk hb ho
    obtain ⟨j, rfl⟩ : ∃ j', j = j' + 1 := ⟨j - 1, by omega⟩
    rw [edit_put.l0_succ]
    have ex := getD_some (xs := fs) (i := i) (by omega)
    have hv := hf _ (List.mem_of_getElem? ex)
    refine Rt.cDT (by omega) (Rt.ix (hs.kp hk) (by omega) (by omega) ?_)
    rw [Int.toNat_natCast, u64_in _ (by omega)]
    have hlen := encN_len (l := fs.take i) fun f hf' => hf f (List.mem_of_mem_take hf')
    have hl := ho.sl.1
    have htl : (fs.take i).length = i := by simp; omega
    rw [List.length_append] at hl
    refine Rt.cO (PutO ho (by omega) (by omega) (by omega)) fun A2 c2 w2 o2 k2 => ?_
    rw [i64_in _ (by omega), show ((i : Int) + 1) = ((i + 1 : Nat) : Int) by omega]
    have he : bs ++ encN (fs.take (i + 1)) = bs ++ encN (fs.take i) ++ enc (fs.getD i 0).toNat := by
      rw [List.take_add_one, ex]; simp [encN]
    refine Rt.mono (ih (i + 1) j w2 A2 _ c2 w.heap.size (by omega) (by omega) (hk.tr k2) k2.size (by rw [he]; exact o2)) ?_
    rintro r ⟨r1, r2, A3, l3, c3, b3, r3, r4, r5, r6⟩
    refine ⟨r1, r2, A3, l3, c3, b3, r3, r4, .inl ?_, r6⟩
    have := k2.size
    rcases r5 with h | ⟨_, h⟩ <;> omega
theorem put_spec (ho : Own .u8 5 w base (.slice A l c) bs) (hb : base ≤ w.heap.size) (hs : Sl .i64 w B m fs) (hf : ∀ f ∈ fs, 0 ≤ f ∧ f < 2 ^ 63) (hm : bs.length + 10 * m ≤ 2 ^ 37) (hmn : m < n) (hn : 200 < n) :
    Rt (edit_put n [.slice A l c, .slice B m d] w) fun r => ∃ A' c' w' base', r = ([.slice A' (bs ++ encN fs).length c'], w') ∧ Own .u8 5 w' base' (.slice A' (bs ++ encN fs).length c') (bs ++ encN fs) ∧ Kp w w' ∧ (w.heap.size ≤ base' ∨ m = 0 ∧ base' = base) ∧ base' ≤ w'.heap.size := by
  rw [edit_put_eq]
  refine Rt.fin (Rt.jb (Rt.mono (put_l0 (n := n) hs hf hm hn m 0 n w A l c base (by omega) (by omega) (Kp.rfl' w) hb (by simpa [encN] using ho)) ?_))
  rintro ⟨ex, vs, w1⟩ ⟨k1, h1, A', l', c', b', h2, o, h3, h4⟩
  dsimp only at h1 h2 k1 o
  subst h1 h2
  refine .inl ⟨.inr rfl, ?_⟩
  (repeat (first | (with_reducible (first | refine Rt.fin ?_ | refine Rt.tL ?_ | refine Rt.tI ?_ | refine Rt.tB ?_ | refine Rt.tS ?_ | refine Rt.tP ?_ | refine Rt.tD ?_ | refine Rt.tM ?_ | refine Rt.tC ?_ | refine Rt.tN ?_ | refine Rt.tA ?_ | refine Rt.tG ?_ | refine Rt.tF ?_ | refine Rt.os ?_ | refine Rt.clS ?_ | refine Rt.jmN ?_ | refine Rt.jbN ?_ | refine Rt.jbE ?_)) | ((with_reducible (first | apply Rt.ld0 | apply Rt.ld1 | apply Rt.ld2 | apply Rt.ld3 | apply Rt.ld4 | apply Rt.ld5)); first | assumption | exact Lc.kp (by assumption) (by assumption)) | ((with_reducible apply Rt.ol); first | assumption | exact cell_kp (by assumption) (by assumption)) | ((with_reducible apply Rt.ckR); focus ((repeat (first | (with_reducible (first | refine Rt.fin ?_ | refine Rt.tL ?_ | refine Rt.tI ?_ | refine Rt.tB ?_ | refine Rt.tS ?_ | refine Rt.tP ?_ | refine Rt.tD ?_ | refine Rt.tM ?_ | refine Rt.tC ?_ | refine Rt.tN ?_ | refine Rt.tA ?_ | refine Rt.tG ?_ | refine Rt.tF ?_ | refine Rt.os ?_ | refine Rt.clS ?_ | refine Rt.jmN ?_ | refine Rt.jbN ?_ | refine Rt.jbE ?_)) | ((with_reducible (first | apply Rt.ld0 | apply Rt.ld1 | apply Rt.ld2 | apply Rt.ld3 | apply Rt.ld4 | apply Rt.ld5)); first | assumption | exact Lc.kp (by assumption) (by assumption)) | ((with_reducible apply Rt.ol); first | assumption | exact cell_kp (by assumption) (by assumption)))); exact Rt.some' rfl))))
  have := o.sl.1
  subst this
  exact Rt.some' ⟨rfl, A', c', w1, b', rfl, o, k1, h3, h4⟩
theorem Bytes_l0 (hs : Ev runEl w0 A l c xs) (hl : l ≤ 100) (hg : ∀ r ∈ xs, rightR r) {x1 : Nat} {cs : List Value} (hbs : bs.length ≤ 100) (hn : 300 < n) : ∀ (q i j : Nat) (w : World) (B : Option Addr) (m d base : Nat), i + q = l → q < j → Kp w0 w → w0.heap.size ≤ base → base ≤ w.heap.size → Lc w x1 cs → Own .u8 5 w base (.slice B m d) (bs ++ encA (xs.take i)) →
    Rt (edit_Bytes.l0 n j ⟨x1, 0, none⟩ B m d A l c (l : Int) (i : Int) w) fun r => Kp w0 r.w ∧ r.ex = .exit 0 ∧ ∃ B m d base', r.vals = [.pointer (some ⟨x1, 0, none⟩), .slice B m d] ∧ Own .u8 5 r.w base' (.slice B m d) (bs ++ encA xs) ∧ Lc r.w x1 cs ∧ w0.heap.size ≤ base' ∧ base' ≤ r.w.heap.size := by
  obtain ⟨t, hT⟩ := Low.slV
  intro q
  have hxl := hs.len
  induction q with
  | zero =>
    intro i j w B m d base hi hj hk hb0 hb hlc ho
    obtain ⟨j, rfl⟩ : ∃ j', j = j' + 1 := ⟨j - 1, by omega⟩
    rw [edit_Bytes.l0_succ]
    rw [List.take_of_length_le (by omega)] at ho
    exact Rt.cDF (by omega) (Rt.some' ⟨hk, rfl, B, m, d, base, rfl, ho, hlc, hb0, hb⟩)
  | succ q ih =>
    intro i j w B m d base hi hj hk hb0 hb hlc ho
    obtain ⟨j, rfl⟩ : ∃ j', j = j' + 1 := ⟨j - 1, by omega⟩
    rw [edit_Bytes.l0_succ]
    refine Rt.cDT (by omega) (Rt.ixR (hs.kp hk).sl (by omega) (by omega) fun x a f b c' C p q' D g v s ex hv c0 c1 c2 c3 c4 c5 => ?_)
    rw [Int.toNat_natCast] at ex
    have hr := hg x (List.mem_of_getElem? ex)
    have hlenA := encA_len (l := xs.take i) fun r hr => hg r (List.mem_of_mem_take hr)
    have htl : (xs.take i).length = i := by simp; omega
    have hw0 := hk.size
    have hxlt := hlc.lt
    have hf1 := hv.first.len
    have hf2 := hv.last.len
    obtain ⟨ef, eb, ec, es, rf, rb, rc, rs, vf, vl⟩ := hv
    have hr0 := hr
    unfold rightR at hr
    rw [← ef, ← eb, ← ec, ← es] at hr
    (repeat (first | (with_reducible (first | refine Rt.fin ?_ | refine Rt.tL ?_ | refine Rt.tI ?_ | refine Rt.tB ?_ | refine Rt.tS ?_ | refine Rt.tP ?_ | refine Rt.tD ?_ | refine Rt.tM ?_ | refine Rt.tC ?_ | refine Rt.tN ?_ | refine Rt.tA ?_ | refine Rt.tG ?_ | refine Rt.tF ?_ | refine Rt.os ?_ | refine Rt.clS ?_ | refine Rt.jmN ?_ | refine Rt.jbN ?_ | refine Rt.jbE ?_)) | ((with_reducible (first | apply Rt.ld0 | apply Rt.ld1 | apply Rt.ld2 | apply Rt.ld3 | apply Rt.ld4 | apply Rt.ld5)); first | assumption | exact Lc.kp (by assumption) (by assumption)) | ((with_reducible apply Rt.ol); first | assumption | exact cell_kp (by assumption) (by assumption)) | ((with_reducible apply Rt.ckR); focus ((repeat (first | (with_reducible (first | refine Rt.fin ?_ | refine Rt.tL ?_ | refine Rt.tI ?_ | refine Rt.tB ?_ | refine Rt.tS ?_ | refine Rt.tP ?_ | refine Rt.tD ?_ | refine Rt.tM ?_ | refine Rt.tC ?_ | refine Rt.tN ?_ | refine Rt.tA ?_ | refine Rt.tG ?_ | refine Rt.tF ?_ | refine Rt.os ?_ | refine Rt.clS ?_ | refine Rt.jmN ?_ | refine Rt.jbN ?_ | refine Rt.jbE ?_)) | ((with_reducible (first | apply Rt.ld0 | apply Rt.ld1 | apply Rt.ld2 | apply Rt.ld3 | apply Rt.ld4 | apply Rt.ld5)); first | assumption | exact Lc.kp (by assumption) (by assumption)) | ((with_reducible apply Rt.ol); first | assumption | exact cell_kp (by assumption) (by assumption)))); exact Rt.some' rfl))))
    refine Rt.al6 fun w1 l1 k1 s1 => ?_
    clear c0 c1 c2 c3 c4 c5
    (repeat (first | (with_reducible (first | refine Rt.fin ?_ | refine Rt.tL ?_ | refine Rt.tI ?_ | refine Rt.tB ?_ | refine Rt.tS ?_ | refine Rt.tP ?_ | refine Rt.tD ?_ | refine Rt.tM ?_ | refine Rt.tC ?_ | refine Rt.tN ?_ | refine Rt.tA ?_ | refine Rt.tG ?_ | refine Rt.tF ?_ | refine Rt.os ?_ | refine Rt.clS ?_ | refine Rt.jmN ?_ | refine Rt.jbN ?_ | refine Rt.jbE ?_)) | ((with_reducible (first | apply Rt.ld0 | apply Rt.ld1 | apply Rt.ld2 | apply Rt.ld3 | apply Rt.ld4 | apply Rt.ld5)); first | assumption | exact Lc.kp (by assumption) (by assumption)) | ((with_reducible apply Rt.ol); first | assumption | exact cell_kp (by assumption) (by assumption)) | ((with_reducible apply Rt.ckR); focus ((repeat (first | (with_reducible (first | refine Rt.fin ?_ | refine Rt.tL ?_ | refine Rt.tI ?_ | refine Rt.tB ?_ | refine Rt.tS ?_ | refine Rt.tP ?_ | refine Rt.tD ?_ | refine Rt.tM ?_ | refine Rt.tC ?_ | refine Rt.tN ?_ | refine Rt.tA ?_ | refine Rt.tG ?_ | refine Rt.tF ?_ | refine Rt.os ?_ | refine Rt.clS ?_ | refine Rt.jmN ?_ | refine Rt.jbN ?_ | refine Rt.jbE ?_)) | ((with_reducible (first | apply Rt.ld0 | apply Rt.ld1 | apply Rt.ld2 | apply Rt.ld3 | apply Rt.ld4 | apply Rt.ld5)); first | assumption | exact Lc.kp (by assumption) (by assumption)) | ((with_reducible apply Rt.ol); first | assumption | exact cell_kp (by assumption) (by assumption)))); exact Rt.some' rfl))))
    refine Rt.alo (k := .i64) [f, b, c', (p : Int)] 4 rfl rfl (by decide) fun w2 o2 k2 => ?_
    have k12 := k1.tr k2
    have hs2 := k2.size
    have l2 := l1.kp k2
    refine Rt.call (put_spec (ho.kp k12) (by have := k12.size; omega) o2.sl.2 (fun z hz => by simp only [List.mem_cons, List.not_mem_nil, or_false] at hz; omega) (by rw [List.length_append]; omega) (by omega) (by omega)) ?_
    rintro _ w3 ⟨B3, d3, _, b3, hr3, o3, k3, h3, hb3⟩
    cases hr3
    have h3 : w2.heap.size ≤ b3 := by rcases h3 with h | ⟨h, _⟩; exact h; omega
    have hs3 := k3.size
    have hc3 : bs ++ encA (xs.take i) ++ encN [f, b, c', (p : Int)] = bs ++ encA (xs.take i) ++ (enc f.toNat ++ enc b.toNat ++ enc c'.toNat ++ enc p) := by simp [encN]
    have hl4 : (enc f.toNat ++ enc b.toNat ++ enc c'.toNat ++ enc p).length ≤ 40 := by
      have h1 := enc_len10 (x := f.toNat) (by omega)
      have h2 := enc_len10 (x := b.toNat) (by omega)
      have h3 := enc_len10 (x := c'.toNat) (by omega)
      have h4 := enc_len10 (x := p) (by omega)
      simp only [List.length_append]; omega
    rw [hc3] at o3 ⊢
    generalize hX : bs ++ encA (xs.take i) ++ (enc f.toNat ++ enc b.toNat ++ enc c'.toNat ++ enc p) = X3 at o3 ⊢
    have hX3 : X3.length ≤ 100 + 600 * 100 + 40 := by rw [← hX, List.length_append, List.length_append]; omega
    have l3 := l2.kp k3
    have k13 := k12.tr k3
    have hxk3 := hlc.kp k13
    (repeat (first | (with_reducible (first | refine Rt.fin ?_ | refine Rt.tL ?_ | refine Rt.tI ?_ | refine Rt.tB ?_ | refine Rt.tS ?_ | refine Rt.tP ?_ | refine Rt.tD ?_ | refine Rt.tM ?_ | refine Rt.tC ?_ | refine Rt.tN ?_ | refine Rt.tA ?_ | refine Rt.tG ?_ | refine Rt.tF ?_ | refine Rt.os ?_ | refine Rt.clS ?_ | refine Rt.jmN ?_ | refine Rt.jbN ?_ | refine Rt.jbE ?_)) | ((with_reducible (first | apply Rt.ld0 | apply Rt.ld1 | apply Rt.ld2 | apply Rt.ld3 | apply Rt.ld4 | apply Rt.ld5)); first | assumption | exact Lc.kp (by assumption) (by assumption)) | ((with_reducible apply Rt.ol); first | assumption | exact cell_kp (by assumption) (by assumption)) | ((with_reducible apply Rt.ckR); focus ((repeat (first | (with_reducible (first | refine Rt.fin ?_ | refine Rt.tL ?_ | refine Rt.tI ?_ | refine Rt.tB ?_ | refine Rt.tS ?_ | refine Rt.tP ?_ | refine Rt.tD ?_ | refine Rt.tM ?_ | refine Rt.tC ?_ | refine Rt.tN ?_ | refine Rt.tA ?_ | refine Rt.tG ?_ | refine Rt.tF ?_ | refine Rt.os ?_ | refine Rt.clS ?_ | refine Rt.jmN ?_ | refine Rt.jbN ?_ | refine Rt.jbE ?_)) | ((with_reducible (first | apply Rt.ld0 | apply Rt.ld1 | apply Rt.ld2 | apply Rt.ld3 | apply Rt.ld4 | apply Rt.ld5)); first | assumption | exact Lc.kp (by assumption) (by assumption)) | ((with_reducible apply Rt.ol); first | assumption | exact cell_kp (by assumption) (by assumption)))); exact Rt.some' rfl))))
    refine Rt.jm (Rt.mono (Q' := fun r => r.ex = .norm ∧ ∃ B m d base', r.vals = [.pointer (some ⟨x1, 0, none⟩), .slice B m d, .pointer (some ⟨w.heap.size, 0, none⟩), .slice A l c, .int .i64 (l : Int), .int .i64 (i : Int)] ∧ Own .u8 5 r.w base' (.slice B m d) (X3 ++ x.first ++ enc g) ∧ w2.heap.size ≤ base' ∧ base' ≤ r.w.heap.size ∧ Kp w r.w ∧ Lc r.w w.heap.size [.int .i64 f, .int .i64 b, .int .i64 c', .slice C p q', .slice D g v, .int .u64 s] ∧ Lc r.w x1 cs) ?_ ?_)
    · have kd := (Kp.rfl' w3).dr
      have l3d := l3.kp kd
      have k3d := k13.tr kd
      have hxk3d := hxk3.kp kd
      have hlX : X3.length + p ≤ 2 ^ 40 := by omega
      refine Rt.cB (fun _ => ?_) fun _ => ?_
      · (repeat (first | (with_reducible (first | refine Rt.fin ?_ | refine Rt.tL ?_ | refine Rt.tI ?_ | refine Rt.tB ?_ | refine Rt.tS ?_ | refine Rt.tP ?_ | refine Rt.tD ?_ | refine Rt.tM ?_ | refine Rt.tC ?_ | refine Rt.tN ?_ | refine Rt.tA ?_ | refine Rt.tG ?_ | refine Rt.tF ?_ | refine Rt.os ?_ | refine Rt.clS ?_ | refine Rt.jmN ?_ | refine Rt.jbN ?_ | refine Rt.jbE ?_)) | ((with_reducible (first | apply Rt.ld0 | apply Rt.ld1 | apply Rt.ld2 | apply Rt.ld3 | apply Rt.ld4 | apply Rt.ld5)); first | assumption | exact Lc.kp (by assumption) (by assumption)) | ((with_reducible apply Rt.ol); first | assumption | exact cell_kp (by assumption) (by assumption)) | ((with_reducible apply Rt.ckR); focus ((repeat (first | (with_reducible (first | refine Rt.fin ?_ | refine Rt.tL ?_ | refine Rt.tI ?_ | refine Rt.tB ?_ | refine Rt.tS ?_ | refine Rt.tP ?_ | refine Rt.tD ?_ | refine Rt.tM ?_ | refine Rt.tC ?_ | refine Rt.tN ?_ | refine Rt.tA ?_ | refine Rt.tG ?_ | refine Rt.tF ?_ | refine Rt.os ?_ | refine Rt.clS ?_ | refine Rt.jmN ?_ | refine Rt.jbN ?_ | refine Rt.jbE ?_)) | ((with_reducible (first | apply Rt.ld0 | apply Rt.ld1 | apply Rt.ld2 | apply Rt.ld3 | apply Rt.ld4 | apply Rt.ld5)); first | assumption | exact Lc.kp (by assumption) (by assumption)) | ((with_reducible apply Rt.ol); first | assumption | exact cell_kp (by assumption) (by assumption)))); exact Rt.some' rfl))))
        refine Rt.appO hT o3.dr (vf.kp k3d).sl vf.nil (by omega) (by have : w3.drew.heap.size = w3.heap.size := rfl; omega) fun B4 d4 w4 o4 f4 g4 => ?_
        have hs4 := g4.size
        have hsd : w3.drew.heap.size = w3.heap.size := rfl
        have l4 := l3d.gx g4 fun h => by have := (o3.lt _ h).1; omega
        have hxk4 := hxk3d.gx g4 fun h => by have := (o3.lt _ h).1; omega
        have k4 := k3d.tx g4 fun j hj => by have := (o3.lt _ hj).1; omega
        (repeat (first | (with_reducible (first | refine Rt.fin ?_ | refine Rt.tL ?_ | refine Rt.tI ?_ | refine Rt.tB ?_ | refine Rt.tS ?_ | refine Rt.tP ?_ | refine Rt.tD ?_ | refine Rt.tM ?_ | refine Rt.tC ?_ | refine Rt.tN ?_ | refine Rt.tA ?_ | refine Rt.tG ?_ | refine Rt.tF ?_ | refine Rt.os ?_ | refine Rt.clS ?_ | refine Rt.jmN ?_ | refine Rt.jbN ?_ | refine Rt.jbE ?_)) | ((with_reducible (first | apply Rt.ld0 | apply Rt.ld1 | apply Rt.ld2 | apply Rt.ld3 | apply Rt.ld4 | apply Rt.ld5)); first | assumption | exact Lc.kp (by assumption) (by assumption)) | ((with_reducible apply Rt.ol); first | assumption | exact cell_kp (by assumption) (by assumption)) | ((with_reducible apply Rt.ckR); focus ((repeat (first | (with_reducible (first | refine Rt.fin ?_ | refine Rt.tL ?_ | refine Rt.tI ?_ | refine Rt.tB ?_ | refine Rt.tS ?_ | refine Rt.tP ?_ | refine Rt.tD ?_ | refine Rt.tM ?_ | refine Rt.tC ?_ | refine Rt.tN ?_ | refine Rt.tA ?_ | refine Rt.tG ?_ | refine Rt.tF ?_ | refine Rt.os ?_ | refine Rt.clS ?_ | refine Rt.jmN ?_ | refine Rt.jbN ?_ | refine Rt.jbE ?_)) | ((with_reducible (first | apply Rt.ld0 | apply Rt.ld1 | apply Rt.ld2 | apply Rt.ld3 | apply Rt.ld4 | apply Rt.ld5)); first | assumption | exact Lc.kp (by assumption) (by assumption)) | ((with_reducible apply Rt.ol); first | assumption | exact cell_kp (by assumption) (by assumption)))); exact Rt.some' rfl))))
        refine Rt.alo (k := .i64) [(g : Int)] 1 rfl rfl (by decide) fun w5 o5 k5 => ?_
        have hs5 := k5.size
        refine Rt.call (put_spec (o4.kp k5) (by omega) o5.sl.2 (fun z hz => by simp only [List.mem_cons, List.not_mem_nil, or_false] at hz; omega) (by rw [List.length_append]; omega) (by omega) (by omega)) ?_
        rintro _ w6 ⟨B6, d6, _, b6, hr6, o6, k6, h6, hb6⟩
        cases hr6
        (repeat (first | (with_reducible (first | refine Rt.fin ?_ | refine Rt.tL ?_ | refine Rt.tI ?_ | refine Rt.tB ?_ | refine Rt.tS ?_ | refine Rt.tP ?_ | refine Rt.tD ?_ | refine Rt.tM ?_ | refine Rt.tC ?_ | refine Rt.tN ?_ | refine Rt.tA ?_ | refine Rt.tG ?_ | refine Rt.tF ?_ | refine Rt.os ?_ | refine Rt.clS ?_ | refine Rt.jmN ?_ | refine Rt.jbN ?_ | refine Rt.jbE ?_)) | ((with_reducible (first | apply Rt.ld0 | apply Rt.ld1 | apply Rt.ld2 | apply Rt.ld3 | apply Rt.ld4 | apply Rt.ld5)); first | assumption | exact Lc.kp (by assumption) (by assumption)) | ((with_reducible apply Rt.ol); first | assumption | exact cell_kp (by assumption) (by assumption)) | ((with_reducible apply Rt.ckR); focus ((repeat (first | (with_reducible (first | refine Rt.fin ?_ | refine Rt.tL ?_ | refine Rt.tI ?_ | refine Rt.tB ?_ | refine Rt.tS ?_ | refine Rt.tP ?_ | refine Rt.tD ?_ | refine Rt.tM ?_ | refine Rt.tC ?_ | refine Rt.tN ?_ | refine Rt.tA ?_ | refine Rt.tG ?_ | refine Rt.tF ?_ | refine Rt.os ?_ | refine Rt.clS ?_ | refine Rt.jmN ?_ | refine Rt.jbN ?_ | refine Rt.jbE ?_)) | ((with_reducible (first | apply Rt.ld0 | apply Rt.ld1 | apply Rt.ld2 | apply Rt.ld3 | apply Rt.ld4 | apply Rt.ld5)); first | assumption | exact Lc.kp (by assumption) (by assumption)) | ((with_reducible apply Rt.ol); first | assumption | exact cell_kp (by assumption) (by assumption)))); exact Rt.some' rfl))))
        have hc6 : X3 ++ x.first ++ encN [(g : Int)] = X3 ++ x.first ++ enc g := by simp [encN]
        rw [hc6] at o6 ⊢
        exact Rt.some' ⟨rfl, B6, _, d6, b6, rfl, o6, by rcases h6 with h | ⟨h, _⟩ <;> omega, hb6, (k4.tr k5).tr k6, (l4.kp k5).kp k6, (hxk4.kp k5).kp k6⟩
      · (repeat (first | (with_reducible (first | refine Rt.fin ?_ | refine Rt.tL ?_ | refine Rt.tI ?_ | refine Rt.tB ?_ | refine Rt.tS ?_ | refine Rt.tP ?_ | refine Rt.tD ?_ | refine Rt.tM ?_ | refine Rt.tC ?_ | refine Rt.tN ?_ | refine Rt.tA ?_ | refine Rt.tG ?_ | refine Rt.tF ?_ | refine Rt.os ?_ | refine Rt.clS ?_ | refine Rt.jmN ?_ | refine Rt.jbN ?_ | refine Rt.jbE ?_)) | ((with_reducible (first | apply Rt.ld0 | apply Rt.ld1 | apply Rt.ld2 | apply Rt.ld3 | apply Rt.ld4 | apply Rt.ld5)); first | assumption | exact Lc.kp (by assumption) (by assumption)) | ((with_reducible apply Rt.ol); first | assumption | exact cell_kp (by assumption) (by assumption)) | ((with_reducible apply Rt.ckR); focus ((repeat (first | (with_reducible (first | refine Rt.fin ?_ | refine Rt.tL ?_ | refine Rt.tI ?_ | refine Rt.tB ?_ | refine Rt.tS ?_ | refine Rt.tP ?_ | refine Rt.tD ?_ | refine Rt.tM ?_ | refine Rt.tC ?_ | refine Rt.tN ?_ | refine Rt.tA ?_ | refine Rt.tG ?_ | refine Rt.tF ?_ | refine Rt.os ?_ | refine Rt.clS ?_ | refine Rt.jmN ?_ | refine Rt.jbN ?_ | refine Rt.jbE ?_)) | ((with_reducible (first | apply Rt.ld0 | apply Rt.ld1 | apply Rt.ld2 | apply Rt.ld3 | apply Rt.ld4 | apply Rt.ld5)); first | assumption | exact Lc.kp (by assumption) (by assumption)) | ((with_reducible apply Rt.ol); first | assumption | exact cell_kp (by assumption) (by assumption)))); exact Rt.some' rfl))))
        refine Rt.alo (k := .i64) [(g : Int)] 1 rfl rfl (by decide) fun w5 o5 k5 => ?_
        have hs5 := k5.size
        have hsd : w3.drew.heap.size = w3.heap.size := rfl
        have l5 := l3d.kp k5
        (repeat (first | (with_reducible (first | refine Rt.fin ?_ | refine Rt.tL ?_ | refine Rt.tI ?_ | refine Rt.tB ?_ | refine Rt.tS ?_ | refine Rt.tP ?_ | refine Rt.tD ?_ | refine Rt.tM ?_ | refine Rt.tC ?_ | refine Rt.tN ?_ | refine Rt.tA ?_ | refine Rt.tG ?_ | refine Rt.tF ?_ | refine Rt.os ?_ | refine Rt.clS ?_ | refine Rt.jmN ?_ | refine Rt.jbN ?_ | refine Rt.jbE ?_)) | ((with_reducible (first | apply Rt.ld0 | apply Rt.ld1 | apply Rt.ld2 | apply Rt.ld3 | apply Rt.ld4 | apply Rt.ld5)); first | assumption | exact Lc.kp (by assumption) (by assumption)) | ((with_reducible apply Rt.ol); first | assumption | exact cell_kp (by assumption) (by assumption)) | ((with_reducible apply Rt.ckR); focus ((repeat (first | (with_reducible (first | refine Rt.fin ?_ | refine Rt.tL ?_ | refine Rt.tI ?_ | refine Rt.tB ?_ | refine Rt.tS ?_ | refine Rt.tP ?_ | refine Rt.tD ?_ | refine Rt.tM ?_ | refine Rt.tC ?_ | refine Rt.tN ?_ | refine Rt.tA ?_ | refine Rt.tG ?_ | refine Rt.tF ?_ | refine Rt.os ?_ | refine Rt.clS ?_ | refine Rt.jmN ?_ | refine Rt.jbN ?_ | refine Rt.jbE ?_)) | ((with_reducible (first | apply Rt.ld0 | apply Rt.ld1 | apply Rt.ld2 | apply Rt.ld3 | apply Rt.ld4 | apply Rt.ld5)); first | assumption | exact Lc.kp (by assumption) (by assumption)) | ((with_reducible apply Rt.ol); first | assumption | exact cell_kp (by assumption) (by assumption)))); exact Rt.some' rfl))))
        have o3d := o3.dr.kp k5
        refine Rt.appO hT o3d (vf.kp (k3d.tr k5)).sl vf.nil (by omega) (by omega) fun B4 d4 w4 o4 f4 g4 => ?_
        have hs4 := g4.size
        have l4 := l5.gx g4 fun h => by have := (o3.lt _ h).1; omega
        have hxk4 := (hxk3d.kp k5).gx g4 fun h => by have := (o3.lt _ h).1; omega
        have k4 := (k3d.tr k5).tx g4 fun j hj => by have := (o3.lt _ hj).1; omega
        (repeat (first | (with_reducible (first | refine Rt.fin ?_ | refine Rt.tL ?_ | refine Rt.tI ?_ | refine Rt.tB ?_ | refine Rt.tS ?_ | refine Rt.tP ?_ | refine Rt.tD ?_ | refine Rt.tM ?_ | refine Rt.tC ?_ | refine Rt.tN ?_ | refine Rt.tA ?_ | refine Rt.tG ?_ | refine Rt.tF ?_ | refine Rt.os ?_ | refine Rt.clS ?_ | refine Rt.jmN ?_ | refine Rt.jbN ?_ | refine Rt.jbE ?_)) | ((with_reducible (first | apply Rt.ld0 | apply Rt.ld1 | apply Rt.ld2 | apply Rt.ld3 | apply Rt.ld4 | apply Rt.ld5)); first | assumption | exact Lc.kp (by assumption) (by assumption)) | ((with_reducible apply Rt.ol); first | assumption | exact cell_kp (by assumption) (by assumption)) | ((with_reducible apply Rt.ckR); focus ((repeat (first | (with_reducible (first | refine Rt.fin ?_ | refine Rt.tL ?_ | refine Rt.tI ?_ | refine Rt.tB ?_ | refine Rt.tS ?_ | refine Rt.tP ?_ | refine Rt.tD ?_ | refine Rt.tM ?_ | refine Rt.tC ?_ | refine Rt.tN ?_ | refine Rt.tA ?_ | refine Rt.tG ?_ | refine Rt.tF ?_ | refine Rt.os ?_ | refine Rt.clS ?_ | refine Rt.jmN ?_ | refine Rt.jbN ?_ | refine Rt.jbE ?_)) | ((with_reducible (first | apply Rt.ld0 | apply Rt.ld1 | apply Rt.ld2 | apply Rt.ld3 | apply Rt.ld4 | apply Rt.ld5)); first | assumption | exact Lc.kp (by assumption) (by assumption)) | ((with_reducible apply Rt.ol); first | assumption | exact cell_kp (by assumption) (by assumption)))); exact Rt.some' rfl))))
        have o5' := o5.gx g4 fun j hj hj' => by have := (o5.lt _ hj).1; have := (o3.lt _ hj').2; omega
        refine Rt.call (put_spec o4 (by omega) o5'.sl.2 (fun z hz => by simp only [List.mem_cons, List.not_mem_nil, or_false] at hz; omega) (by rw [List.length_append]; omega) (by omega) (by omega)) ?_
        rintro _ w6 ⟨B6, d6, _, b6, hr6, o6, k6, h6, hb6⟩
        cases hr6
        (repeat (first | (with_reducible (first | refine Rt.fin ?_ | refine Rt.tL ?_ | refine Rt.tI ?_ | refine Rt.tB ?_ | refine Rt.tS ?_ | refine Rt.tP ?_ | refine Rt.tD ?_ | refine Rt.tM ?_ | refine Rt.tC ?_ | refine Rt.tN ?_ | refine Rt.tA ?_ | refine Rt.tG ?_ | refine Rt.tF ?_ | refine Rt.os ?_ | refine Rt.clS ?_ | refine Rt.jmN ?_ | refine Rt.jbN ?_ | refine Rt.jbE ?_)) | ((with_reducible (first | apply Rt.ld0 | apply Rt.ld1 | apply Rt.ld2 | apply Rt.ld3 | apply Rt.ld4 | apply Rt.ld5)); first | assumption | exact Lc.kp (by assumption) (by assumption)) | ((with_reducible apply Rt.ol); first | assumption | exact cell_kp (by assumption) (by assumption)) | ((with_reducible apply Rt.ckR); focus ((repeat (first | (with_reducible (first | refine Rt.fin ?_ | refine Rt.tL ?_ | refine Rt.tI ?_ | refine Rt.tB ?_ | refine Rt.tS ?_ | refine Rt.tP ?_ | refine Rt.tD ?_ | refine Rt.tM ?_ | refine Rt.tC ?_ | refine Rt.tN ?_ | refine Rt.tA ?_ | refine Rt.tG ?_ | refine Rt.tF ?_ | refine Rt.os ?_ | refine Rt.clS ?_ | refine Rt.jmN ?_ | refine Rt.jbN ?_ | refine Rt.jbE ?_)) | ((with_reducible (first | apply Rt.ld0 | apply Rt.ld1 | apply Rt.ld2 | apply Rt.ld3 | apply Rt.ld4 | apply Rt.ld5)); first | assumption | exact Lc.kp (by assumption) (by assumption)) | ((with_reducible apply Rt.ol); first | assumption | exact cell_kp (by assumption) (by assumption)))); exact Rt.some' rfl))))
        have hc6 : X3 ++ x.first ++ encN [(g : Int)] = X3 ++ x.first ++ enc g := by simp [encN]
        rw [hc6] at o6 ⊢
        exact Rt.some' ⟨rfl, B6, _, d6, b6, rfl, o6, by rcases h6 with h | ⟨h, _⟩ <;> omega, hb6, k4.tr k6, l4.kp k6, hxk4.kp k6⟩
    · rintro ⟨ex', vs, w6⟩ ⟨h7, B6, m6, d6, b6, h8, o6, h9, h10, k6, l6, x6⟩
      dsimp only at h7 h8 o6 h10 k6 l6 x6
      subst h7 h8
      refine ⟨rfl, ?_⟩
      dsimp only
      have kd := (Kp.rfl' w6).dr
      have l6d := l6.kp kd
      have hsd : w6.drew.heap.size = w6.heap.size := rfl
      have hl6 := o6.sl.1
      have hg10 := enc_len10 (x := g) (by omega)
      have hlen6 : (X3 ++ x.first ++ enc g).length ≤ 100 + 600 * 100 + 40 + 256 + 10 := by simp only [List.length_append]; omega
      subst hl6
      (repeat (first | (with_reducible (first | refine Rt.fin ?_ | refine Rt.tL ?_ | refine Rt.tI ?_ | refine Rt.tB ?_ | refine Rt.tS ?_ | refine Rt.tP ?_ | refine Rt.tD ?_ | refine Rt.tM ?_ | refine Rt.tC ?_ | refine Rt.tN ?_ | refine Rt.tA ?_ | refine Rt.tG ?_ | refine Rt.tF ?_ | refine Rt.os ?_ | refine Rt.clS ?_ | refine Rt.jmN ?_ | refine Rt.jbN ?_ | refine Rt.jbE ?_)) | ((with_reducible (first | apply Rt.ld0 | apply Rt.ld1 | apply Rt.ld2 | apply Rt.ld3 | apply Rt.ld4 | apply Rt.ld5)); first | assumption | exact Lc.kp (by assumption) (by assumption)) | ((with_reducible apply Rt.ol); first | assumption | exact cell_kp (by assumption) (by assumption)) | ((with_reducible apply Rt.ckR); focus ((repeat (first | (with_reducible (first | refine Rt.fin ?_ | refine Rt.tL ?_ | refine Rt.tI ?_ | refine Rt.tB ?_ | refine Rt.tS ?_ | refine Rt.tP ?_ | refine Rt.tD ?_ | refine Rt.tM ?_ | refine Rt.tC ?_ | refine Rt.tN ?_ | refine Rt.tA ?_ | refine Rt.tG ?_ | refine Rt.tF ?_ | refine Rt.os ?_ | refine Rt.clS ?_ | refine Rt.jmN ?_ | refine Rt.jbN ?_ | refine Rt.jbE ?_)) | ((with_reducible (first | apply Rt.ld0 | apply Rt.ld1 | apply Rt.ld2 | apply Rt.ld3 | apply Rt.ld4 | apply Rt.ld5)); first | assumption | exact Lc.kp (by assumption) (by assumption)) | ((with_reducible apply Rt.ol); first | assumption | exact cell_kp (by assumption) (by assumption)))); exact Rt.some' rfl))))
      refine Rt.appO hT o6.dr (vl.kp (k6.tr kd)).sl vl.nil (by omega) (by omega) fun B7 d7 w7 o7 f7 g7 => ?_
      have hs7 := g7.size
      have l7 := l6d.gx g7 fun h => by have := (o6.lt _ h).1; omega
      have hx7 := (x6.kp kd).gx g7 fun h => by have := (o6.lt _ h).1; omega
      have k7 := (k6.tr kd).tx g7 fun j hj => by have := (o6.lt _ hj).1; omega
      (repeat (first | (with_reducible (first | refine Rt.fin ?_ | refine Rt.tL ?_ | refine Rt.tI ?_ | refine Rt.tB ?_ | refine Rt.tS ?_ | refine Rt.tP ?_ | refine Rt.tD ?_ | refine Rt.tM ?_ | refine Rt.tC ?_ | refine Rt.tN ?_ | refine Rt.tA ?_ | refine Rt.tG ?_ | refine Rt.tF ?_ | refine Rt.os ?_ | refine Rt.clS ?_ | refine Rt.jmN ?_ | refine Rt.jbN ?_ | refine Rt.jbE ?_)) | ((with_reducible (first | apply Rt.ld0 | apply Rt.ld1 | apply Rt.ld2 | apply Rt.ld3 | apply Rt.ld4 | apply Rt.ld5)); first | assumption | exact Lc.kp (by assumption) (by assumption)) | ((with_reducible apply Rt.ol); first | assumption | exact cell_kp (by assumption) (by assumption)) | ((with_reducible apply Rt.ckR); focus ((repeat (first | (with_reducible (first | refine Rt.fin ?_ | refine Rt.tL ?_ | refine Rt.tI ?_ | refine Rt.tB ?_ | refine Rt.tS ?_ | refine Rt.tP ?_ | refine Rt.tD ?_ | refine Rt.tM ?_ | refine Rt.tC ?_ | refine Rt.tN ?_ | refine Rt.tA ?_ | refine Rt.tG ?_ | refine Rt.tF ?_ | refine Rt.os ?_ | refine Rt.clS ?_ | refine Rt.jmN ?_ | refine Rt.jbN ?_ | refine Rt.jbE ?_)) | ((with_reducible (first | apply Rt.ld0 | apply Rt.ld1 | apply Rt.ld2 | apply Rt.ld3 | apply Rt.ld4 | apply Rt.ld5)); first | assumption | exact Lc.kp (by assumption) (by assumption)) | ((with_reducible apply Rt.ol); first | assumption | exact cell_kp (by assumption) (by assumption)))); exact Rt.some' rfl))))
      refine Rt.cO (PutO o7 (by omega) (by omega) (by omega)) fun B8 d8 w8 o8 k8 => ?_
      rw [i64_in _ (by omega), show ((i : Int) + 1) = ((i + 1 : Nat) : Int) by omega]
      have hs8 := k8.size
      have he : X3 ++ x.first ++ enc g ++ x.last ++ enc s.toNat = bs ++ encA (xs.take (i + 1)) := by
        rw [List.take_add_one, ex, ← hX]
        simp only [encA, Option.toList_some, List.map_append, List.flatten_append, List.map_cons, List.map_nil, List.flatten_cons, List.flatten_nil, List.append_nil, encR, ef, eb, ec, es, hf1, hf2, List.append_assoc]
      rw [he] at o8 ⊢
      exact ih (i + 1) j w8 B8 _ d8 w7.heap.size (by omega) (by omega) (hk.tr (k7.tr k8)) (by have := k7.size; omega) hs8 (hx7.kp k8) o8
end
end Go.Proofs.Ytdnbpgakmbamoaa.Ed

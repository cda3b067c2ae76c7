/- audit.findings: the iterator over the findings of a journal, on top of that over its views. -/
import Derived.Test.YtmhckcghfikeiaaDoorFinds0
import Derived.LoopNIn
namespace Go.Proofs.YtmhckcghfikeiaaDoor
open Go.RowKit
attribute [local irreducible] wpQuiet wpAnyH
attribute [local go_sem] Oper.semAt_some
set_option linter.unusedSimpArgs false

theorem round_any {P : Program} {n m l f : Nat} {tmps : Array Value} {assign body : Code} {w : World} {R : Ending → World → Prop} (h : RoundIn Fence.wide n P l f tmps assign body w R) : RoundIn Fence.wide m P l f tmps assign body w R :=
  ⟨trivial, fun c cs _ => h.2 c cs (room_wide _)⟩
theorem yield_any {P : Program} {n m l : Nat} {args : Array Value} {w : World} {R : Ending → World → Prop} (h : YieldAt Fence.wide n P l args w R) : YieldAt Fence.wide m P l args w R := by
  obtain ⟨fn, tmps, assign, body, h1, h2⟩ := h
  exact ⟨fn, tmps, assign, body, h1, round_any h2⟩
theorem SeqZ.any {P : Program} {α : Type} {n m g : Nat} {lb : Array Value} {encs : α → Array Value} {X Z : Terr} {all : List α} {w : World} (h : SeqZ Fence.wide n P g lb encs X Z all w) : SeqZ Fence.wide m P g lb encs X Z all w :=
  fun l J Jx T0 W a1 a2 a3 a4 a5 a6 a7 a8 a9 => callsIn_wide.2 (callsIn_wide.1 (h l J Jx T0 W a1 a2 a3 a4 a5 a6 (fun pre x T W1 b1 b2 => yield_any (a7 pre x T W1 b1 b2)) a8 a9))
theorem round_in {P : Program} {n m l l' f : Nat} {tmps : Array Value} {assign body : Code} {w : World} {R : Ending → World → Prop} (h : RoundIn Fence.wide n P l f tmps assign body w R) : RoundIn (Fence.wide.inRound l') m P l f tmps assign body w R :=
  ⟨trivial, fun c cs _ => h.2 c cs (room_wide _)⟩

def encF (x : Nat × Nat) : Array Value := #[.agg #[.string (ruleN x.1), .int .i64 x.2]]
/-- What the rounds of the inner loop lean on. -/
structure FB (ly b3 b4 rb : Nat) (w : World) : Prop where
  b3 : Blk w b3 65 #[.func (.yield ly) #[] #[]]
  b4 : Blk w b4 60 #[.slice (some ⟨rb, 0, none⟩) 5 5]
  rb : Blk w rb 64 rulesC.toArray
theorem FB.of_blocks {ly b3 b4 rb : Nat} {w w' : World} (h : FB ly b3 b4 rb w) (hb : ∀ k, k = b3 ∨ k = b4 ∨ k = rb → k < w.heap.size → w'.heap[k]? = w.heap[k]?) : FB ly b3 b4 rb w' :=
  ⟨(hb _ (.inl rfl) h.b3.lt).trans h.b3, (hb _ (.inr (.inl rfl)) h.b4.lt).trans h.b4, (hb _ (.inr (.inr rfl)) h.rb.lt).trans h.rb⟩
/-- Between two rounds of the inner loop; fs: the findings so far. -/
def FI (J : List (Nat × Nat) → Terr → World → Prop) (ly b3 b4 rb : Nat) (fs : List (Nat × Nat)) (T : Terr) (w : World) : Prop :=
  ∃ To, J fs To w ∧ (∀ x, T x ↔ To x ∨ x = ly) ∧ FB ly b3 b4 rb w ∧ (¬ To b3 ∧ ¬ To b4 ∧ ¬ To rb) ∧ ly < w.heap.size
def FM (J : List (Nat × Nat) → Terr → World → Prop) (ly b3 b4 rb : Nat) (fs : List (Nat × Nat)) (v : View) (b6 : Nat) (T : Terr) (w : World) : Prop :=
  ∃ To, J fs To w ∧ (∀ x, T x ↔ To x ∨ x = ly ∨ x = b6) ∧ FB ly b3 b4 rb w ∧ (¬ To b3 ∧ ¬ To b4 ∧ ¬ To rb) ∧ ly < w.heap.size ∧ ¬ To b6 ∧ b6 ≠ ly ∧ (b6 ≠ b3 ∧ b6 ≠ b4 ∧ b6 ≠ rb) ∧ Blk w b6 70 (viewC v).toArray
theorem FI.stab {J : List (Nat × Nat) → Terr → World → Prop} {N0 N : Nat} {Z : Terr} (hJ : Stab N0 Z J) (hN : N0 ≤ N) {ly b3 b4 rb : Nat} (h3 : b3 < N) (h4 : b4 < N) (hr : rb < N) {fs : List (Nat × Nat)} {T : Terr} {A B : World} (h : FI J ly b3 b4 rb fs T A) (hl : Lies (fun k => T k ∨ (k < N ∧ ¬ False)) A B) : FI J ly b3 b4 rb fs T B := by
  obtain ⟨To, h1, h2, h3', h4', h5⟩ := h
  refine ⟨To, hJ _ _ _ _ h1 (hl.mono fun k hk => hk.imp (fun h => (h2 k).2 (.inl h)) (fun h => ⟨by omega, id⟩)), h2, h3'.of_blocks (fun k hk hlt => hl.block k hlt (.inr ⟨by rcases hk with rfl | rfl | rfl <;> assumption, id⟩)), h4', Nat.lt_of_lt_of_le h5 hl.size⟩
theorem FM.stab {J : List (Nat × Nat) → Terr → World → Prop} {N0 N : Nat} {Z : Terr} (hJ : Stab N0 Z J) (hN : N0 ≤ N) {ly b3 b4 rb : Nat} (h3 : b3 < N) (h4 : b4 < N) (hr : rb < N) {fs : List (Nat × Nat)} {v : View} {b6 : Nat} {T : Terr} {A B : World} (h : FM J ly b3 b4 rb fs v b6 T A) (hl : Lies (fun k => T k ∨ (k < N ∧ ¬ False)) A B) : FM J ly b3 b4 rb fs v b6 T B := by
  obtain ⟨To, h1, h2, h3', h4', h5, h6, h7, h8, h9⟩ := h
  refine ⟨To, hJ _ _ _ _ h1 (hl.mono fun k hk => hk.imp (fun h => (h2 k).2 (.inl h)) (fun h => ⟨by omega, id⟩)), h2, h3'.of_blocks (fun k hk hlt => hl.block k hlt (.inr ⟨by rcases hk with rfl | rfl | rfl <;> assumption, id⟩)), h4', Nat.lt_of_lt_of_le h5 hl.size, h6, h7, h8, ?_⟩
  exact hl.blk h9 (.inl ((h2 b6).2 (.inr (.inr rfl))))
theorem vsizeA {v : View} (h : ViewOk v) : (Tryd.prog.info? 70).map (·.size) = some (viewC v).length := by rw [viewC_length h]; kernel_rfl

theorem vall_prefix {skew : Int} {l : List RowD} {pre : List (Nat × View)} {x : Nat × View} (h : pre ++ [x] <+: vall skew l) : ∃ hk : pre.length < l.length, x = (pre.length, viewAt skew l pre.length l[pre.length]) := by
  have h1 : pre.length < (vall skew l).length := by have := h.length_le; simp at this; omega
  have hk : pre.length < l.length := by rwa [vall_len] at h1
  refine ⟨hk, ?_⟩
  have h2 : (vall skew l)[pre.length] = (pre ++ [x])[pre.length]'(by simp) := (h.getElem (by simp)).symm
  rw [vall_get skew l pre.length hk] at h2
  simpa using h2.symm
theorem fs_prefix (skew : Int) (l : List RowD) (k i : Nat) (hk : k < l.length) (hi : i < 5) (hb : ruleB i (viewAt skew l k l[k]) = true) : (findK skew l k ++ brk k (viewAt skew l k l[k]) 0 i) ++ [(i, k)] <+: findL skew l := by
  have h1 : findK skew l k ++ brk k (viewAt skew l k l[k]) 0 (i + 1) = (findK skew l k ++ brk k (viewAt skew l k l[k]) 0 i) ++ [(i, k)] := by
    rw [brk_succ, if_pos hb, List.append_assoc]
  rw [← h1]
  obtain ⟨r, hr, _⟩ := findK_prefix skew l (k + 1) l.length hk
  unfold findL
  rw [hr, findK_succ skew l k hk, List.append_assoc]
  refine (List.prefix_append_right_inj _).2 (List.IsPrefix.trans ?_ (List.prefix_append _ _))
  unfold brk
  refine List.IsPrefix.map _ (List.IsPrefix.filter _ ?_)
  have hi : i = 0 ∨ i = 1 ∨ i = 2 ∨ i = 3 ∨ i = 4 := by omega
  rcases hi with rfl | rfl | rfl | rfl | rfl <;> decide
theorem ruleV_one (k : Nat) : ∀ u ∈ ruleV k, u.oneCell' = true := by
  intro u hu
  simp [ruleV] at hu
  rcases hu with rfl | rfl <;> rfl
theorem rules_at {w : World} {rb : Nat} {t : TypeId} (h : Blk w rb t rulesC.toArray) (i : Nat) (hi : i < 5) : w.rangeAt rb (i * 2) (ruleV i) := by
  have hr := h.range
  rw [List.toList_toArray] at hr
  have hi : i = 0 ∨ i = 1 ∨ i = 2 ∨ i = 3 ∨ i = 4 := by omega
  intro j u hj
  have hj2 : j < 2 := by have := (List.getElem?_eq_some_iff.1 hj).1; simpa [ruleV] using this
  have hjj : j = 0 ∨ j = 1 := by omega
  have := hr (i * 2 + j) u (by
    rcases hi with rfl | rfl | rfl | rfl | rfl <;> rcases hjj with rfl | rfl <;> exact hj)
  rw [Nat.zero_add] at this
  exact this
theorem ruleF_enters (i : Nat) (hi : i < 5) : ∀ args w, (callFunc (ruleF i) args).run Tryd.prog w = .ok (.enter (ruleF i) args) w := by
  have hi : i = 0 ∨ i = 1 ∨ i = 2 ∨ i = 3 ∨ i = 4 := by omega
  rcases hi with rfl | rfl | rfl | rfl | rfl
  · exact enters_of Tryd.func27 (by kernel_rfl) rfl
  · exact enters_of Tryd.func28 (by kernel_rfl) rfl
  · exact enters_of Tryd.func29 (by kernel_rfl) rfl
  · exact enters_of Tryd.func30 (by kernel_rfl) rfl
  · exact enters_of Tryd.func31 (by kernel_rfl) rfl
theorem Turn.wide {To T T'' : Terr} {ly b6 : Nat} {W wr wY : World} (h : Turn T W (fun x => To x ∨ x = ly ∨ x = b6) wr) (k : Turn (fun x => To x ∨ x = ly) wr T'' wY) (hs : W.heap.size ≤ wr.heap.size) : Turn T W (fun x => T'' x ∨ x = ly ∨ x = b6) wY := by
  refine ⟨k.os.trans h.os, k.tape.trans h.tape, k.output.trans h.output, Nat.le_trans h.size k.size, fun i hi ht => ?_, fun i hi => ?_⟩
  · refine (k.block i (by omega) (fun hx => ?_)).trans (h.block i hi ht)
    rcases h.sub i (hx.elim .inl (fun e => .inr (.inl e))) with h1 | h1
    · exact ht h1
    · omega
  · rcases hi with hi | hi
    · rcases k.sub i hi with h1 | h1
      · exact h.sub i (h1.elim .inl (fun e => .inr (.inl e)))
      · exact .inr (by omega)
    · exact h.sub i (.inr hi)

set_option maxRecDepth 100000 in
set_option maxHeartbeats 4000000 in
theorem finds_seq (skew : Int) (l : List RowD) (A : Option Addr) (cap g1 g2 : Nat) (w : World) (h1 : Cap2 w g1 g2 skew A l.length cap)
    (hs : Sn w 36 (.slice A l.length cap) l.length (l.flatMap rowC)) (hok : ∀ r ∈ l, RowOk r) (hsk : isI64 skew) (hl : l.length ≤ 1000000) (hAl : ∀ b off, A = some ⟨b, off, none⟩ → b < w.heap.size) :
    SeqZ Fence.wide 9 Tryd.prog 24 #[.pointer (some ⟨g1, 0, none⟩), .pointer (some ⟨g2, 0, none⟩)] encF (XV g1 g2 A) (fun _ => False) (findL skew l) w := by
  intro ly J Jx T0 W hW hly1 hly2 hJ hJx hJT hY hT0 h0
  have hB1 := h1.b1.keep hW
  have hB2 := h1.b2.keep hW
  have hsW := hs.below hW
  have c1 := hB1.cell 0
  have c2 := hB2.cell 0
  simp only [List.getElem?_toArray, List.getElem?_cons_zero] at c1 c2
  have hT1 : ∀ b off, A = some ⟨b, off, none⟩ → ¬ T0 b := fun b off e ht => hT0 b ht (.inr (.inr ⟨b, off, e, rfl⟩))
  have hg1 : g1 < W.heap.size := hB1.lt
  have hg2 : g2 < W.heap.size := hB2.lt
  have HTL := Lib.hid (hJT _ _ _ h0)
  have HSW := Lib.hid hsW
  have HOK := Lib.hid hok
  have HH0 := Lib.hid h0
  have HAL := Lib.hid hAl
  clear h1 hs hsW hok hB1 hB2 h0 hAl
  refine callsIn_of_wp_marks Tryd.func24 rfl trivial ?_ rfl
  simp only [Tryd.ntmps24, List.size_toArray, List.length_cons, List.length_nil, Nat.reduceAdd, Nat.reduceSub, Array.replicate_succ, Array.replicate_zero, List.push_toArray, List.append_toArray, List.nil_append, List.cons_append]
  refine wpIn_wide.2 ?_
  go_wp2_with fail
  refine (rules_any _).mono ?_
  rintro e w1 ⟨rfl, hR1, hb1, hz1⟩
  have hb01 : Below W.heap.size W w1 := bstep (bel1 W _) hb1
  have c1' := Below.cell' hb01 c1
  have c2' := Below.cell' hb01 c2
  have HB3 : Hid (Blk w1 W.heap.size 65 #[.func (.yield ly) #[] #[]]) := Lib.hid ((Blk.new W _ _).keep hb1)
  have HR1 := Lib.hid hR1
  have HB01 := Lib.hid hb01
  have hsz01 := hb01.size
  clear hR1 hb1 hb01 c1 c2
  have hz1' : w1.heap.size = W.heap.size + 2 := by rw [hz1]; simp
  have HZ1 := Lib.hid hz1'
  have hg1' : g1 < w1.heap.size := by omega
  have hg2' : g2 < w1.heap.size := by omega
  clear hz1 hz1'
  go_wp2_with fail
  refine (views_any skew A l.length cap _).mono ?_
  rintro e w2 ⟨q1, q2, rfl, hc2, hb2, hq1, hq2⟩
  go_wp2_with fail
  obtain ⟨b3, hb3⟩ : ∃ n, n = W.heap.size := ⟨_, rfl⟩
  obtain ⟨b4, hb4⟩ : ∃ n, n = w1.heap.size := ⟨_, rfl⟩
  have hrbe : (W.alloc (.cells #[.func (.yield ly) #[] #[]] 65)).heap.size = W.heap.size + 1 := by simp
  obtain ⟨rb, hrb⟩ : ∃ n, n = W.heap.size + 1 := ⟨_, rfl⟩
  obtain ⟨wk, hwk⟩ : ∃ x, x = w1.alloc (.cells #[.slice (some ⟨W.heap.size + 1, 0, none⟩) 5 5] 60) := ⟨_, rfl⟩
  have hk1 : Below w1.heap.size w1 wk := by rw [hwk]; exact bel1 _ _
  have hB4 : Blk wk b4 60 #[.slice (some ⟨rb, 0, none⟩) 5 5] := by rw [hwk, hb4, hrb]; exact Blk.new _ _ _
  have hzk : wk.heap.size = w1.heap.size + 1 := by rw [hwk]; simp
  rw [← hwk] at hb2 hq1 hq2
  have HZ := Lib.hid (show b3 = W.heap.size ∧ rb = W.heap.size + 1 ∧ b4 = W.heap.size + 2 ∧ wk.heap.size = W.heap.size + 3 by have := HZ1.out; omega)
  have HFB : Hid (FB ly b3 b4 rb w2) := Lib.hid (by
    have e3 : Blk wk b3 65 #[.func (.yield ly) #[] #[]] := by rw [hb3]; exact HB3.out.keep hk1
    have er : Blk wk rb 64 rulesC.toArray := by
      have := HR1.out
      rw [hrbe, ← hrb] at this
      exact this.keep hk1
    exact ⟨e3.keep hb2, hB4.keep hb2, er.keep hb2⟩)
  have hb02 : Below W.heap.size W w2 := bstep (bstep HB01.out hk1) hb2
  have hsz2 : W.heap.size + 3 ≤ w2.heap.size := by have := hb2.size; have := HZ.out; omega
  have HS2 := Lib.hid (HSW.out.below hb02)
  have HAL2 : Hid (∀ b off, A = some ⟨b, off, none⟩ → b < w2.heap.size) := Lib.hid fun b off e => by have := HAL.out b off e; have := hW.size; omega
  have HC2 := Lib.hid hc2
  have HJ2 : Hid (J [] T0 w2) := Lib.hid (hJ _ _ _ _ HH0.out (Lies.of_below hb02))
  have HQ := Lib.hid (And.intro hq1 hq2)
  rw [← hrb, ← hb3, ← hb4]
  clear hb3 hb4 hrb hrbe hwk hk1 hB4 hzk hb2 hq1 hq2 hc2 HB3 HR1 HB01 hb02 HZ1 HSW HH0 c1' c2'
  have hne : b3 ≠ b4 ∧ b3 ≠ rb ∧ b4 ≠ rb ∧ ly < b3 ∧ ly < b4 ∧ ly < rb ∧ b3 < w2.heap.size ∧ b4 < w2.heap.size ∧ rb < w2.heap.size := by have := HZ.out; omega
  have hzv : ∀ w, (zeroValue 70).run Tryd.prog w = .ok (.agg (viewC (boxV 0 ⟨false, 0, 0, [], false, 0⟩ zrow false)).toArray) w := fun w => by kernel_rfl
  have HZV := Lib.hid hzv
  have hzr : ∀ w, (zeroValue 64).run Tryd.prog w = .ok (.agg #[.string ByteArray.empty, .nilFunc]) w := fun w => by kernel_rfl
  have HZR := Lib.hid hzr
  clear hzv hzr
  refine (wpIn_wide (n := 9)).1 ?_
  refine wpIn_rangeFunc_Z (w0 := w2) (all := vall skew l) (encs := encV) (Z := fun _ => False) (X := XV q1 q2 A) rfl (fun h => by cases h) (gf := 32) (lb := #[.pointer (some ⟨q1, 0, none⟩), .pointer (some ⟨q2, 0, none⟩)]) rfl trivial (enters_of Tryd.func32 (by kernel_rfl) rfl)
    (SeqZ.any (views_seq skew l A cap q1 q2 w2 HC2.out.b1 HC2.out.b2 HS2.out HOK.out hsk hl HAL2.out)) (Below.refl _ _) (fun _ => rfl) (fun _ h => h.elim)
    (fun pre T W' => FI J ly b3 b4 rb (findK skew l pre.length) T W')
    (fun c pre T W' => c = .ret ∧ ∃ fs To, fs <+: findL skew l ∧ Jx fs To W' ∧ ∀ x, To x → T x)
    (fun pre x a' T W' => ∃ b6, a' = { tmps := #[.func (.yield ly) #[] #[], .pointer (some ⟨g1, 0, none⟩), .pointer (some ⟨g2, 0, none⟩), .pointer (some ⟨b3, 0, none⟩), .pointer (some ⟨b4, 0, none⟩), .int .i64 x.1, .pointer (some ⟨b6, 0, none⟩), undef, undef, .slice (some ⟨rb, 0, none⟩) 5 5, .int .i64 skew, .slice A l.length cap, .func (.func 32) #[] #[.pointer (some ⟨q1, 0, none⟩), .pointer (some ⟨q2, 0, none⟩)], .int .i64 x.1, .agg (viewC x.2).toArray, undef, undef, undef, undef, undef, undef, undef, undef, undef, undef, undef, undef, undef, undef, undef, undef, undef, undef, undef, undef], defers := [] } ∧ FM J ly b3 b4 rb (findK skew l pre.length) x.2 b6 T W')
    (fun x => T0 x ∨ x = ly)
    (fun s T A' B h hli => FI.stab hJ (by omega) hne.2.2.2.2.2.2.1 hne.2.2.2.2.2.2.2.1 hne.2.2.2.2.2.2.2.2 h hli)
    (fun c s T A' B h hli => by
      obtain ⟨hc, fs, To, h1, h2, h3⟩ := h
      exact ⟨hc, fs, To, h1, hJx _ _ _ _ h2 (hli.mono fun k hk => hk.imp (h3 k) (fun h => ⟨by omega, h.2⟩)), h3⟩)
    (fun pre x a' _ T A' B h hli => by
      obtain ⟨b6, ha, hf⟩ := h
      exact ⟨b6, ha, hf.stab hJ (by omega) hne.2.2.2.2.2.2.1 hne.2.2.2.2.2.2.2.1 hne.2.2.2.2.2.2.2.2 hli⟩)
    (fun s T A' h k hk => by
      obtain ⟨To, h1, h2, _, _, h5⟩ := h
      rcases (h2 k).1 hk with h | rfl
      · exact hJT _ _ _ h1 k h
      · exact h5)
    (fun k hk hx => by
      have hz := HZ.out
      have hq := HQ.out
      rcases hk with hk | rfl
      · rcases hx with rfl | rfl | ⟨b, off, e, rfl⟩
        · have := HTL.out _ hk; omega
        · have := HTL.out _ hk; omega
        · exact hT1 _ _ e hk
      · rcases hx with rfl | rfl | ⟨b, off, e, rfl⟩
        · omega
        · omega
        · have := HAL.out _ _ e; omega)
    ⟨T0, HJ2.out, fun _ => Iff.rfl, HFB.out, ⟨fun h => absurd (HTL.out _ h) (by have := HZ.out; omega), fun h => absurd (HTL.out _ h) (by have := HZ.out; omega), fun h => absurd (HTL.out _ h) (by have := HZ.out; omega)⟩, by omega⟩
    ?assign ?body ?done ?stop
  case assign =>
    rintro ln pre ⟨xi, xv⟩ T W' hl hpre hsz ⟨To, hj, hT, hfb, hno, hly⟩
    obtain ⟨hk, hx⟩ := vall_prefix hpre
    have hvo : ViewOk xv := by injection hx with _ h2; rw [h2]; exact view_ok HOK.out skew hsk _ hk
    have HVO := Lib.hid hvo
    have HOne := Lib.hid (viewC_one xv)
    clear hx hvo hpre
    dsimp only [encV]
    gi_wp2_with (first
      | (refine iAl 70 _ rfl (round_fn _) rfl HZV.out ?_)
      | (refine iStNew 70 (.tmp 6) (.tmp 14) rfl (round_fn _) rfl (by rfl) (by rfl) (by rw [List.size_toArray, viewC_length HVO.out]; kernel_rfl) (by rw [List.size_toArray, List.size_toArray, viewC_length HVO.out]; kernel_rfl) (all_oneCell_toArray HOne.out) ?_; intro wN hN))
    have hbN : Below W'.heap.size W' wN := by rw [hN]; exact bel1 _ _
    have hBN : Blk wN W'.heap.size 70 (viewC xv).toArray := by rw [hN]; exact Blk.new _ _ _
    have htl := hJT _ _ _ hj
    refine ⟨fun k => T k ∨ k = W'.heap.size, (Turn.of_below hbN).grow (fun k hk => hk.imp id (fun h => by omega)), W'.heap.size, rfl, To, hJ _ _ _ _ hj (Lies.of_below hbN), fun x => ?_, hfb.of_blocks (fun k _ hlt => hbN.block k hlt), hno, Nat.lt_of_lt_of_le hly hbN.size, fun h => absurd (htl _ h) (by omega), by omega, ⟨?_, ?_, ?_⟩, hBN⟩
    · show T x ∨ x = W'.heap.size ↔ _
      rw [hT x, or_assoc]
    · have := hfb.b3.lt; omega
    · have := hfb.b4.lt; omega
    · have := hfb.rb.lt; omega
  case body =>
    rintro ln pre ⟨xi, v⟩ a' T W' hl hpre hsz ⟨b6, rfl, hF⟩
    obtain ⟨hk, hx⟩ := vall_prefix hpre
    injection hx with hx1 hx2
    subst hx1
    have hvo : ViewOk v := by rw [hx2]; exact view_ok HOK.out skew hsk _ hk
    have HVO := Lib.hid hvo
    have HX := Lib.hid hx2
    clear hvo hx2 hpre
    have hF' := hF
    obtain ⟨To0, _, hTT, hfb, _⟩ := hF'
    have c4 := hfb.b4.cell 0
    simp only [List.getElem?_toArray, List.getElem?_cons_zero] at c4
    have HF := Lib.hid hF
    have HTT := Lib.hid hTT
    clear hF hfb hTT
    gi_wp2_with fail
    gi_loopw [17] (fun j wr => ∃ (i : Nat) (Tc : Terr), i ≤ 5 ∧ j = .int .i64 i ∧ Hid (Turn T W' Tc wr) ∧ Hid (FM J ly b3 b4 rb (findK skew l pre.length ++ brk pre.length v 0 i) v b6 Tc wr)) (fun j _ => 5 - (intOf j).toNat)
    case atStart => exact ⟨0, T, by omega, rfl, Lib.hid (Turn.refl _ _), Lib.hid (by have := HF.out; unfold brk; simpa using this)⟩
    case round =>
      obtain ⟨i, Tc, hi, rfl, HT, HM⟩ := hrel
      rcases Nat.lt_or_ge i 5 with hlt | hge
      · obtain ⟨To, hj, hT2, hfb2, hno2, hly', h6, h6l, h6n, hB6⟩ := HM.out
        have hRB := rules_at hfb2.rb i hlt
        have HRB := Lib.hid hRB
        have HB6 := Lib.hid hB6
        have HFB2 := Lib.hid hfb2
        have HJ2 := Lib.hid hj
        have HT2 := Lib.hid hT2
        have hlt6 := hB6.lt
        have hltr := hfb2.rb.lt
        have hlt3 := hfb2.b3.lt
        have hi0 : (0 : Int) ≤ i := by omega
        have hi1 : (i : Int) < 5 := by omega
        clear hj hT2 hfb2 hB6 hRB
        have hcf : ∀ args w, (callFunc (ruleF i) args).run Tryd.prog w = .ok (.enter (ruleF i) args) w := ruleF_enters i hlt
        gi_wp2_with (first
          | (refine iLd 64 (.tmp 19) rfl (round_fn _) rfl (by rfl) HRB.out Tryd.underlying64 rfl (by kernel_rfl) ?_)
          | (refine iLd 70 (.tmp 6) rfl (round_fn _) rfl (by rfl) HR6.out Tryd.underlying70 rfl (vsizeA HVO.out) ?_)
          | (refine iAl 64 _ rfl (round_fn _) rfl HZR.out ?_)
          | (refine iStNew 64 (.tmp 8) (.tmp 20) rfl (round_fn _) rfl (by rfl) (by rfl) (by kernel_rfl) (by rfl) (all_oneCell_toArray (ruleV_one i)) ?_; intro wN hN; have hbN : Below wr.heap.size wr wN := (by rw [hN]; exact bel1 _ _); have hBN : Blk wN wr.heap.size 64 (ruleV i).toArray := (by rw [hN]; exact Blk.new _ _ _); have HBN := Lib.hid hBN; have c80 := hBN.cell 0; have c81 := hBN.cell 1; simp only [List.getElem?_toArray, ruleV, List.getElem?_cons_zero, List.getElem?_cons_succ] at c80 c81; have HR6 : Hid (wN.rangeAt b6 0 (viewC v)) := Lib.hid (by have h := (HB6.out.keep hbN).range; rw [List.toList_toArray] at h; exact h); clear hN hBN))
        refine ⟨trivial, (inR ln (rule_any i v wN HVO.out)).mono ?_⟩
        rintro e wX ⟨rfl, hbX⟩
        have d80 := Below.cell' hbX c80
        have hbRX : Below wr.heap.size wr wX := bstep hbN hbX
        have d3 := (HFB2.out.b3.keep hbRX).cell 0
        simp only [List.getElem?_toArray, List.getElem?_cons_zero] at d3
        have HJX : Hid (J (findK skew l pre.length ++ brk pre.length v 0 i) To wX) := Lib.hid (hJ _ _ _ _ HJ2.out (Lies.of_below hbRX))
        have HFX : Hid (FB ly b3 b4 rb wX) := Lib.hid (HFB2.out.of_blocks fun k _ hlt => hbRX.block k hlt)
        have HBX : Hid (Blk wX b6 70 (viewC v).toArray) := Lib.hid (HB6.out.keep hbRX)
        have HTX : Hid (Turn T W' (fun x => To x ∨ x = ly ∨ x = b6) wX) := Lib.hid ((HT.out.trans (Turn.of_below hbRX)).grow fun k hk => .inl ((HT2.out k).2 hk))
        have hszX := hbRX.size
        clear c80 c81 hbX hbN hbRX HBN HR6 hcf
        rcases Bool.eq_false_or_eq_true (ruleB i v) with hb | hb
        · have HB := Lib.hid hb
          have hpf : (findK skew l pre.length ++ brk pre.length v 0 i) ++ [(i, pre.length)] <+: findL skew l := by
            have := HB.out
            rw [HX.out] at this ⊢
            exact fs_prefix skew l pre.length i hk hlt this
          obtain ⟨fn, tmps, assign, body, hy, hR⟩ := hY _ _ To wX hpf HJX.out
          have HPF := Lib.hid hpf
          clear hpf
          dsimp only [encF] at hy
          gi_wp2_with fail
          refine RoundIn.mono (round_in hR) ?_
          rintro e wY ⟨T2, hT', ⟨rfl, hJY⟩ | ⟨rfl, hJY⟩⟩
          · have htw := Turn.wide HTX.out hT' HTX.out.size
            have hTn : ∀ x, ¬ To x → x ≠ ly → x < wX.heap.size → ¬ T2 x := fun x h1 h2 h3 h4 => (hT'.sub x h4).elim (fun h => h.elim h1 h2) (fun h => by omega)
            have hMY : FM J ly b3 b4 rb (findK skew l pre.length ++ brk pre.length v 0 (i + 1)) v b6 (fun x => T2 x ∨ x = ly ∨ x = b6) wY := by
              refine ⟨T2, ?_, fun _ => Iff.rfl, ?_, ⟨?_, ?_, ?_⟩, ?_, ?_, h6l, h6n, ?_⟩
              · rw [brk_succ, if_pos HB.out, ← List.append_assoc]; exact hJY
              · refine HFX.out.of_blocks fun k hk hlt => hT'.block k hlt ?_
                rintro (h | h)
                · rcases hk with rfl | rfl | rfl
                  · exact hno2.1 h
                  · exact hno2.2.1 h
                  · exact hno2.2.2 h
                · omega
              · exact hTn _ hno2.1 (by omega) HFX.out.b3.lt
              · exact hTn _ hno2.2.1 (by omega) HFX.out.b4.lt
              · exact hTn _ hno2.2.2 (by omega) HFX.out.rb.lt
              · have := hT'.size; omega
              · exact hTn _ h6 h6l HBX.out.lt
              · exact hT'.blk HBX.out (fun h => h.elim h6 h6l)
            have HMY := Lib.hid hMY
            have HTW := Lib.hid htw
            clear hMY htw hTn hT' hR hy hJY
            gi_wp2_with fail
            exact ⟨⟨i + 1, _, by omega, by go_num, HTW, HMY⟩, by simp [intOf]; omega⟩
          · have htw := Turn.wide HTX.out hT' HTX.out.size
            have HTW := Lib.hid htw
            have HJY := Lib.hid hJY
            clear htw hT' hR hy hJY
            gi_wp2_with fail
            exact ⟨_, HTW.out, rfl, _, T2, HPF.out, HJY.out, fun x hx => .inl hx⟩
        · have HB := Lib.hid hb
          have HMX : Hid (FM J ly b3 b4 rb (findK skew l pre.length ++ brk pre.length v 0 (i + 1)) v b6 (fun x => To x ∨ x = ly ∨ x = b6) wX) := Lib.hid (by
            refine ⟨To, ?_, fun _ => Iff.rfl, HFX.out, hno2, by omega, h6, h6l, h6n, HBX.out⟩
            rw [brk_succ, if_neg (by rw [HB.out]; exact Bool.false_ne_true), List.append_nil]
            exact HJX.out)
          gi_wp2_with fail
          refine ⟨fun _ h => (by cases h), ?_⟩
          gi_wp2_with fail
          exact ⟨⟨i + 1, _, by omega, by go_num, HTX, HMX⟩, by simp [intOf]; omega⟩
      · obtain rfl : i = 5 := by omega
        obtain ⟨To, hj, hT2, hfb2, hno2, hly', h6, h6l, h6n, hB6⟩ := HM.out
        have HE : Hid (∃ T', Turn T W' T' wr ∧ FI J ly b3 b4 rb (findK skew l (pre ++ [((pre.length : Nat), v)]).length) T' wr) := Lib.hid (by
          refine ⟨fun x => To x ∨ x = ly, HT.out.grow (fun k hk => .inl ((hT2 k).2 (hk.elim .inl (fun e => .inr (.inl e))))), To, ?_, fun _ => Iff.rfl, hfb2, hno2, hly'⟩
          rw [List.length_append, List.length_singleton, findK_succ skew l pre.length hk, ← HX.out]
          exact hj)
        clear hj hT2 hfb2 hB6
        gi_wp2_with fail
        exact HE.out
  case done =>
    rintro D T W' hD ⟨To, hj, hT, hfb, hno, hly⟩ hnD hKd
    rw [vall_len] at hj
    have HJ := Lib.hid hj
    have HD : Hid (J (findL skew l) To (W'.putObj D (.deferred none))) := Lib.hid (hJ _ _ _ _ hj (Lies.putObj _ _ (fun h => h.elim (fun h => hnD ((hT D).2 (.inl h))) (fun h => by omega)) _))
    have hrun := run_takeDeferred (P := Tryd.prog) hKd
    clear hj hKd
    gi_wp2_with fail
    refine ⟨by simp, .inl ⟨_, _, rfl, hrun, ?_⟩⟩
    exact ⟨_, results_none rfl _ _ _, ⟨_, rfl⟩, To, .inl HD.out⟩
  case stop =>
    rintro D c pre T W' hD hpre ⟨rfl, fs, To, h1, h2, h3⟩ hnD hKd
    have HD : Hid (Jx fs To (W'.putObj D (.deferred none))) := Lib.hid (hJx _ _ _ _ h2 (Lies.putObj _ _ (fun h => h.elim (fun h => hnD (h3 D h)) (fun h => by omega)) _))
    have hrun := run_takeDeferred (P := Tryd.prog) hKd
    have H1 := Lib.hid h1
    clear h1 h2 h3 hKd hpre
    gi_wp2_with fail
    refine ⟨by simp, .inl ⟨_, _, rfl, hrun, ?_⟩⟩
    exact ⟨_, results_none rfl _ _ _, ⟨_, rfl⟩, To, .inr ⟨fs, H1.out, HD.out⟩⟩
end Go.Proofs.YtmhckcghfikeiaaDoor

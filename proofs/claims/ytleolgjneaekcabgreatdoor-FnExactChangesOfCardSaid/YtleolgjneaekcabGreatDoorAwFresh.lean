/-
  AW, part 34: results that share no memory, put together out of parts.
-/
import Derived.Test.YtleolgjneaekcabGreatDoorAwMark2
namespace Go.AW
set_option linter.unusedVariables false
set_option linter.unusedSimpArgs false

/-- A tree whose rows lie from lo on, below hi. -/
structure FreshB (lo hi : Nat) (H : List Row) (a r : AV) : Prop where
  out : ∃ n fs, Own H n a r fs ∧ fs.Nodup ∧ ∀ l ∈ fs, lo ≤ l ∧ l < hi
structure FreshLB (lo hi : Nat) (H : List Row) (as rs : List AV) : Prop where
  out : ∃ n fs, OwnL (Own H n) as rs fs ∧ fs.Nodup ∧ ∀ l ∈ fs, lo ≤ l ∧ l < hi
structure FreshLLB (lo hi : Nat) (H : List Row) (es rs : List (List AV)) : Prop where
  out : ∃ n fs, OwnLL (Own H n) es rs fs ∧ fs.Nodup ∧ ∀ l ∈ fs, lo ≤ l ∧ l < hi
section
variable {lo hi mid : Nat} {H H' : List Row} {a r : AV} {as rs as' rs' : List AV} {es ds : List (List AV)}
theorem Fresh.b (h : Fresh lo H a r) : FreshB lo H.length H a r := by
  obtain ⟨n, fs, h1, h2, h3⟩ := h
  exact ⟨n, fs, h1, h2, fun l hl => ⟨h3 l hl, h1.lt l hl⟩⟩
theorem FreshB.fresh (h : FreshB lo hi H a r) : Fresh lo H a r := by
  obtain ⟨n, fs, h1, h2, h3⟩ := h
  exact ⟨n, fs, h1, h2, fun l hl => (h3 l hl).1⟩
theorem FreshB.keep (hk : ∀ l, lo ≤ l → l < hi → H'[l]? = H[l]?) (h : FreshB lo hi H a r) : FreshB lo hi H' a r := by
  obtain ⟨n, fs, h1, h2, h3⟩ := h
  exact ⟨n, fs, h1.keep fun l hl => hk l (h3 l hl).1 (h3 l hl).2, h2, h3⟩
theorem FreshLB.keep (hk : ∀ l, lo ≤ l → l < hi → H'[l]? = H[l]?) (h : FreshLB lo hi H as rs) : FreshLB lo hi H' as rs := by
  obtain ⟨n, fs, h1, h2, h3⟩ := h
  exact ⟨n, fs, OwnL.mono (fun a r g hg ho => ho.keep fun l hl => hk l (h3 l (hg l hl)).1 (h3 l (hg l hl)).2) h1, h2, h3⟩
theorem FreshLLB.keep (hk : ∀ l, lo ≤ l → l < hi → H'[l]? = H[l]?) (h : FreshLLB lo hi H es ds) : FreshLLB lo hi H' es ds := by
  obtain ⟨n, fs, h1, h2, h3⟩ := h
  exact ⟨n, fs, OwnLL.mono (fun a r g hg ho => ho.keep fun l hl => hk l (h3 l (hg l hl)).1 (h3 l (hg l hl)).2) h1, h2, h3⟩
theorem FreshB.widen {lo' hi' : Nat} (h1 : lo' ≤ lo) (h2 : hi ≤ hi') (h : FreshB lo hi H a r) : FreshB lo' hi' H a r := by
  obtain ⟨n, fs, q1, q2, q3⟩ := h
  exact ⟨n, fs, q1, q2, fun l hl => by have := q3 l hl; omega⟩
theorem FreshLB.widen {lo' hi' : Nat} (h1 : lo' ≤ lo) (h2 : hi ≤ hi') (h : FreshLB lo hi H as rs) : FreshLB lo' hi' H as rs := by
  obtain ⟨n, fs, q1, q2, q3⟩ := h
  exact ⟨n, fs, q1, q2, fun l hl => by have := q3 l hl; omega⟩
theorem FreshLLB.widen {lo' hi' : Nat} (h1 : lo' ≤ lo) (h2 : hi ≤ hi') (h : FreshLLB lo hi H es ds) : FreshLLB lo' hi' H es ds := by
  obtain ⟨n, fs, q1, q2, q3⟩ := h
  exact ⟨n, fs, q1, q2, fun l hl => by have := q3 l hl; omega⟩
theorem FreshB.mkval (lo hi : Nat) (H : List Row) (v : Value) : FreshB lo hi H (.val v) (.val v) := ⟨1, [], Own.mk_val H 0 v, List.nodup_nil, by simp⟩
theorem FreshB.mknil (lo hi : Nat) (H : List Row) (sz : Nat) : FreshB lo hi H (.val (.slice none 0 0)) (.list 0 sz []) := ⟨1, [], ⟨rfl, .inr ⟨rfl, _, rfl⟩⟩, List.nodup_nil, by simp⟩
theorem FreshLB.nil (lo hi : Nat) (H : List Row) : FreshLB lo hi H [] [] := ⟨0, [], ⟨rfl, rfl⟩, List.nodup_nil, by simp⟩
theorem FreshLLB.nil (lo hi : Nat) (H : List Row) : FreshLLB lo hi H [] [] := ⟨0, [], ⟨rfl, rfl⟩, List.nodup_nil, by simp⟩
theorem FreshLB.cons (h1 : FreshB lo mid H a r) (h2 : FreshLB mid hi H as rs) (hm : lo ≤ mid ∧ mid ≤ hi) : FreshLB lo hi H (a :: as) (r :: rs) := by
  obtain ⟨n, fs, p1, p2, p3⟩ := h1
  obtain ⟨m, gs, q1, q2, q3⟩ := h2
  refine ⟨n + m, fs ++ gs, ⟨r, rs, fs, gs, rfl, rfl, Own.up (by omega) p1, OwnL.up (by omega) q1⟩, ?_, fun l hl => ?_⟩
  · rw [List.nodup_append]
    exact ⟨p2, q2, fun x hx y hy => by have := p3 x hx; have := q3 y hy; omega⟩
  · rcases List.mem_append.1 hl with q | q
    · have := p3 l q; omega
    · have := q3 l q; omega
theorem FreshLB.val (v : Value) (h2 : FreshLB lo hi H as rs) : FreshLB lo hi H (.val v :: as) (.val v :: rs) := by
  obtain ⟨m, gs, q1, q2, q3⟩ := h2
  exact ⟨m + 1, gs, ⟨.val v, rs, [], gs, rfl, rfl, Own.mk_val _ _ _, OwnL.up (by omega) q1⟩, q2, q3⟩
theorem FreshLLB.snoc (h1 : FreshLLB lo mid H es ds) (h2 : FreshLB mid hi H as rs) (hm : lo ≤ mid ∧ mid ≤ hi) : FreshLLB lo hi H (es ++ [as]) (ds ++ [rs]) := by
  obtain ⟨n, fs, p1, p2, p3⟩ := h1
  obtain ⟨m, gs, q1, q2, q3⟩ := h2
  refine ⟨n + m, fs ++ gs, ?_, ?_, fun l hl => ?_⟩
  · have p1' := OwnLL.up (Nat.le_add_right n m) p1
    have q1' := OwnL.up (Nat.le_add_left m n) q1
    clear p1 q1 p2 p3 q2 q3
    induction es generalizing ds fs with
    | nil =>
      obtain ⟨rfl, rfl⟩ := p1'
      exact ⟨rs, [], gs, [], rfl, by simp, q1', rfl, rfl⟩
    | cons e es ih =>
      obtain ⟨d, ds', f, f', rfl, rfl, g1, g2⟩ := p1'
      exact ⟨d, ds' ++ [rs], f, f' ++ gs, rfl, by simp, g1, ih _ g2⟩
  · rw [List.nodup_append]
    exact ⟨p2, q2, fun x hx y hy => by have := p3 x hx; have := q3 y hy; omega⟩
  · rcases List.mem_append.1 hl with q | q
    · have := p3 l q; omega
    · have := q3 l q; omega
theorem FreshB.agg (h : FreshLB lo hi H as rs) : FreshB lo hi H (.agg as) (.agg rs) := by
  obtain ⟨n, fs, p1, p2, p3⟩ := h
  exact ⟨n + 1, fs, ⟨rs, p1, rfl⟩, p2, p3⟩
theorem FreshB.tup (h : FreshLB lo hi H as rs) : FreshB lo hi H (.tup as) (.tup rs) := by
  obtain ⟨n, fs, p1, p2, p3⟩ := h
  exact ⟨n + 1, fs, ⟨rs, p1, rfl⟩, p2, p3⟩
theorem FreshB.unagg (h : FreshB lo hi H (.agg as) (.agg rs)) : FreshLB lo hi H as rs := by
  obtain ⟨n, fs, p1, p2, p3⟩ := h
  cases n with
  | zero => exact p1.elim
  | succ n =>
    obtain ⟨ds, q1, q2⟩ := p1
    cases q2
    exact ⟨n, fs, q1, p2, p3⟩
theorem FreshB.untup (h : FreshB lo hi H (.tup as) (.tup rs)) : FreshLB lo hi H as rs := by
  obtain ⟨n, fs, p1, p2, p3⟩ := h
  cases n with
  | zero => exact p1.elim
  | succ n =>
    obtain ⟨ds, q1, q2⟩ := p1
    cases q2
    exact ⟨n, fs, q1, p2, p3⟩
/-- A slice over a row of its own. -/
theorem FreshB.mkown {lo' l k : Nat} {E : Tag} {sz : Nat} (h : FreshLLB lo hi H es ds) (hl : H[l]? = some ⟨E, sz, es⟩) (hk : es.length = k) (h1 : lo' ≤ l) (h2 : l < lo) (h3 : lo ≤ hi) : FreshB lo' hi H (.own l k) (.list 0 sz ds) := by
  obtain ⟨n, fs, p1, p2, p3⟩ := h
  refine ⟨n + 1, l :: fs, ⟨⟨E, sz, es⟩, ds, fs, hl, hk, p1, rfl, rfl⟩, ?_, fun x hx => ?_⟩
  · rw [List.nodup_cons]
    exact ⟨fun q => by have := p3 l q; omega, p2⟩
  · rcases List.mem_cons.1 hx with q | q
    · subst q; omega
    · have := p3 x q; omega
theorem FreshLLB.ofVals (lo hi : Nat) (H : List Row) : ∀ (es : List (List AV)), (∀ e ∈ es, ∀ c ∈ e, ∃ v, c = .val v) → FreshLLB lo hi H es es
  | [], _ => .nil lo hi H
  | e :: es, h => by
    obtain ⟨n, fs, p1, p2, p3⟩ := FreshLLB.ofVals lo hi H es (fun x hx => h x (by simp [hx]))
    have he : ∀ (cs : List AV), (∀ c ∈ cs, ∃ v, c = .val v) → OwnL (Own H (n + 1)) cs cs [] := by
      intro cs
      induction cs with
      | nil => intro _; exact ⟨rfl, rfl⟩
      | cons c cs ih =>
        intro hc
        obtain ⟨v, rfl⟩ := hc c (by simp)
        exact ⟨_, _, [], [], rfl, rfl, Own.mk_val _ _ _, ih fun x hx => hc x (by simp [hx])⟩
    exact ⟨n + 1, fs, ⟨e, es, [], fs, rfl, rfl, he e (h e (by simp)), OwnLL.up (by omega) p1⟩, p2, p3⟩
/-- Arguments: trees that are read. -/
theorem FreshB.arg (h : FreshB lo hi H a r) : ArgOwn H a r := by
  obtain ⟨n, fs, h1, _⟩ := h
  exact .inr ⟨n, fs, h1⟩
theorem ArgsOwn.two {b q : AV} (h1 : ArgOwn H a r) (h2 : ArgOwn H b q) : ArgsOwn H [a, b] [r, q] := ⟨_, _, rfl, h1, _, _, rfl, h2, rfl⟩
theorem ArgsOwn.one (h1 : ArgOwn H a r) : ArgsOwn H [a] [r] := ⟨_, _, rfl, h1, rfl⟩
theorem ArgOwn.same (hp : a.plain = true) : ArgOwn H a a := .inl ⟨rfl, hp⟩
theorem ArgsOwn.cons (h1 : ArgOwn H a r) (h2 : ArgsOwn H as rs) : ArgsOwn H (a :: as) (r :: rs) := ⟨_, _, rfl, h1, h2⟩
theorem ArgsOwn.nil : ArgsOwn H [] [] := rfl
end
/-- A function that is given no row, whatever way its result is read. -/
theorem pure_callG {P : Program} {f : FuncId} {args : List AV} {R : AV → Prop} (D : AV → List Row → AV → Prop) (hD : ∀ (S : Sit) (h : List Row) (w : World) (a r : AV) (x : Value), Models S h w → Rep S a x → D a h r → Rep (S.shut w) r x) (hp : args.all AV.plain = true) (hw : callSem P f args [] fun av h' => ∃ r, D av h' r ∧ R r) (h : List Row) (K : AV → List Row → Prop) (hk : ∀ r, R r → K r h) : callSem P f args h K := by
  intro S w vals hm hgl hr
  have hm0 : Models S.still [] w := ⟨hm.imm, rfl, by simp [Sit.still], by simp [Sit.still]⟩
  refine (hw S.still w vals hm0 hgl (plainL_still hp hr)).mono ?_
  rintro e w' ⟨v, av, S1, h1, rfl, st, hm1, rv, r, hres, hR⟩
  have rr := hD S1 h1 w' av r v hm1 rv hres
  have hnone : ∀ b, ¬ S.still.owns b := by
    rintro b ⟨l, i, q, _⟩
    simp [Sit.still] at q
  have hblk : ∀ b, b < w.heap.size → w'.heap[b]? = w.heap[b]? := fun b hb => st.block b hb (hnone b)
  have hown1 : ∀ b, S1.owns b → w.heap.size ≤ b := fun b hb => by
    rcases st.ownNew b hb with q | q
    · exact absurd q (hnone b)
    · exact q
  have himm1 : ∀ b c, S1.imm b = some c → S.imm b = some c ∨ w.heap.size ≤ b := fun b c hb => by
    rcases st.immNew b c hb with q | q | q
    · exact .inl q
    · exact absurd q (hnone b)
    · exact .inr q
  have hshut : ∀ b c, (S1.shut w').imm b = some c → S.imm b = some c ∨ w.heap.size ≤ b := by
    intro b c hb
    simp only [Sit.shut] at hb
    split at hb
    · rename_i hq
      exact .inr (hown1 b (ownsB_iff.1 hq))
    · exact himm1 b c hb
  have hle : S.le { imm := (S1.shut w').imm, rows := S.rows } := by
    refine ⟨fun b c e => ?_, fun l i e => ⟨i, e, Nat.le_refl _, fun _ => rfl⟩⟩
    exact (shut_le hm1).imm b c (st.le.imm b c e)
  refine ⟨v, r, { imm := (S1.shut w').imm, rows := S.rows }, h, rfl, ⟨hle, st.os, st.tape, st.output, st.size, fun b hb _ => hblk b hb, fun b q => .inl q, fun b c q => ?_⟩, ⟨fun b c q => ?_, hm.len, fun l i rw q1 q2 => ?_, hm.one⟩, ?_, hk r hR⟩
  · rcases hshut b c q with q | q
    · exact .inl q
    · exact .inr (.inr q)
  · simp only [Sit.shut] at q
    split at q
    · split at q
      · rename_i c' E fr hb
        simp at q; subst q
        exact ⟨E, fr, hb⟩
      · simp at q
    · exact hm1.imm b c q
  · obtain ⟨k1, k2, k3, k4⟩ := hm.rows l i rw q1 q2
    refine ⟨k1, k2, k3, ?_⟩
    cases hb : i.blk with
    | none => rw [hb] at k4; exact k4
    | some b =>
      rw [hb] at k4
      have j1 := k4.1
      have hlt := hm.ownLt ⟨l, i, q1, hb⟩
      refine ⟨?_, k4.2.le hle (hblk b hlt)⟩
      cases q : (S1.shut w').imm b with
      | none => rfl
      | some d =>
        rcases hshut b d q with q' | q'
        · rw [j1] at q'; cases q'
        · omega
  · have hl2 : (S1.shut w').le { imm := (S1.shut w').imm, rows := S.rows } := ⟨fun _ _ e => e, by simp [Sit.shut]⟩
    exact Rep.up hl2 _ _ rr

theorem FreshCall.pure {P : Program} {f : FuncId} {args : List AV} {r : AV} {Q : AV → Prop} (hc : FreshCall P f args r Q) (hp : args.all AV.plain = true) (h : List Row) : PureCall P f args h r := by
  intro K hk
  refine pure_callG (R := fun x => x = r) (fun a h r => ∃ n fs, Own h n a r fs) (fun S h w a r x hm rx ⟨n, fs, ho⟩ => Own.rep hm n a x r fs rx ho) hp ?_ h K (by rintro _ rfl; exact hk)
  refine hc [] _ (fun av hn hf hq => ?_)
  obtain ⟨n, fs, h1, _⟩ := hf
  exact ⟨r, ⟨n, fs, h1⟩, rfl⟩
/-- The same, read over trees of the caller's own. -/
theorem PureCall.own {P : Program} {f : FuncId} {as rs : List AV} {H : List Row} {v : Value} (hc : ∀ h, PureCall P f rs h (.val v)) (ha : ArgsOwn H as rs) : PureCall P f as H (.val v) := fun _ hk => own_call hc ha hk
theorem FreshLB.app {lo mid hi : Nat} {H : List Row} {as rs as' rs' : List AV} (h1 : FreshLB lo mid H as rs) (h2 : FreshLB mid hi H as' rs') (hm : lo ≤ mid ∧ mid ≤ hi) : FreshLB lo hi H (as ++ as') (rs ++ rs') := by
  obtain ⟨n, fs, p1, p2, p3⟩ := h1
  obtain ⟨m, gs, q1, q2, q3⟩ := h2
  refine ⟨n + m, fs ++ gs, ?_, ?_, fun l hl => ?_⟩
  · have p1' := OwnL.up (Nat.le_add_right n m) p1
    have q1' := OwnL.up (Nat.le_add_left m n) q1
    clear p1 q1 p2 p3 q2 q3
    induction as generalizing rs fs with
    | nil =>
      obtain ⟨rfl, rfl⟩ := p1'
      exact q1'
    | cons e es ih =>
      obtain ⟨d, ds', f, f', rfl, rfl, g1, g2⟩ := p1'
      exact ⟨d, ds' ++ rs', f, f' ++ gs, rfl, by simp, g1, ih _ g2⟩
  · rw [List.nodup_append]
    exact ⟨p2, q2, fun x hx y hy => by have := p3 x hx; have := q3 y hy; omega⟩
  · rcases List.mem_append.1 hl with q | q
    · have := p3 l q; omega
    · have := q3 l q; omega
theorem pre_rows {h a b m t : List Row} {l : Nat} (hab : a.length = b.length) (h1 : h.length + b.length ≤ l) (h2 : l < (h ++ (b ++ m)).length) : (h ++ (a ++ (m ++ t)))[l]? = (h ++ (b ++ m))[l]? := by
  simp only [List.length_append] at h2
  have e1 : (h ++ (a ++ (m ++ t)))[l]? = m[l - h.length - a.length]? := by
    rw [List.getElem?_append_right (by omega), List.getElem?_append_right (by omega), List.getElem?_append_left (by omega)]
  have e2 : (h ++ (b ++ m))[l]? = m[l - h.length - b.length]? := by
    rw [List.getElem?_append_right (by omega), List.getElem?_append_right (by omega)]
  rw [e1, e2, hab]
theorem fresh_round {h0 rest hn : List Row} {r r' : Row} {done ds : List (List AV)} {cs rs : List AV} (h1 : FreshLLB (h0.length + 1) (h0 ++ r :: rest).length (h0 ++ r :: rest) done ds) (h2 : Fresh (h0 ++ r :: rest).length ((h0 ++ r :: rest) ++ hn) (.agg cs) (.agg rs)) :
    FreshLLB (h0.length + 1) (h0 ++ r' :: (rest ++ hn)).length (h0 ++ r' :: (rest ++ hn)) (done ++ [cs]) (ds ++ [rs]) := by
  have e : (h0 ++ r :: rest) ++ hn = h0 ++ ([r] ++ (rest ++ hn)) := by simp
  have e' : h0 ++ r' :: (rest ++ hn) = h0 ++ ([r'] ++ (rest ++ hn)) := rfl
  refine FreshLLB.snoc (mid := (h0 ++ r :: rest).length) (h1.keep fun l q1 q2 => ?_) (((h2.b.unagg).keep fun l q1 q2 => ?_).widen (Nat.le_refl _) (by simp)) (by first | (simp; done) | (simp; omega))
  · exact pre_rows (a := [r']) (b := [r]) (m := rest) (t := hn) rfl q1 q2
  · rw [e] at q2 ⊢
    rw [e']
    have := pre_rows (h := h0) (a := [r']) (b := [r]) (m := rest ++ hn) (t := []) rfl (l := l) (by simp at q1 ⊢; omega) q2
    rwa [List.append_nil] at this
theorem fresh_done {h0 rest : List Row} {E : Tag} {sz n : Nat} {done ds : List (List AV)} (h1 : FreshLLB (h0.length + 1) (h0 ++ ⟨E, sz, done⟩ :: rest).length (h0 ++ ⟨E, sz, done⟩ :: rest) done ds) (hn : done.length = n) : Fresh h0.length (h0 ++ ⟨E, sz, done⟩ :: rest) (.own h0.length n) (.list 0 sz ds) :=
  (FreshB.mkown h1 (by rw [getA0]; rfl) hn (Nat.le_refl _) (Nat.lt_succ_self _) (by simp)).fresh
theorem fresh_agg {base : Nat} {H : List Row} {as rs : List AV} (h : FreshLB base H.length H as rs) : Fresh base H (.agg as) (.agg rs) := (FreshB.agg h).fresh
theorem pre3 {h0 m hn t M : List Row} {x1 x2 x3 y1 y2 y3 : Row} {l : Nat} (hM : M = m ++ (hn ++ t)) (h1 : (h0 ++ y1 :: y2 :: y3 :: m).length ≤ l) (h2 : l < ((h0 ++ y1 :: y2 :: y3 :: m) ++ hn).length) : (h0 ++ x1 :: x2 :: x3 :: M)[l]? = ((h0 ++ y1 :: y2 :: y3 :: m) ++ hn)[l]? := by
  subst hM
  have e : (h0 ++ y1 :: y2 :: y3 :: m) ++ hn = h0 ++ ([y1, y2, y3] ++ (m ++ hn)) := by simp
  rw [e] at h2 ⊢
  have := pre_rows (h := h0) (a := [x1, x2, x3]) (b := [y1, y2, y3]) (m := m ++ hn) (t := t) rfl (l := l) (by simp at h1 ⊢; omega) h2
  rw [List.append_assoc] at this
  exact this
end Go.AW

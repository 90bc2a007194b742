/-
 Contracts of functions of this program, over abstract values. Conditions: as each theorem says.
-/
import Derived.Test.YtfplhbjggecnpaaGreatDoorFnUB
import Derived.Test.YtfplhbjggecnpaaGreatDoorAwC
namespace Go.Proofs.YtfplhbjggecnpaaGreatDoor
open Go.AW
set_option linter.unusedVariables false
set_option linter.unusedSimpArgs false
set_option maxRecDepth 4000
def Ah_ : LC :=
 .seq (.ops [.ki 4 0]) (.seq (.seq (.ops [.m 6 0, .ll 7 6, .ki 8 0]) (.block 0 (.loop (.seq (.ops [.bb 9 .lss false 8 7]) (.seq (.cond (.tmp 9) .skip (.exit 0)) (.seq (.block 1 (.seq (.ops [.m 10 8, .m 5 10]) (.seq (.ops
 [.m 11 1, .m 12 0, .m 13 5, .ia 14 3 12 13, .ld 15 3 14, .s 16 (.callv (.tmp 11) [.tmp 15])]) (.cond (.tmp 16) (.seq (.ops [.m 17 5, .m 4 17]) .ret) .skip)))) (.ops [.bk 18 .add false 8 1, .m 8 18]))))))) (.seq (.ops [.s
 4 (.mov (.const (.int .i64 (-1))))]) .ret))
def vF_ : LF := ⟨2, 19, Ah_, [.tmp 4]⟩
theorem xb_ : at_ Tryz.prog Tryz.f214 vF_ := ah_
theorem f2_ {lo E l m : Nat} {H : List Row} {ts : List Tr} (s : bF_ lo H E 3 l m ts) (p : Tr → Bool) (G : Nat) (caps : List AV) (hm : m ≤ 1048576) (hc : ck_ Tryz.prog G = true)
 (hp : ∀ H' : List Row, H.length ≤ H'.length → (∀ x, x < H.length → x ≠ l → H'[x]? = H[x]?) → ∀ t ∈ ts.take m, lV_ Tryz.prog G (.agg t.c :: caps) H' (.val (.bool (p t)))) : lV_ Tryz.prog 214 [.sub l ts.length 0 m, .fn G [] caps] H (.val (.int .i64 (bZ_ p (ts.take m) 0))) := by
 intro K hk
 refine bq_ mixed Tryz.func214 xb_ (cg_ rfl ?_)
 have hr := s.row
 have hle := s.le
 simp (disch := omega) only [vF_, Ah_, hr, Nat.sub_zero, go_sem, reduceCtorEq, Int.reduceNeg, ↓reduceIte]
 refine aK_ (fun n t h => ∃ k : Nat, t 0 = .sub l ts.length 0 m ∧ t 1 = .fn G [] caps ∧ t 7 = .val (.int .i64 m) ∧ t 8 = .val (.int .i64 k) ∧ aI_ H h ∧ n = m - k ∧ k ≤ m ∧ bZ_ p (ts.take m) 0 = bZ_ p ((ts.take m).drop k) k) m ⟨0, rfl, rfl, rfl, rfl, aI_.refl _, rfl, Nat.zero_le _, rfl⟩ ?_
 rintro J hJ n t h ⟨k, t0, t1, t7, t8, hM, rfl, hk', hS⟩
 have hr := hM.at hr
 by_cases hlt : k < m
 ·have hlt2 : k < ts.length := by omega
  have hlt3 : k < (ts.take m).length := by rw [List.length_take]; omega
  rw [hb_ p _ k hlt3, List.getElem_take] at hS
  have hw := (s.wide ts[k] (List.getElem_mem hlt2)).1
  have htk : ts[k].c.take 3 = ts[k].c := List.take_of_length_le (by omega)
  simp (disch := omega) only [t0, t1, t7, t8, hr, hlt, hw, htk, hc, Int.zero_add, go_sem, Nat.reduceEqDiff, reduceCtorEq, Int.reduceNeg, ↓reduceIte]
  refine hp _ hM.len (fun x q1 _ => hM.kept x q1) _ (kj_ hlt hlt2) _ (fun H2 m2 => ?_)
  cases q : p ts[k]
  ·simp (disch := omega) only [t8, aB_, go_sem, Nat.reduceEqDiff, Int.reduceNeg, ↓reduceIte]
   exact ⟨m - (k + 1), by omega, hJ _ _ _ ⟨k + 1, by simp [upd, t0], by simp [upd, t1], by simp [upd, t7], by simp [upd], hM.trans m2, rfl, by omega, by rw [hS, q]; rfl⟩⟩
  ·simp (disch := omega) only [go_sem, Nat.reduceEqDiff, Int.reduceNeg, ↓reduceIte]
   rw [hS, q] at hk
   exact hk _ (hM.trans m2)
 ·simp (disch := omega) only [t7, t8, hlt, go_sem, Int.reduceNeg, ↓reduceIte]
  rw [hS, e7_ _ _ _ (by rw [List.length_take]; omega)] at hk
  exact hk _ hM
def y4_ : LC :=
 .seq (.ops [.s 4 (.mov (.const (.slice none 0 0)))]) (.seq (.ops [.m 8 0, .m 9 1, .c2 10 214 8 9, .m 5 10]) (.seq (.seq (.ops [.m 11 5, .s 12 (.bin .eql false (.tmp 11) (.const (.int .i64 (-1))))]) (.cond (.tmp 12) (.seq
 (.ops [.m 13 0, .m 4 13]) .ret) .skip)) (.seq (.seq (.ops [.m 14 5, .bk 15 .add false 14 1, .m 6 15]) (.block 0 (.loop (.seq (.seq (.ops [.m 16 6, .m 17 0, .ll 18 17, .bb 19 .lss false 16 18]) (.cond (.tmp 19) .skip
 (.exit 0))) (.seq (.block 1 (.seq (.ops [.m 22 0, .m 23 6, .ia 24 3 22 23, .ld 25 3 24, .s 7 (.alloc 112 (.agg #[.string ⟨#[]⟩, .slice none 0 0, .string ⟨#[]⟩])), .st 3 7 25]) (.seq (.ops [.m 26 1, .ld 27 3 7, .s 28
 (.callv (.tmp 26) [.tmp 27]), .nt 29 28]) (.cond (.tmp 29) (.seq (.ops [.m 30 0, .m 31 5, .ld 32 3 7, .ia 33 3 30 31, .st 3 33 32]) (.ops [.m 34 5, .bk 35 .add false 34 1, .m 5 35])) .skip)))) (.ops [.m 20 6, .bk 21 .add
 false 20 1, .m 6 21])))))) (.seq (.ops [.m 36 0, .m 37 5, .s 38 (.sliceSl 3 (.tmp 36) (some (.tmp 37)) none), .z (.clear 112 3 (.agg #[.string ⟨#[]⟩, .slice none 0 0, .string ⟨#[]⟩]) (.tmp 38))]) (.seq (.ops [.m 39 0, .m
 40 5, .s 41 (.sliceSl 3 (.tmp 39) none (some (.tmp 40))), .m 4 41]) .ret)))))
def vA_ : LF := ⟨2, 42, y4_, [.tmp 4]⟩
theorem z8_ : at_ Tryz.prog Tryz.f185 vA_ := ah_
theorem dz_ {lo l m : Nat} {H : List Row} {ts : List Tr} (s : bF_ lo H 112 3 l m ts) (p : Tr → Bool) (G : Nat) (caps : List AV) (hm : m ≤ 1048576) (hc : ck_ Tryz.prog G = true)
 (hp : ∀ H' : List Row, H.length ≤ H'.length → (∀ x, x < H.length → x ≠ l → H'[x]? = H[x]?) → ∀ t ∈ ts.take m, lV_ Tryz.prog G (.agg t.c :: caps) H' (.val (.bool (p t)))) {K : AV → List Row → Prop}
 (hk : ∀ (H' : List Row) (m' : Nat) (ts' : List Tr), H.length ≤ H'.length → (∀ x, x < H.length → x ≠ l → H'[x]? = H[x]?) → bF_ lo H' 112 3 l m' ts' → ts'.length = ts.length → (∀ x, x ∈ b4_ l ts' → x ∈ b4_ l ts) → ts'.take m' = (ts.take m).filter (fun t => !p t) → K (.sub l ts'.length 0 m') H') :
 callSem Tryz.prog 185 [.sub l ts.length 0 m, .fn G [] caps] H K := by
 refine bq_ mixed Tryz.func185 z8_ (cg_ rfl ?_)
 have hr := s.row
 have hle := s.le
 have hll := s.lt
 simp (disch := omega) only [vA_, y4_, go_sem, Nat.reduceEqDiff, reduceCtorEq, Int.reduceNeg, ↓reduceIte]
 refine f2_ s p G caps hm hc hp _ (fun H0 m0 => ?_)
 have l0 := m0.len
 rcases jb_ p (ts.take m) 0 with ⟨h1, h2⟩ | ⟨i0, hi0, h1, h2, h3⟩
 ·rw [h1]
  simp (disch := omega) only [go_sem, reduceCtorEq, Int.reduceNeg, ↓reduceIte]
  refine hk H0 m ts l0 (fun x q _ => m0.kept x q) (s.more m0) rfl (fun _ q => q) (List.filter_eq_self.2 fun a ha => by rw [h2 a ha]; rfl).symm
 rw [List.length_take] at hi0
 rw [List.getElem_take] at h2
 have hneg : (((0 + i0 : Nat) : Int) = -1) = False := eq_false (by omega)
 rw [h1]
 simp (disch := omega) only [Nat.zero_add, aB_, go_sem, Nat.reduceEqDiff, reduceCtorEq, Int.reduceNeg, ↓reduceIte]
 have hkept0 : (ts.take (i0 + 1)).filter (fun t => !p t) = ts.take i0 := by
  rw [List.take_succ_eq_append_getElem (by omega), List.filter_append]
  have e1 : (ts.take i0).filter (fun t => !p t) = ts.take i0 := List.filter_eq_self.2 fun a ha => by
   obtain ⟨j, hj, rfl⟩ := List.mem_iff_getElem.1 ha
   rw [List.length_take] at hj
   have := h3 j (by omega)
   rw [List.getElem_take] at this
   rw [List.getElem_take, this]; rfl
  rw [e1]; simp [h2]
 refine aK_ (fun n t h => ∃ (j : Nat) (kept W : List Tr), t 0 = .sub l ts.length 0 m ∧ t 1 = .fn G [] caps ∧ t 5 = .val (.int .i64 kept.length) ∧ t 6 = .val (.int .i64 j) ∧ H.length ≤ h.length ∧ (∀ x, x < H.length → x ≠ l → h[x]? = H[x]?) ∧ h[l]? = some ⟨.ty 112, 3, W.map Tr.c⟩ ∧
  kept = (ts.take j).filter (fun t => !p t) ∧ W.length = ts.length ∧ W.take kept.length = kept ∧ W.drop kept.length = ts.drop kept.length ∧ kept.length ≤ j ∧ n = m - j ∧ j ≤ m) (m - (i0 + 1)) ⟨i0 + 1, ts.take i0, ts, rfl, rfl, by simp [upd]; omega, by simp [upd], l0, fun x q _ => m0.kept x q, m0.at hr, hkept0.symm, rfl, by rw [List.length_take, Nat.min_eq_left (by omega)], rfl, by rw [List.length_take]; omega, rfl, by omega⟩ ?_
 rintro J hJ n t h ⟨j, kept, W, t0, t1, t5, t6, hl, hkeep, hrow, hkp, hW, hW1, hW2, hkj, rfl, hj⟩
 have gl : l < h.length := by omega
 by_cases hlt : j < m
 ·have hlt2 : j < ts.length := by omega
  have hlt3 : j < W.length := by omega
  have hlk : kept.length < W.length := by omega
  have hlkm : kept.length < m := by omega
  have hWj : W[j] = ts[j] := by
   have := congrArg (fun q => q[j - kept.length]?) hW2
   simp only [List.getElem?_drop] at this
   rw [Nat.add_sub_of_le hkj, List.getElem?_eq_getElem hlt3, List.getElem?_eq_getElem hlt2] at this
   exact Option.some.inj this
  have hWk : W[kept.length] = ts[kept.length] := by
   have := congrArg (fun q => q[0]?) hW2
   simp only [List.getElem?_drop, Nat.add_zero] at this
   rw [List.getElem?_eq_getElem hlk, List.getElem?_eq_getElem (by omega)] at this
   exact Option.some.inj this
  obtain ⟨hw, hw2⟩ := s.wide ts[j] (List.getElem_mem hlt2)
  have htk : ts[j].c.take 3 = ts[j].c := List.take_of_length_le (by omega)
  have hwk := (s.wide ts[kept.length] (List.getElem_mem (by omega))).1
  have hdk : ts[kept.length].c.drop 3 = [] := List.drop_eq_nil_of_le (by omega)
  have htk2 := fun u => List.take_succ_eq_append_getElem (l := ts) (i := u)
  simp (disch := (first | omega | (simp only [ls_, la_, lc_, ln_]; first | done | omega))) only [a6_, go_sem, Nat.reduceEqDiff, Nat.reduceAdd, reduceCtorEq, ↓reduceIte, t0, t1, t6, hrow, hlt, hW, hWj, hw, hw2, htk, hc, Nat.sub_zero, Int.zero_add]
  refine hp _ (by simp; omega) (fun x q1 q2 => by (repeat (first | rw [a9_ (by omega)] | rw [aS_ (by first | omega | (simp only [ls_, la_, lc_, ln_]; omega))])); exact hkeep x q1 q2) _ (kj_ hlt hlt2) _ (fun H2 m2 => ?_)
  have l2 := m2.len
  simp only [la_, lc_, ln_] at l2
  have rw2 := m2.at (aC_ hrow)
  have rw3 := m2.at (j9_ h _)
  cases q : p ts[j]
  ·simp (disch := (first | omega | (simp only [ls_, la_, lc_, ln_]; first | done | omega))) only [go_sem, Nat.reduceEqDiff, reduceCtorEq, ↓reduceIte, t0, t5, t6, rw2, rw3, hlkm, hW, hWk, hw, hw2, htk, hwk, hdk, Int.zero_add, aB_]
   have e1 : (ts.take (j + 1)).filter (fun t => !p t) = kept ++ [ts[j]] := by rw [htk2 j hlt2, List.filter_append, ← hkp]; simp [q]
   refine ⟨m - (j + 1), by omega, hJ _ _ _ ⟨j + 1, kept ++ [ts[j]], W.set kept.length ts[j], by simp [upd, t0], by simp [upd, t1], by simp [upd], by simp [upd], by (try simp only [ls_]); omega, fun x q1 q2 => ?_, ?_, e1.symm, by simp [hW], ?_, ?_, by simp; omega, rfl, by omega⟩⟩
   ·rw [a9_ (by omega), m2.kept x (by simp; omega), aS_ (by omega)]; exact hkeep x q1 q2
   ·rw [bf_ (by omega), List.map_set]
   ·rw [la_, List.length_singleton, List.take_succ_eq_append_getElem (by simpa using hlk), List.getElem_set_self, List.take_set_of_le (Nat.le_refl _), hW1]
   ·rw [la_, List.length_singleton, List.drop_set_of_lt (by omega), ← List.drop_drop, hW2, List.drop_drop]
  ·simp (disch := (first | omega | (simp only [ls_, la_, lc_, ln_]; first | done | omega))) only [go_sem, Nat.reduceEqDiff, ↓reduceIte, t6, aB_]
   have e1 : (ts.take (j + 1)).filter (fun t => !p t) = kept := by rw [htk2 j hlt2, List.filter_append, ← hkp]; simp [q]
   refine ⟨m - (j + 1), by omega, hJ _ _ _ ⟨j + 1, kept, W, by simp [upd, t0], by simp [upd, t1], by simp [upd, t5], by simp [upd], by omega, fun x q1 q2 => ?_, ?_, e1.symm, hW, hW1, hW2, by omega, rfl, by omega⟩⟩
   ·rw [m2.kept x (by simp; omega), aS_ (by omega)]; exact hkeep x q1 q2
   ·exact rw2
 have e : j = m := by omega
 subst e
 have zc : List AV := [.val (.string (txt [])), .val (.slice none 0 0), .val (.string (txt []))]
 have hz : (W.map Tr.c).take kept.length ++ (List.replicate (j - kept.length) [.val (.string (txt [])), .val (.slice none 0 0), .val (.string (txt []))] ++ (W.map Tr.c).drop j) = (kept ++ (List.replicate (j - kept.length) (⟨[.val (.string (txt [])), .val (.slice none 0 0), .val (.string (txt []))], [.val (.string (txt [])), .val (.slice none 0 0), .val (.string (txt []))], []⟩ : Tr) ++ ts.drop j)).map Tr.c := by
  have e2 : W.drop j = ts.drop j := by
   have := congrArg (List.drop (j - kept.length)) hW2
   rwa [List.drop_drop, List.drop_drop, Nat.add_sub_of_le hkj] at this
  rw [List.map_append, List.map_append, List.map_replicate, ← List.map_take, ← List.map_drop, hW1, e2]
 have hz2 : (kept ++ (List.replicate (j - kept.length) (⟨[.val (.string (txt [])), .val (.slice none 0 0), .val (.string (txt []))], [.val (.string (txt [])), .val (.slice none 0 0), .val (.string (txt []))], []⟩ : Tr) ++ ts.drop j)).length = ts.length := by
  simp only [la_, List.length_replicate, List.length_drop]; omega
 have hkt := hkj
 generalize hts : kept ++ (List.replicate (j - kept.length) (⟨[.val (.string (txt [])), .val (.slice none 0 0), .val (.string (txt []))], [.val (.string (txt [])), .val (.slice none 0 0), .val (.string (txt []))], []⟩ : Tr) ++ ts.drop j) = ts' at hz hz2
 simp (disch := (first | omega | (simp only [ls_, la_, lc_, ln_]; first | done | omega))) only [bf_, go_sem, Nat.reduceEqDiff, reduceCtorEq, ↓reduceIte, t0, t5, t6, hrow, hlt, hW, hle, hkt, hz, hz2, Nat.sub_zero]
 have hold : (kept ++ ts.drop j).Sublist ts := by
  have : (ts.take j ++ ts.drop j).Sublist ts := by rw [List.take_append_drop]; exact List.Sublist.refl _
  exact (List.Sublist.append (by rw [hkp]; exact List.filter_sublist) (List.Sublist.refl _)).trans this
 have hnil : ∀ x, x ∉ ((List.replicate (j - kept.length) (⟨[.val (.string (txt [])), .val (.slice none 0 0), .val (.string (txt []))], [.val (.string (txt [])), .val (.slice none 0 0), .val (.string (txt []))], []⟩ : Tr)).map Tr.f).flatten := by
  intro x hx
  obtain ⟨f, q1, q2⟩ := List.mem_flatten.1 hx
  obtain ⟨y, q3, rfl⟩ := List.mem_map.1 q1
  rw [(List.mem_replicate.1 q3).2] at q2
  cases q2
 have hfin : bF_ lo (h.set l ⟨.ty 112, 3, ts'.map Tr.c⟩) 112 3 l kept.length ts' := by
  refine s.renew (l' := l) (new := List.replicate (j - kept.length) (⟨[.val (.string (txt [])), .val (.slice none 0 0), .val (.string (txt []))], [.val (.string (txt [])), .val (.slice none 0 0), .val (.string (txt []))], []⟩ : Tr)) (old := kept ++ ts.drop j) (bf_ gl) (by omega) ?_ hold (fun t ht => by rw [(List.mem_replicate.1 ht).2]; exact ⟨rfl, rfl⟩) ⟨1, fun t ht => ?_⟩ ?_ (fun x hx => absurd hx (hnil x)) (fun x hx => ?_) (.inl rfl) (by simpa using hl)
  ·rw [← hts]
   exact (List.perm_append_comm_assoc _ _ _)
  ·rw [(List.mem_replicate.1 ht).2]
   repeat (first | exact ⟨rfl, rfl⟩ | refine ⟨_, _, [], [], rfl, rfl, ⟨rfl, .inl rfl⟩, ?_⟩)
  ·rw [List.eq_nil_iff_forall_not_mem.2 hnil]; exact List.nodup_nil
  ·have h5 : x ≠ l := fun e => (List.nodup_cons.1 s.one).1 (e ▸ hx)
   have h6 := (s.lows x (List.mem_cons_of_mem _ hx)).2
   rw [a9_ (by omega)]; exact hkeep x h6 h5
 have := hk _ kept.length ts' (by simpa using hl) (fun x q1 q2 => by rw [a9_ (by omega)]; exact hkeep x q1 q2) hfin hz2 ?_ (by rw [← hts, List.take_left', hkp]; rfl)
 ·rw [hz2] at this; exact this
 ·intro x hx
  rw [← hts] at hx
  rcases List.mem_cons.1 hx with q | q
  ·subst q; simp [b4_]
  ·obtain ⟨f, q1, q2⟩ := List.mem_flatten.1 q
   obtain ⟨y, q3, rfl⟩ := List.mem_map.1 q1
   rcases List.mem_append.1 q3 with q4 | q4
   ·exact i0_ (hold.subset (List.mem_append_left _ q4)) q2
   ·rcases List.mem_append.1 q4 with q5 | q5
    ·rw [(List.mem_replicate.1 q5).2] at q2; cases q2
    ·exact i0_ (List.mem_of_mem_drop q5) q2
def kR_ (d : List AV) : ac_ := match d with
 | [.val (.string n), .list _ _ es, .val (.string v)] => ⟨n, es.map (fun e => match e with | [.val (.string s)] => s | _ => txt []), v⟩
 | _ => ⟨txt [], [], txt []⟩
theorem k3_ (a : ac_) : kR_ (ac_.cells a) = a := by
 have : (a.Subs.map ar_).map (fun e => match e with | [.val (.string s)] => s | _ => txt []) = a.Subs := by
  rw [List.map_map]
  conv => rhs; rw [← List.map_id a.Subs]
  exact List.map_congr_left fun x _ => rfl
 show (⟨a.Name, (a.Subs.map ar_).map _, a.Value⟩ : ac_) = a
 rw [this]
def x0_ : LC :=
 .seq (.ops [.s 3 (.box 112 (.tmp 0)), .s 4 (.mov (.const (.bool false)))]) (.seq (.ops [.ld 5 3 3, .ln 6 1, .ln 7 2, .c3 8 187 5 6 7, .m 4 8]) .ret)
def uS_ : LF := ⟨3, 9, x0_, [.tmp 4]⟩
theorem zq_ : at_ Tryz.prog Tryz.f186 uS_ := ah_
theorem iE_ (a : ac_) (n : ByteArray) (s : List ByteArray) (ha : ac_.sz a ≤ 1048576) (h : List Row) : aa_ Tryz.prog 186 [.agg (ac_.cells a), .iptr [.val (.string n)], .iptr [.list 0 1 (s.map ar_)]] h (.val (.bool (inN n s a))) := by
 refine aj_ mixed Tryz.func186 zq_ rfl rfl ?_ h
 have hin : ∀ H, aa_ Tryz.prog 187 [.agg [.val (.string a.Name), .list 0 1 (a.Subs.map ar_), .val (.string a.Value)], .val (.string n), .list 0 1 (s.map ar_)] H (.val (.bool (inN n s a))) := fun H => h3_ a n s ha H
 simp (disch := omega) only [uS_, x0_, ac_.cells, go_sem, Nat.reduceEqDiff, Nat.reduceAdd, ↓reduceIte]
 refine aa_.call (hin _) ?_
 simp (disch := omega) only [go_sem, ↓reduceIte]
 exact ae_ _ _
def up_ : LC :=
 .seq (.ops [.s 4 (.box 9 (.tmp 1)), .s 5 (.box 72 (.tmp 2))]) (.ops [.m 6 0, .m 7 0, .nc 8 7, .fa 9 0 8, .ln 10 9, .s 11 (.mkFunc 186 [] [.tmp 4, .tmp 5]), .c2 12 185 10 11, .nc 13 6, .fa 14 0 13, .st 1 14 12])
def qv_ : LF := ⟨3, 15, up_, []⟩
theorem Aj_ : at_ Tryz.prog Tryz.f146 qv_ := ah_
theorem j0_ {lo l N k off nl m sz : Nat} {E0 : Tag} {es : List (List AV)} {pre post : List AV} {a : AV} {us : List Tr} {H : List Row} {ns : List ac_} {sa : AV} (n : ByteArray) (s : List ByteArray) (hsh : sa = .list 0 1 (s.map ar_) ∨ ∃ ls k, sa = .own ls k) (hsa : ∀ H' : List Row, (∀ y, y < H.length → y ≠ nl → H'[y]? = H[y]?) → bR_ H' sa (.list 0 1 (s.map ar_))) (hns : ap_ ac_.sz ns ≤ 1048576)
 (hrow : H[l]? = some ⟨E0, sz, es⟩) (hN : es.length = N) (he : es[k]? = some (pre ++ a :: post)) (ho : pre.length = off) (hS : Sl a nl m us) (sl : bF_ lo H 112 3 nl m us) (hfl : l ∉ b4_ nl us) (hd : (us.take m).map Tr.d = ns.map ac_.cells)
 {K : AV → List Row → Prop} (hk : ∀ (H' : List Row) (m' : Nat) (us' : List Tr), H.length ≤ H'.length → (∀ x, x < H.length → x ≠ l → x ≠ nl → H'[x]? = H[x]?) → bF_ lo H' 112 3 nl m' us' → us'.length = us.length → (∀ x, x ∈ b4_ nl us' → x ∈ b4_ nl us) → (us'.take m').map Tr.d = (cC_ ns n s).map ac_.cells →
  H'[l]? = some ⟨E0, sz, es.set k (pre ++ .sub nl us'.length 0 m' :: post)⟩ → K (.tup []) H') :
 callSem Tryz.prog 146 [.ptr l N k off, .val (.string n), sa] H K := by
 refine bq_ mixed Tryz.func146 Aj_ (cg_ rfl ?_)
 have hll := (List.getElem?_eq_some_iff.1 hrow).1
 have hnl := sl.lt
 have hne : l ≠ nl := fun q => hfl (by subst q; exact List.mem_cons_self)
 have hle := sl.le
 have hml : m = ns.length := by
  have := congrArg List.length hd
  rw [List.length_map, List.length_map, List.length_take] at this
  omega
 have hm : m ≤ 1048576 := by rw [hml]; exact aJ_ hns
 have d1 : (pre ++ a :: post).drop off = a :: post := by rw [← ho]; simp
 have d2 : ∀ b : AV, (pre ++ b :: post).length = off + (post.length + 1) := fun b => by rw [← ho]; simp
 have d3 : (pre ++ a :: post).take off = pre := by rw [← ho]; simp
 have d4 : (pre ++ a :: post).drop (off + 1) = post := by rw [← ho, ← List.drop_drop]; simp
 have sl2 : bF_ lo (H ++ [⟨.ty 9, 1, [[.val (.string n)]]⟩, ⟨.ty 72, 1, [[sa]]⟩]) 112 3 nl m us := sl.more (aI_.app _ _)
 have hp : ∀ H' : List Row, (H ++ [⟨.ty 9, 1, [[.val (.string n)]]⟩, ⟨.ty 72, 1, [[sa]]⟩] : List Row).length ≤ H'.length → (∀ x, x < (H ++ [⟨.ty 9, 1, [[.val (.string n)]]⟩, ⟨.ty 72, 1, [[sa]]⟩] : List Row).length → x ≠ nl → H'[x]? = (H ++ [⟨.ty 9, 1, [[.val (.string n)]]⟩, ⟨.ty 72, 1, [[sa]]⟩] : List Row)[x]?) →
  ∀ t ∈ us.take m, lV_ Tryz.prog 186 [.agg t.c, .ptr H.length 1 0 0, .ptr (H.length + 1) 1 0 0] H' (.val (.bool (inN n s (kR_ t.d)))) := by
  intro H' h1 h2 t ht
  have h3 : t.d ∈ ns.map ac_.cells := by rw [← hd]; exact List.mem_map.2 ⟨t, ht, rfl⟩
  obtain ⟨x, hx, e⟩ := List.mem_map.1 h3
  have ht2 : t ∈ us := List.mem_of_mem_take ht
  have ha : cw_ H' (.agg t.c) (.agg (ac_.cells x)) := by
   rw [e]
   refine (sl2.arg ht2 fun y hy => h2 y ?_ ?_).any
   ·exact (sl2.lows y (i0_ ht2 hy)).2
   ·intro q; subst q; exact sl2.apart ht2 hy
  rw [← e, k3_]
  refine aa_.quiet (aa_.anyR rfl (fun Hh => iE_ x n s (dH_ hns hx) Hh) (bj_.cons ha (bj_.cons (cw_.box (E := .ty 9) (sz := 1) ?_ (cw_.same rfl)) (bj_.cons (cw_.box (E := .ty 72) (sz := 1) ?_ (hsa H' fun y g1 g2 => by rw [h2 y (by simp; omega) g2, aS_ g1]).any) bj_.nil))))
  ·rw [h2 _ (by simp) (by omega)]; exact a6_ rfl
  ·rw [h2 _ (by simp) (by omega)]; exact cc_ rfl
 have fin : ∀ (H' : List Row) (m' : Nat) (us' : List Tr), (H ++ [⟨.ty 9, 1, [[.val (.string n)]]⟩, ⟨.ty 72, 1, [[sa]]⟩] : List Row).length ≤ H'.length → (∀ x, x < (H ++ [⟨.ty 9, 1, [[.val (.string n)]]⟩, ⟨.ty 72, 1, [[sa]]⟩] : List Row).length → x ≠ nl → H'[x]? = (H ++ [⟨.ty 9, 1, [[.val (.string n)]]⟩, ⟨.ty 72, 1, [[sa]]⟩] : List Row)[x]?) →
  bF_ lo H' 112 3 nl m' us' → us'.length = us.length → (∀ x, x ∈ b4_ nl us' → x ∈ b4_ nl us) → us'.take m' = (us.take m).filter (fun t => !inN n s (kR_ t.d)) →
  H'[l]? = some ⟨E0, sz, es⟩ ∧ K (.tup []) (H'.set l ⟨E0, sz, es.set k (pre ++ .sub nl us'.length 0 m' :: post)⟩) := by
  intro H' m' us' h1 h2 h3 h4 h5 h6
  have h1' : H.length + 2 ≤ H'.length := by simpa using h1
  refine ⟨by rw [h2 l (by simp; omega) hne, aS_ hll]; exact hrow, hk _ m' us' (by rw [ls_]; omega) (fun x q1 q2 q3 => ?_) (h3.keep (fun x hx => a9_ (fun q => ?_)) (by simp)) h4 h5 ?_ (bf_ (by omega))⟩
  ·rw [a9_ (Ne.symm q2), h2 x (by simp; omega) q3, aS_ q1]
  ·subst q
   have := h5 l hx
   exact hfl this
  ·rw [h6, cC_]
   have : ∀ (ts : List Tr) (xs : List ac_), ts.map Tr.d = xs.map ac_.cells → (ts.filter fun t => !inN n s (kR_ t.d)).map Tr.d = (xs.filter fun a => !inN n s a).map ac_.cells := by
    intro ts
    induction ts with
    | nil => intro xs h; cases xs with
     | nil => rfl
     | cons x xs => simp at h
    | cons t ts ih =>
     intro xs h
     cases xs with
     | nil => simp at h
     | cons x xs =>
      simp only [List.map_cons, List.cons.injEq] at h
      have e : kR_ t.d = x := by rw [h.1, k3_]
      simp only [List.filter_cons, e]
      split
      ·simp only [List.map_cons, h.1, ih xs h.2]
      ·exact ih xs h.2
   exact this _ _ hd
 rcases hS with rfl | ⟨rfl, rfl⟩
 ·rcases hsh with rfl | ⟨ls, ks, rfl⟩
  all_goals
   simp (disch := (first | omega | (simp only [ls_, la_, lc_, ln_]; first | done | omega))) only [aS_, go_sem, Nat.reduceEqDiff, reduceCtorEq, ↓reduceIte, qv_, up_, hrow, hN, he, d1, Nat.add_zero]
   refine dz_ sl2 (fun t => inN n s (kR_ t.d)) 186 _ hm (by kernel_rfl) hp (fun H' m' us' h1 h2 h3 h4 h5 h6 => ?_)
   obtain ⟨r1, r2⟩ := fin H' m' us' h1 h2 h3 h4 h5 h6
   simp (disch := (first | omega | (simp only [ls_, la_, lc_, ln_]; first | done | omega))) only [go_sem, Nat.reduceEqDiff, ↓reduceIte, r1, hN, he, d2, d3, d4, Nat.add_zero]
   exact ⟨by omega, [], rfl, r2⟩
 ·rcases hsh with rfl | ⟨ls, ks, rfl⟩
  all_goals
   simp (disch := (first | omega | (simp only [ls_, la_, lc_, ln_]; first | done | omega))) only [aS_, go_sem, Nat.reduceEqDiff, reduceCtorEq, ↓reduceIte, qv_, up_, hrow, hN, he, d1, Nat.add_zero]
   refine callSem.own_sub ?_
   refine dz_ sl2 (fun t => inN n s (kR_ t.d)) 186 _ hm (by kernel_rfl) hp (fun H' m' us' h1 h2 h3 h4 h5 h6 => ?_)
   obtain ⟨r1, r2⟩ := fin H' m' us' h1 h2 h3 h4 h5 h6
   simp (disch := (first | omega | (simp only [ls_, la_, lc_, ln_]; first | done | omega))) only [go_sem, Nat.reduceEqDiff, ↓reduceIte, r1, hN, he, d2, d3, d4, Nat.add_zero]
   exact ⟨by omega, [], rfl, r2⟩
theorem ug_ {α : Type} (a b : List α) (x : α) : (a ++ x :: b).Perm ([x] ++ (a ++ b)) := List.perm_middle
section
variable {lo E sz l m : Nat} {H H' : List Row} {ts : List Tr} {t' : Tr}
structure nE_ (lo : Nat) (H : List Row) (sz l lv : Nat) (ts : List Tr) (t' : Tr) : Prop where
 wide : t'.c.length = sz ∧ t'.c.all AV.cell = true
 tree : ∃ k, az_ (Own H k) t'.c t'.d t'.f
 one : t'.f.Nodup
 off : ∀ x ∈ t'.f, x ∉ b4_ l ts ∧ x ≠ lv ∧ lo ≤ x ∧ x < H.length
theorem bF_.insert (s : bF_ lo H E sz l m ts) {lv : Nat} (e : nE_ lo H sz l lv ts t') {l' m' : Nat} {A B : List Tr} (hAB : (A ++ B).Sublist ts) (hrow : H'[l']? = some ⟨.ty E, sz, (A ++ t' :: B).map Tr.c⟩) (hle : m' ≤ (A ++ t' :: B).length)
 (hk : ∀ x, x < H.length → x ≠ l → H'[x]? = H[x]?) (hl : l' = l ∨ H.length ≤ l') (hlen : H.length ≤ H'.length) : bF_ lo H' E sz l' m' (A ++ t' :: B) := by
 obtain ⟨k, ht⟩ := e.tree
 have hkf : ∀ x ∈ t'.f, H'[x]? = H[x]? := fun x hx => by
  obtain ⟨h1, h2, h3, h4⟩ := e.off x hx
  exact hk x h4 (fun q => h1 (by rw [q]; exact List.mem_cons_self))
 refine s.renew hrow hle (ug_ A B t') hAB (fun t q => ?_) ⟨k, fun t q => ?_⟩ ?_ (fun x hx => ?_) (fun x hx => ?_) hl hlen
 ·simp only [List.mem_singleton] at q; subst q; exact e.wide
 ·simp only [List.mem_singleton] at q; subst q
  exact az_.mono (fun a r g hg ho => ho.keep fun x hx => hkf x (hg x hx)) ht
 ·simp only [List.map_cons, List.map_nil, List.flatten_cons, List.flatten_nil, List.append_nil]; exact e.one
 ·simp only [List.map_cons, List.map_nil, List.flatten_cons, List.flatten_nil, List.append_nil] at hx
  obtain ⟨h1, h2, h3, h4⟩ := e.off x hx
  refine ⟨h1, fun q => ?_, h3, by omega⟩
  rcases hl with q2 | q2
  ·exact h1 (by rw [q, q2]; exact List.mem_cons_self)
  ·omega
 ·have h5 : x ≠ l := fun q => (List.nodup_cons.1 s.one).1 (q ▸ hx)
  exact hk x (s.lows x (List.mem_cons_of_mem _ hx)).2 h5
theorem o8_ {l' : Nat} {A B : List Tr} (hAB : (A ++ B).Sublist ts) (hl : l' = l ∨ H.length ≤ l') : ∀ x ∈ b4_ l' (A ++ t' :: B), x ∈ b4_ l ts ∨ x ∈ t'.f ∨ H.length ≤ x := by
 intro x hx
 have hsub : ∀ t ∈ A ++ B, t ∈ ts := fun t q => hAB.subset q
 simp only [b4_, List.map_append, List.map_cons, List.flatten_append, List.flatten_cons, List.mem_cons, List.mem_append] at hx
 have old : ∀ (C : List Tr), (∀ t ∈ C, t ∈ ts) → x ∈ (C.map Tr.f).flatten → x ∈ b4_ l ts := fun C hC q => by
  obtain ⟨f, q1, q2⟩ := List.mem_flatten.1 q
  obtain ⟨t, q3, rfl⟩ := List.mem_map.1 q1
  exact i0_ (hC t q3) q2
 rcases hx with q | q | q | q
 ·rcases hl with e | e
  ·left; rw [q, e]; exact List.mem_cons_self
  ·right; right; omega
 ·exact .inl (old A (fun t z => hsub t (List.mem_append_left _ z)) q)
 ·exact .inr (.inl q)
 ·exact .inl (old B (fun t z => hsub t (List.mem_append_right _ z)) q)
end
theorem nE_.of {lo a b sz l lv : Nat} {H : List Row} {ts : List Tr} {cs ds : List AV} (hF : as_ a b H cs ds) (hd : ds.length = sz ∧ ∀ r ∈ ds, r.cell = true) (ha : ∀ y ∈ b4_ l ts, y < a) (hlo : lo ≤ a) (hv : b ≤ lv) (hb : b ≤ H.length) : ∃ f, nE_ lo H sz l lv ts ⟨cs, ds, f⟩ ∧ ∀ y ∈ f, a ≤ y := by
 obtain ⟨n, f, h1, h2, h3⟩ := hF
 obtain ⟨q1, q2⟩ := h1.cells_of hd.2
 exact ⟨f, ⟨⟨q1.trans hd.1, q2⟩, ⟨n, h1⟩, h2, fun x hx => by
  have := h3 x hx
  exact ⟨fun q => by have := ha x q; omega, by omega, by omega, by omega⟩⟩, fun y hy => (h3 y hy).1⟩
theorem qe_ {α : Type} {es : List α} {i m : Nat} (hi : i < m) : (List.take (m + 1 - (i + 1)) (List.drop i (List.take (m + 1) es))) = (es.take m).drop i := by
 rw [List.drop_take, List.drop_take, List.take_take]
 congr 1; omega
theorem tT_ {α : Type} {es : List α} {v : α} {i m N : Nat} (hN : es.length = N) (hi : i < m) (hm : m < N) :
 List.take i (List.take (i + 1) es ++ (List.take (m + 1 - (i + 1)) (List.drop i (List.take (m + 1) es)) ++ List.drop (i + 1 + min (min (m + 1) N - i) (m + 1 - (i + 1))) es)) ++
  (List.take (m + 1 - i) [v] ++ List.drop (i + min 1 (m + 1 - i)) (List.take (i + 1) es ++ (List.take (m + 1 - (i + 1)) (List.drop i (List.take (m + 1) es)) ++ List.drop (i + 1 + min (min (m + 1) N - i) (m + 1 - (i + 1))) es))) =
 es.take i ++ v :: ((es.take m).drop i ++ es.drop (m + 1)) := by
 have e1 : i + 1 + min (min (m + 1) N - i) (m + 1 - (i + 1)) = m + 1 := by omega
 have e2 : i + min 1 (m + 1 - i) = i + 1 := by omega
 have e3 : List.take (m + 1 - i) [v] = [v] := List.take_of_length_le (by simp; omega)
 have e4 : (List.take (i + 1) es).length = i + 1 := by rw [List.length_take]; omega
 rw [e1, e2, e3, qe_ hi, List.take_append_of_le_length (by omega), List.take_take, Nat.min_eq_left (by omega), List.drop_left' e4]
 rfl
theorem s7_ {α : Type} {es Z : List α} {v : α} {i cap : Nat} (hN : es.length = cap) (hi : i < cap) (hZ : Z.length = cap + 1 - i) :
 List.take (i + 1) (List.take i (List.take i es ++ Z) ++ (List.take (cap + 1 - i) [v] ++ List.drop (i + min 1 (cap + 1 - i)) (List.take i es ++ Z))) ++
  (List.take (cap + 1 - (i + 1)) (List.drop i (List.take cap es)) ++ List.drop (i + 1 + min (min cap cap - i) (cap + 1 - (i + 1))) (List.take i (List.take i es ++ Z) ++ (List.take (cap + 1 - i) [v] ++ List.drop (i + min 1 (cap + 1 - i)) (List.take i es ++ Z)))) =
 es.take i ++ v :: es.drop i := by
 have e0 : (List.take i es).length = i := by rw [List.length_take]; omega
 have e1 : i + 1 + min (min cap cap - i) (cap + 1 - (i + 1)) = cap + 1 := by omega
 have e2 : i + min 1 (cap + 1 - i) = i + 1 := by omega
 have e3 : List.take (cap + 1 - i) [v] = [v] := List.take_of_length_le (by simp; omega)
 have e4 : List.take cap es = es := List.take_of_length_le (by omega)
 have e5 : List.take (cap + 1 - (i + 1)) (List.drop i es) = es.drop i := List.take_of_length_le (by rw [List.length_drop]; omega)
 have e6 : List.take i (List.take i es ++ Z) = es.take i := List.take_left' e0
 have e7 : ∀ W : List α, List.take (i + 1) (List.take i es ++ ([v] ++ W)) = es.take i ++ [v] := fun W => by
  rw [← List.append_assoc]
  exact List.take_left' (by rw [la_, e0]; rfl)
 have e8 : List.drop (cap + 1) (List.take i es ++ ([v] ++ List.drop (i + 1) (List.take i es ++ Z))) = [] := List.drop_eq_nil_of_le (by simp only [la_, List.length_drop, List.length_take, lc_, ln_, hZ]; omega)
 rw [e1, e2, e3, e4, e5, e6, e7, e8, List.append_nil]
 simp
def oW_ : LC :=
 .seq (.ops [.s 6 (.mov (.const (.slice none 0 0)))]) (.seq (.ops [.m 10 0, .m 11 1, .s 12 (.sliceSl 3 (.tmp 10) (some (.tmp 11)) none)]) (.seq (.ops [.m 13 2, .ll 14 13, .m 7 14]) (.seq (.seq (.ops [.m 15 7, .bk 16 .eql
 false 15 0]) (.cond (.tmp 16) (.seq (.ops [.m 17 0, .m 6 17]) .ret) .skip)) (.seq (.ops [.m 18 0, .ll 19 18, .m 8 19]) (.seq (.seq (.ops [.m 20 1, .m 21 8, .bb 22 .eql false 20 21]) (.cond (.tmp 22) (.seq (.ops [.m 23 0,
 .m 24 2, .ap 25 112 3 56 23 24, .m 6 25]) .ret) .skip)) (.seq (.seq (.ops [.m 26 8, .m 27 7, .bb 28 .add false 26 27, .m 29 0, .s 30 (.capSl (.tmp 29)), .bb 31 .gtr false 28 30]) (.cond (.tmp 31) (.seq (.ops [.m 32 0, .m
 33 1, .s 34 (.sliceSl 3 (.tmp 32) none (some (.tmp 33))), .m 35 8, .m 36 7, .bb 37 .add false 35 36, .m 38 1, .bb 39 .sub false 37 38, .s 40 (.appendZ 112 3 56 (.agg #[.string ⟨#[]⟩, .slice none 0 0, .string ⟨#[]⟩])
 (.tmp 34) (.tmp 39)), .m 9 40]) (.seq (.ops [.m 41 9, .m 42 1, .s 43 (.sliceSl 3 (.tmp 41) (some (.tmp 42)) none), .m 44 2, .s 45 (.copySl 3 (.tmp 43) (.tmp 44))]) (.seq (.gops [.m 46 9, .m 47 1, .m 48 7, .bb 49 .add
 false 47 48, .s 50 (.sliceSl 3 (.tmp 46) (some (.tmp 49)) none), .m 51 0, .m 52 1, .s 53 (.sliceSl 3 (.tmp 51) (some (.tmp 52)) none)] [(.s 54 (.copySl 3 (.tmp 50) (.tmp 53)), [])]) (.seq (.ops [.m 55 9, .m 6 55])
 .ret)))) .skip)) (.seq (.ops [.m 56 0, .m 57 8, .m 58 7, .bb 59 .add false 57 58, .s 60 (.sliceSl 3 (.tmp 56) none (some (.tmp 59))), .m 0 60]) (.seq (.seq (.ops [.m 61 2, .m 62 0, .m 63 1, .m 64 7, .bb 65 .add false 63
 64, .s 66 (.sliceSl 3 (.tmp 62) (some (.tmp 65)) none), .s 67 (.ovl (.tmp 61) (.tmp 66)), .nt 68 67]) (.cond (.tmp 68) (.seq (.gops [.m 69 0, .m 70 1, .m 71 7, .bb 72 .add false 70 71, .s 73 (.sliceSl 3 (.tmp 69) (some
 (.tmp 72)) none), .m 74 0, .m 75 1, .s 76 (.sliceSl 3 (.tmp 74) (some (.tmp 75)) none)] [(.s 77 (.copySl 3 (.tmp 73) (.tmp 76)), [])]) (.seq (.ops [.m 78 0, .m 79 1, .s 80 (.sliceSl 3 (.tmp 78) (some (.tmp 79)) none), .m
 81 2, .s 82 (.copySl 3 (.tmp 80) (.tmp 81))]) (.seq (.ops [.m 83 0, .m 6 83]) .ret))) .skip)) (.seq (.ops [.m 84 0, .m 85 8, .s 86 (.sliceSl 3 (.tmp 84) (some (.tmp 85)) none), .m 87 2, .s 88 (.copySl 3 (.tmp 86) (.tmp
 87))]) (.seq (.ops [.m 89 0, .m 90 1, .s 91 (.sliceSl 3 (.tmp 89) (some (.tmp 90)) none), .m 92 7, .c2 93 213 91 92]) (.seq (.ops [.m 94 0, .m 6 94]) .ret)))))))))))
def lT_ : LF := ⟨3, 95, oW_, [.tmp 6]⟩
theorem sj_ : at_ Tryz.prog Tryz.f184 lT_ := ah_
theorem rE_ (a b : Nat) : Nat.min a b = min a b := rfl
theorem r7_ {α : Type} {es : List α} {j : α} {n : Nat} (h : es.length = n) : (es ++ [j]).take n = es := by rw [← h, List.take_left']; rfl
theorem ea_ {l N m lv i : Nat} {H : List Row} {es : List (List AV)} {v : List AV} (hr : H[l]? = some ⟨.ty 112, 3, es⟩) (hN : es.length = N) (hm : m < N) (hi : i ≤ m) (hm2 : m ≤ 1048575) (hc : ∀ e ∈ es.take m, e.all AV.cell = true) (hv : H[lv]? = some ⟨.ty 112, 3, [v]⟩) (hvc : v.all AV.cell = true) (hlv : lv ≠ l)
 {K : AV → List Row → Prop} (hk : K (.sub l N 0 (m + 1)) (H.set l ⟨.ty 112, 3, es.take i ++ v :: ((es.take m).drop i ++ es.drop (m + 1))⟩)) : callSem Tryz.prog 184 [.sub l N 0 m, .val (.int .i64 i), .own lv 1] H K := by
 refine bq_ mixed Tryz.func184 sj_ (cg_ rfl ?_)
 have hll := (List.getElem?_eq_some_iff.1 hr).1
 have hvl := (List.getElem?_eq_some_iff.1 hv).1
 by_cases him : i = m
 ·subst him
  have e1 : (es.take i).drop i = [] := List.drop_eq_nil_of_le (by rw [List.length_take]; omega)
  rw [e1, List.nil_append] at hk
  have e2 : i + 1 ≤ N := hm
  simp (disch := (first | omega | (simp only [ls_, la_, lc_, ln_]; first | done | omega))) only [go_sem, Nat.reduceEqDiff, Nat.reduceLeDiff, reduceCtorEq, ↓reduceIte, lT_, oW_, hr, hv, hN, hvc, e2, Nat.sub_zero, Nat.zero_add]
  exact ⟨by omega, by omega, by omega, hk⟩
 ·have him' : ((i : Int) = (m : Int)) = False := eq_false (by omega)
  simp (disch := (first | omega | (simp only [ls_, la_, lc_, ln_]; first | done | omega))) only [go_sem, Nat.reduceEqDiff, reduceCtorEq, ↓reduceIte, lT_, oW_, hr, hv, hN, him', Nat.sub_zero, Nat.zero_add]
  intro cap hcap
  have hcf : ((cap : Int) < (m : Int) + ((1 : Nat) : Int)) = False := eq_false (by omega)
  have hm1 : m + 1 ≤ N := hm
  have htm : ((m : Int) + ((1 : Nat) : Int)).toNat = m + 1 := by omega
  have hti : ((i : Int) + ((1 : Nat) : Int)).toNat = i + 1 := by omega
  simp (disch := (first | omega | (simp only [ls_, la_, lc_, ln_]; first | done | omega))) only [a9_, bf_, go_sem, Nat.reduceEqDiff, Nat.reduceLeDiff, reduceCtorEq, ↓reduceIte, hcf, htm, hti, hr, hv, hN, hm1, Nat.sub_zero, Nat.zero_add, la_, List.length_take, List.length_drop, lc_, ln_, rE_, if_pos]
  refine ⟨hlv, hi, fun e he => ?_, by omega, by omega, fun e he => ?_, ?_⟩
  ·rw [qe_ (by omega)] at he
   exact hc e (List.mem_of_mem_drop he)
  ·have := List.mem_of_mem_take he
   simp only [List.mem_singleton] at this
   subst this; exact hvc
  ·rw [List.set_set]
   exact (congrArg (fun z => K (.sub l N 0 (m + 1)) (H.set l ⟨.ty 112, 3, z⟩)) (tT_ hN (by omega) hm)).mpr hk
theorem gh_ {l N lv i : Nat} {H : List Row} {es : List (List AV)} {v : List AV} (hr : H[l]? = some ⟨.full 112, 3, es⟩) (hN : es.length = N) (hi : i ≤ N) (hm2 : N ≤ 1048575) (hc : ∀ e ∈ es, e.all AV.cell = true) (hv : H[lv]? = some ⟨.ty 112, 3, [v]⟩) (hvc : v.all AV.cell = true) (hlv : lv ≠ l)
 {K : AV → List Row → Prop} (hk : K (.own H.length (N + 1)) (H ++ [⟨.ty 112, 3, es.take i ++ v :: es.drop i⟩])) : callSem Tryz.prog 184 [.sub l N 0 N, .val (.int .i64 i), .own lv 1] H K := by
 refine bq_ mixed Tryz.func184 sj_ (cg_ rfl ?_)
 have hll := (List.getElem?_eq_some_iff.1 hr).1
 have hvl := (List.getElem?_eq_some_iff.1 hv).1
 by_cases him : i = N
 ·subst him
  simp (disch := (first | omega | (simp only [ls_, la_, lc_, ln_]; first | done | omega))) only [go_sem, Nat.reduceEqDiff, Nat.reduceLeDiff, reduceCtorEq, ↓reduceIte, lT_, oW_, hr, hv, hN, hvc, Nat.sub_zero, Nat.zero_add]
  rw [← hN, List.take_length, List.drop_length] at *
  exact ⟨by omega, by omega, by omega, hk⟩
 ·have him' : ((i : Int) = (N : Int)) = False := eq_false (by omega)
  simp (disch := (first | omega | (simp only [ls_, la_, lc_, ln_]; first | done | omega))) only [go_sem, Nat.reduceEqDiff, reduceCtorEq, ↓reduceIte, lT_, oW_, hr, hv, hN, him', Nat.sub_zero, Nat.zero_add]
  intro cap hcap1 hcap
  subst hcap
  have hcf : ((cap : Int) < (cap : Int) + ((1 : Nat) : Int)) = True := eq_true (by omega)
  have htm : ((cap : Int) + ((1 : Nat) : Int) - (i : Int)).toNat = cap + 1 - i := by omega
  have hti : ((i : Int) + ((1 : Nat) : Int)).toNat = i + 1 := by omega
  simp (disch := (first | omega | (simp only [ls_, la_, lc_, ln_]; first | done | omega))) only [aS_, a6_, go_sem, Nat.reduceEqDiff, reduceCtorEq, ↓reduceIte, hcf, htm, hti, hr, hv, hN, Nat.sub_zero, Nat.zero_add, la_, List.length_take, List.length_drop, lc_, ln_, List.length_replicate, rE_, if_pos]
  have hn : i + (cap + 1 - i) = cap + 1 := by omega
  rw [hn]
  refine ⟨by omega, by omega, by omega, by omega, by omega, by omega, by omega, fun e he => ?_, by omega, by omega, fun e he => ?_, ?_⟩
  ·have := List.mem_of_mem_take he
   simp only [List.mem_singleton] at this
   subst this; exact hvc
  ·exact hc e (List.mem_of_mem_take (List.mem_of_mem_drop (List.mem_of_mem_take he)))
  ·refine (congrArg (fun z => K (.own H.length (cap + 1)) (H ++ [⟨.ty 112, 3, z⟩])) (s7_ hN (by omega) ?_)).mpr hk
   exact List.length_replicate
theorem gD_ {lo l m lv i a b : Nat} {H : List Row} {ts : List Tr} {cs ds : List AV} (s : bF_ lo H 112 3 l m ts) (hi : i ≤ m) (hm : m ≤ 1048575) (hv : H[lv]? = some ⟨.ty 112, 3, [cs]⟩) (hF : as_ a b H cs ds) (hd : ds.length = 3 ∧ ∀ r ∈ ds, r.cell = true) (ha : ∀ y ∈ b4_ l ts, y < a) (hla : lo ≤ a) (hab : a ≤ b) (hbv : b ≤ lv) {K : AV → List Row → Prop}
 (hk : ∀ (av : AV) (H' : List Row) (l' : Nat) (ts' : List Tr), H.length ≤ H'.length → (∀ x, x < H.length → x ≠ l → H'[x]? = H[x]?) → bF_ lo H' 112 3 l' (m + 1) ts' → Sl av l' (m + 1) ts' → (ts'.take (m + 1)).map Tr.d = ((ts.take m).map Tr.d).take i ++ ds :: ((ts.take m).map Tr.d).drop i → (∀ y ∈ b4_ l' ts', y ∈ b4_ l ts ∨ a ≤ y) → K av H') :
 callSem Tryz.prog 184 [.sub l ts.length 0 m, .val (.int .i64 i), .own lv 1] H K := by
 have hr := s.row
 have hll := s.lt
 have hle := s.le
 have hvl := (List.getElem?_eq_some_iff.1 hv).1
 have hlv : lv ≠ l := fun q => by
  have := ha l List.mem_cons_self
  omega
 obtain ⟨f, e, hfa⟩ := nE_.of (lv := lv) hF hd ha hla hbv (by omega)
 have hft : ∀ {l' : Nat} {A B : List Tr}, (A ++ B).Sublist ts → (l' = l ∨ H.length ≤ l') → ∀ y ∈ b4_ l' (A ++ ⟨cs, ds, f⟩ :: B), y ∈ b4_ l ts ∨ a ≤ y := fun {l' A B} h1 h2 y hy => by
  rcases o8_ h1 h2 y hy with q | q | q
  ·exact .inl q
  ·exact .inr (hfa y q)
  ·exact .inr (by omega)
 obtain ⟨hw1, hw2⟩ := e.wide
 have hwc : ∀ x ∈ ts.map Tr.c, x.all AV.cell = true := fun x hx => by
  obtain ⟨t, ht, rfl⟩ := List.mem_map.1 hx
  exact (s.wide t ht).2
 have hdat : ∀ (C : List Tr), C.take (m + 1) = ts.take i ++ ⟨cs, ds, f⟩ :: (ts.take m).drop i → (C.take (m + 1)).map Tr.d = ((ts.take m).map Tr.d).take i ++ ds :: ((ts.take m).map Tr.d).drop i := fun C q => by
  rw [q, List.map_append, List.map_cons, List.map_drop, ← List.map_take, List.take_take, Nat.min_eq_left hi]
 by_cases hmN : m < ts.length
 ·refine ea_ hr (by simp) hmN hi hm (fun x hx => hwc x (List.mem_of_mem_take hx)) hv hw2 hlv ?_
  have hrow : (ts.map Tr.c).take i ++ cs :: (((ts.map Tr.c).take m).drop i ++ (ts.map Tr.c).drop (m + 1)) = (ts.take i ++ ⟨cs, ds, f⟩ :: ((ts.take m).drop i ++ ts.drop (m + 1))).map Tr.c := by
   simp only [List.map_append, List.map_cons, List.map_take, List.map_drop]
  have hsub : (ts.take i ++ ((ts.take m).drop i ++ ts.drop (m + 1))).Sublist ts := by
   rw [← List.append_assoc]
   have e1 : ts.take i ++ (ts.take m).drop i = ts.take m := by
    have := List.take_append_drop i (ts.take m)
    rwa [List.take_take, Nat.min_eq_left hi] at this
   rw [e1]
   have e2 : (ts.take m ++ ts.drop (m + 1)).Sublist (ts.take m ++ ts.drop m) := List.Sublist.append (List.Sublist.refl _) (by rw [← List.drop_drop]; exact List.drop_sublist _ _)
   rwa [List.take_append_drop] at e2
  have hlen : (ts.take i ++ (⟨cs, ds, f⟩ : Tr) :: ((ts.take m).drop i ++ ts.drop (m + 1))).length = ts.length := by
   simp only [la_, lc_, List.length_take, List.length_drop]; omega
  rw [hrow]
  have hs := bF_.insert s (H' := H.set l ⟨.ty 112, 3, (ts.take i ++ ⟨cs, ds, f⟩ :: ((ts.take m).drop i ++ ts.drop (m + 1))).map Tr.c⟩) (m' := m + 1) e hsub (bf_ hll) (by omega) (fun x q1 q2 => a9_ (Ne.symm q2)) (.inl rfl) (by simp)
  refine hk _ _ l (ts.take i ++ ⟨cs, ds, f⟩ :: ((ts.take m).drop i ++ ts.drop (m + 1))) (by simp) (fun x q1 q2 => a9_ (Ne.symm q2)) hs (.inl (by rw [hlen])) (hdat _ ?_) (hft hsub (.inl rfl))
  have e3 : m + 1 = (ts.take i ++ (⟨cs, ds, f⟩ : Tr) :: (ts.take m).drop i).length := by
   simp only [la_, lc_, List.length_take, List.length_drop]; omega
  have e4 : ts.take i ++ (⟨cs, ds, f⟩ : Tr) :: ((ts.take m).drop i ++ ts.drop (m + 1)) = (ts.take i ++ (⟨cs, ds, f⟩ : Tr) :: (ts.take m).drop i) ++ ts.drop (m + 1) := by simp
  rw [e4, List.take_left' e3.symm]
 ·have hmN' : m = ts.length := by omega
  subst hmN'
  have hsub : (ts.take i ++ ts.drop i).Sublist ts := by rw [List.take_append_drop]; exact List.Sublist.refl _
  have hrow : (ts.map Tr.c).take i ++ cs :: (ts.map Tr.c).drop i = (ts.take i ++ ⟨cs, ds, f⟩ :: ts.drop i).map Tr.c := by
   simp only [List.map_append, List.map_cons, List.map_take, List.map_drop]
  have hlen : (ts.take i ++ (⟨cs, ds, f⟩ : Tr) :: ts.drop i).length = ts.length + 1 := by
   simp only [la_, lc_, List.length_take, List.length_drop]; omega
  have htk : (ts.take i ++ (⟨cs, ds, f⟩ : Tr) :: ts.drop i).take (ts.length + 1) = ts.take i ++ ⟨cs, ds, f⟩ :: (ts.take ts.length).drop i := by rw [List.take_of_length_le (by omega), List.take_length]
  refine qV_ hr (by simp) (by decide) ?_ ?_
  ·have jt : (ts.map Tr.c ++ [List.replicate 3 AV.undef]).take ts.length = ts.map Tr.c := r7_ (by simp)
   refine ea_ (N := ts.length + 1) (m := ts.length) (es := ts.map Tr.c ++ [List.replicate 3 .undef]) (bf_ hll) (by simp) (by omega) hi hm (fun x hx => hwc x ?_) (by rw [a9_ (Ne.symm hlv)]; exact hv) hw2 hlv ?_
   ·rwa [jt] at hx
   ·rw [jt]
    have e5 : (ts.map Tr.c ++ [List.replicate 3 AV.undef]).take i = (ts.map Tr.c).take i := by rw [List.take_append_of_le_length (by simp; omega)]
    have e6 : (ts.map Tr.c ++ [List.replicate 3 AV.undef]).drop (ts.length + 1) = [] := List.drop_eq_nil_of_le (by simp)
    rw [e5, e6, List.append_nil, List.set_set, hrow]
    have hs := bF_.insert s (H' := H.set l ⟨.ty 112, 3, (ts.take i ++ ⟨cs, ds, f⟩ :: ts.drop i).map Tr.c⟩) (m' := ts.length + 1) e hsub (bf_ hll) (by omega) (fun x q1 q2 => a9_ (Ne.symm q2)) (.inl rfl) (by simp)
    exact hk _ _ l (ts.take i ++ ⟨cs, ds, f⟩ :: ts.drop i) (by simp) (fun x q1 q2 => a9_ (Ne.symm q2)) hs (.inl (by rw [hlen])) (hdat _ htk) (hft hsub (.inl rfl))
  ·refine gh_ (N := ts.length) (es := ts.map Tr.c) (bf_ hll) (by simp) hi hm hwc (by rw [a9_ (Ne.symm hlv)]; exact hv) hw2 hlv ?_
   refine ⟨by rw [aS_ (by simpa using hll)]; exact bf_ hll, ?_⟩
   rw [ls_, hrow]
   have hst : ∀ r1 r2 r3 : Row, H[l]? = some r3 → (H.set l r1 ++ [r2]).set l r3 = H ++ [r2] := fun r1 r2 r3 q => by
    rw [List.set_append_left _ _ (by simpa using hll), List.set_set, pE_ q]
   rw [hst _ _ _ hr]
   have hs := bF_.insert s (l' := H.length) (H' := H ++ [⟨.ty 112, 3, (ts.take i ++ ⟨cs, ds, f⟩ :: ts.drop i).map Tr.c⟩]) (m' := ts.length + 1) e hsub (a6_ rfl) (by omega) (fun x q1 q2 => aS_ q1) (.inr (Nat.le_refl _)) (by simp)
   exact hk _ _ H.length (ts.take i ++ ⟨cs, ds, f⟩ :: ts.drop i) (by simp) (fun x q1 q2 => aS_ q1) hs (.inr ⟨by rw [hlen], hlen.symm⟩) (hdat _ htk) (hft hsub (.inr (Nat.le_refl _)))
theorem wq_ {lo hi l n E sz : Nat} {H : List Row} {ds es : List (List AV)} (h : aF_ lo hi H (.own l n) (.list 0 sz ds)) (hr : H[l]? = some ⟨.ty E, sz, es⟩) (hhi : hi ≤ H.length) (hd : ∀ d ∈ ds, d.length = sz ∧ ∀ r ∈ d, r.cell = true) :
 ∃ ts : List Tr, ts.map Tr.c = es ∧ ts.map Tr.d = ds ∧ bF_ lo H E sz l ts.length ts ∧ n = ts.length ∧ ∀ y ∈ b4_ l ts, y < hi := by
 obtain ⟨k, fs, h1, h2, h3⟩ := h
 cases k with
 | zero => exact h1.elim
 | succ k =>
  obtain ⟨row, es1, f, q1, q2, q3, q4, rfl⟩ := h1
  rw [hr] at q1
  obtain rfl := Option.some.inj q1
  simp only [AV.list.injEq, true_and] at q4
  subst q4
  obtain ⟨ts, r1, r2, rfl, r4⟩ := aV_.trs q3
  have hl : n = ts.length := by rw [← q2, ← r1]; simp
  refine ⟨ts, r1, r2, ⟨by rw [hr, r1], Nat.le_refl _, fun t ht => ?_, ⟨k, r4⟩, h2, fun y hy => ?_⟩, hl, fun y hy => (h3 y hy).2⟩
  ·obtain ⟨p1, p2⟩ := hd t.d (by rw [← r2]; exact List.mem_map.2 ⟨t, ht, rfl⟩)
   obtain ⟨p3, p4⟩ := (r4 t ht).cells_of p2
   exact ⟨p3.trans p1, p4⟩
  ·have := h3 y hy; omega
structure TB2 (L lo : Nat) (H : List Row) (l m : Nat) (ts : List Tr) : Prop where
 box : ∃ a, H[L]? = some ⟨.ty 30, 1, [[a]]⟩ ∧ Sl a l m ts
 at' : bF_ lo H 112 3 l m ts
 out : L ∉ b4_ l ts
 lt : lo ≤ L
structure eg_ (L lo : Nat) (H : List Row) (x : af_) : Prop where
 out : ∃ (l m : Nat) (ts : List Tr), TB2 L lo H l m ts ∧ (ts.take m).map Tr.d = x.Nodes.map ac_.cells
theorem wU_ {ts : List Tr} {m : Nat} {ns : List ac_} (hle : m ≤ ts.length) (h : (ts.take m).map Tr.d = ns.map ac_.cells) : m = ns.length := by
 have := congrArg List.length h
 simp only [List.length_map, List.length_take] at this
 omega
section
variable {L lo : Nat} {H H' : List Row} {x : af_}
theorem TB2.lL {l m : Nat} {ts : List Tr} (b : TB2 L lo H l m ts) : L < H.length := by
 obtain ⟨a, o, _⟩ := b.box
 exact (List.getElem?_eq_some_iff.1 o).1
theorem TB2.keep {l m : Nat} {ts : List Tr} (b : TB2 L lo H l m ts) (hk : ∀ y, lo ≤ y → y < H.length → H'[y]? = H[y]?) (hl : H.length ≤ H'.length) : TB2 L lo H' l m ts := by
 have hL := b.lL
 obtain ⟨a, o, hS⟩ := b.box
 exact ⟨⟨a, (hk L b.lt hL).trans o, hS⟩, b.at'.keep (fun y hy => hk y (b.at'.lows y hy).1 (b.at'.lows y hy).2) hl, b.out, b.lt⟩
theorem eg_.keep (B : eg_ L lo H x) (hk : ∀ y, lo ≤ y → y < H.length → H'[y]? = H[y]?) (hl : H.length ≤ H'.length) : eg_ L lo H' x := by
 obtain ⟨l, m, ts, b, d⟩ := B
 exact ⟨l, m, ts, b.keep hk hl, d⟩
theorem eg_.low (B : eg_ L lo H x) : lo ≤ L ∧ L < H.length := by
 obtain ⟨l, m, ts, b, d⟩ := B
 exact ⟨b.lt, b.lL⟩
theorem TB2.more {l m : Nat} {ts : List Tr} (b : TB2 L lo H l m ts) (h : aI_ H H') : TB2 L lo H' l m ts := b.keep (fun y _ q => h.kept y q) h.len
theorem eg_.more (B : eg_ L lo H x) (h : aI_ H H') : eg_ L lo H' x := B.keep (fun y _ q => h.kept y q) h.len
theorem eg_.arg (B : eg_ L lo H x) : ∃ a, H[L]? = some ⟨.ty 30, 1, [[a]]⟩ ∧ a.cell = true ∧ aF_ lo H.length H (.agg [a]) (.agg (af_.cells x)) := by
 obtain ⟨l, m, ts, b, d⟩ := B
 obtain ⟨a, h1, h2⟩ := b.box
 have h3 := b.at'.freshS h2
 rw [d] at h3
 have := b.at'.lows l List.mem_cons_self
 exact ⟨a, h1, h2.cell, aF_.agg (as_.cons h3 (as_.nil _ _ _) ⟨by omega, Nat.le_refl _⟩)⟩
theorem eg_.of {l n hi : Nat} {es : List (List AV)} (hL : H[L]? = some ⟨.ty 30, 1, [[.own l n]]⟩) (hlt : lo ≤ L) (hhi : hi ≤ L) (hF : aF_ lo hi H (.agg [.own l n]) (.agg (af_.cells x))) (hr : H[l]? = some ⟨.ty 112, 3, es⟩) : eg_ L lo H x := by
 have hL2 := (List.getElem?_eq_some_iff.1 hL).1
 have h1 : aF_ lo hi H (.own l n) (.list 0 3 (x.Nodes.map ac_.cells)) := hF.unagg.head
 obtain ⟨ts, e1, e2, s, e3, e4⟩ := wq_ h1 hr (by omega) (fun d hd => by
  obtain ⟨a, _, q⟩ := List.mem_map.1 hd; subst q
  refine ⟨rfl, fun r hr => ?_⟩
  simp only [ac_.cells, List.mem_cons, List.not_mem_nil, or_false] at hr
  rcases hr with rfl | rfl | rfl <;> rfl)
 subst e3
 exact ⟨l, ts.length, ts, ⟨⟨_, hL, .inr ⟨rfl, rfl⟩⟩, s, fun q => by have := e4 L q; omega, hlt⟩, by rw [List.take_length]; exact e2⟩
theorem wu_ {l m : Nat} {ts : List Tr} (s : bF_ lo H 112 3 l m ts) (hd : (ts.take m).map Tr.d = x.Nodes.map ac_.cells) {k : Nat} (hk : k < m) (hkt : k < ts.length) (hkx : k < x.Nodes.length) :
 ∃ b, ts[k].c = [.val (.string x.Nodes[k].Name), b, .val (.string x.Nodes[k].Value)] ∧ ts[k].d = ac_.cells x.Nodes[k] ∧ b.cell = true := by
 obtain ⟨kk, htree⟩ := s.tree
 have ht := htree ts[k] (List.getElem_mem hkt)
 have hdd : ts[k].d = ac_.cells x.Nodes[k] := by
  have := congrArg (fun z => z[k]?) hd
  simp only [List.getElem?_map, List.getElem?_take, if_pos hk, List.getElem?_eq_getElem hkt, List.getElem?_eq_getElem hkx, Option.map_some, Option.some.injEq] at this
  exact this
 have ec : ac_.cells x.Nodes[k] = [.val (.string x.Nodes[k].Name), .list 0 1 (x.Nodes[k].Subs.map ar_), .val (.string x.Nodes[k].Value)] := rfl
 rw [hdd, ec] at ht
 obtain ⟨c1, e1, ht⟩ := ht.inv_val
 obtain ⟨c2, c3, g, g', e2, e3, ho, ht⟩ := ht.inv_cons
 obtain ⟨c4, e4, ht⟩ := ht.inv_val
 obtain ⟨e5, e6⟩ := ht.inv_nil
 subst e5 e6 e4 e2
 exact ⟨c2, e1, hdd, ho.cell_list⟩
end
theorem jQ_ {x : af_} (h : aP_ x = true) : x.Nodes.length ≤ 120 ∧ ∀ a ∈ x.Nodes, cq_ a = true := by
 simp only [aP_, Bool.and_eq_true, decide_eq_true_eq] at h
 exact ⟨by omega, (fp_ _ _ h.2).2.2⟩
theorem nZ_ {a : ac_} (h : cq_ a = true) : bP_ a.Name = true ∧ be_ a.Subs = true ∧ a.Value.size ≤ 64 := by
 simp only [cq_, eR_, Bool.and_eq_true, decide_eq_true_eq] at h
 exact ⟨h.1.1, h.1.2, by omega⟩
theorem pr_ {s : ByteArray} (h : bP_ s = true) : s.size ≤ 8 := by
 simp only [bP_, Bool.and_eq_true, decide_eq_true_eq] at h
 omega
theorem pa_ {xs : List ByteArray} (h : be_ xs = true) : ap_ ByteArray.size xs ≤ 100 := by
 obtain ⟨h1, h2⟩ := g0_ h
 have : ∀ ys : List ByteArray, (∀ y ∈ ys, y.size ≤ 24) → bY_ ByteArray.size ys ≤ 24 * ys.length := by
  intro ys
  induction ys with
  | nil => intro _; simp [bY_]
  | cons y ys ih =>
   intro hy
   have := ih fun z hz => hy z (by simp [hz])
   have := hy y (by simp)
   simp only [bY_, lc_]; omega
 have := this xs fun x hx => (h2 x hx).2
 simp only [ap_]; omega
def gc_ (xs : List ab_) : Bool := decide ((xs.length : Int) ≤ 60) && xs.all ch_
def c91 : LC :=
 .seq (.ops [.s 1 (.box 79 (.tmp 0)), .s 2 (.mov (.const (.bool false)))]) (.seq (.ops [.ld 3 5 1, .c1 4 92 3, .nt 5 4, .m 2 5]) .ret)
def Av_ : LF := ⟨1, 6, c91, [.tmp 2]⟩
theorem Bo_ : at_ Tryz.prog Tryz.f91 Av_ := ah_
theorem gv_ (x : ab_) (hx : ab_.sz x ≤ 1048576) (h : List Row) : aa_ Tryz.prog 91 [.agg (ab_.cells x)] h (.val (.bool (!ch_ x))) := by
 refine aj_ mixed Tryz.func91 Bo_ rfl rfl ?_ h
 simp (disch := omega) only [Av_, c91, ab_.cells, go_sem, Nat.reduceEqDiff, Nat.reduceAdd, ↓reduceIte]
 repeat' (first
  | exact ae_ _ _
  | simp (disch := omega) only [go_sem, ↓reduceIte]
  | (refine aa_.call (hN_ x hx _) ?_)
  | (refine aa_.q (hN_ x hx _) ?_)
  | ((first | (apply aG_; assumption) | (apply aE_; assumption) | (apply aL_; assumption) | (apply aM_; assumption)); intro hb; try simp only [hb])
  | ((first | apply ak_ | apply al_) <;> intro hb <;> (try simp only [hb]) <;> (first | have hp := a1_ hb | have hp := aZ_ hb | have hp := a0_ hb | have hp := a2_ hb | skip)))
def yN_ : LC :=
 .seq (.ops [.ki 4 0]) (.seq (.seq (.ops [.m 6 0, .ll 7 6, .ki 8 0]) (.block 0 (.loop (.seq (.ops [.bb 9 .lss false 8 7]) (.seq (.cond (.tmp 9) .skip (.exit 0)) (.seq (.block 1 (.seq (.ops [.m 10 8, .m 5 10]) (.seq (.ops
 [.m 11 1, .m 12 0, .m 13 5, .ia 14 5 12 13, .ld 15 5 14, .s 16 (.callv (.tmp 11) [.tmp 15])]) (.cond (.tmp 16) (.seq (.ops [.m 17 5, .m 4 17]) .ret) .skip)))) (.ops [.bk 18 .add false 8 1, .m 8 18]))))))) (.seq (.ops [.s
 4 (.mov (.const (.int .i64 (-1))))]) .ret))
def uP_ : LF := ⟨2, 19, yN_, [.tmp 4]⟩
theorem zD_ : at_ Tryz.prog Tryz.f139 uP_ := ah_
theorem fM_ (xs : List ab_) (p : ab_ → Bool) (g : Nat) (hx : xs.length ≤ 1048576) (hc : ck_ Tryz.prog g = true) (hp : ∀ x ∈ xs, ∀ h, aa_ Tryz.prog g [.agg (ab_.cells x)] h (.val (.bool (p x)))) (h : List Row) :
 aa_ Tryz.prog 139 [.list 0 5 (xs.map ab_.cells), .fn g [] []] h (.val (.int .i64 (bZ_ p xs 0))) := by
 refine aj_ mixed Tryz.func139 zD_ rfl rfl ?_ h
 simp (disch := omega) only [uP_, yN_, go_sem, reduceCtorEq, Int.reduceNeg, ↓reduceIte]
 refine aK_ (fun n t h => ∃ k : Nat, t 0 = .list 0 5 (xs.map ab_.cells) ∧ t 1 = .fn g [] [] ∧ t 6 = .list 0 5 (xs.map ab_.cells) ∧ t 7 = .val (.int .i64 xs.length) ∧ t 8 = .val (.int .i64 k) ∧ n = xs.length - k ∧ k ≤ xs.length ∧ (bZ_ p xs 0 = bZ_ p (xs.drop k) k)) (xs.length) ?_ ?_
 ·exact ⟨0, rfl, rfl, rfl, rfl, rfl, rfl, Nat.zero_le _, rfl⟩
 ·rintro J hJ n t h ⟨k, t0, t1, t6, t7, k8, rfl, hk, hS⟩
  by_cases hlt : k < xs.length
  ·skip
   rw [hb_ p xs k hlt] at hS
   simp (disch := omega) only [t0, t1, t7, k8, hlt, hc, ab_.cells, go_sem, Nat.reduceEqDiff, Nat.reduceAdd, reduceCtorEq, Int.reduceNeg, ↓reduceIte]
   repeat' (first
    | exact ae_ _ _
    | exact ⟨xs.length - (k + 1), by omega, hJ _ _ _ ⟨k + 1, by simp [upd, t0], by simp [upd, t1], by simp [upd, t6], by simp [upd, t7], by simp [upd], rfl, by omega, by rw [hS]; simp [*]⟩⟩
    | (refine aH_ ?_; rw [hS]; simp [*]; done)
    | (refine aH_ ?_; rw [hS, e7_ _ _ _ (by omega)])
    | simp (disch := omega) only [k8, go_sem, Nat.reduceEqDiff, Int.reduceNeg, ↓reduceIte]
    | (refine aa_.call (hp xs[k] (List.getElem_mem hlt) _) ?_)
    | (refine aa_.q (hp xs[k] (List.getElem_mem hlt) _) ?_)
    | ((first | (apply aG_; assumption) | (apply aE_; assumption) | (apply aL_; assumption) | (apply aM_; assumption)); intro hb; try simp only [hb])
    | ((first | apply ak_ | apply al_) <;> intro hb <;> (try simp only [hb]) <;> (first | have hp := a1_ hb | have hp := aZ_ hb | have hp := a0_ hb | have hp := a2_ hb | skip)))
  ·skip
   simp (disch := omega) only [t7, k8, hlt, go_sem, Int.reduceNeg, ↓reduceIte]
   repeat' (first
    | exact ae_ _ _
    | (refine aH_ ?_; rw [hS]; simp [*]; done)
    | (refine aH_ ?_; rw [hS, e7_ _ _ _ (by omega)])
    | simp (disch := omega) only [t0, t1, t6, t7, k8, go_sem, Nat.reduceEqDiff, Nat.reduceAdd, Nat.reduceLeDiff, reduceCtorEq, Int.reduceLT, Int.reduceLE, Int.reduceNeg, Int.reduceSub, Int.reduceAdd, Int.reduceToNat, ↓reduceIte]
    | (refine aa_.call (hp xs[k] (List.getElem_mem hlt) _) ?_)
    | (refine aa_.q (hp xs[k] (List.getElem_mem hlt) _) ?_)
    | ((first | (apply aG_; assumption) | (apply aE_; assumption) | (apply aL_; assumption) | (apply aM_; assumption)); intro hb; try simp only [hb])
    | ((first | apply ak_ | apply al_) <;> intro hb <;> (try simp only [hb]) <;> (first | have hp := a1_ hb | have hp := aZ_ hb | have hp := a0_ hb | have hp := a2_ hb | skip)))
def c90 : LC :=
 .seq (.ops [.s 4 (.mov (.const (.bool false)))]) (.seq (.ops [.m 5 0, .m 6 1, .c2 7 139 5 6, .bk 8 .geq false 7 0, .m 4 8]) .ret)
def Af_ : LF := ⟨2, 9, c90, [.tmp 4]⟩
theorem AO_ : at_ Tryz.prog Tryz.f90 Af_ := ah_
theorem dc_ (xs : List ab_) (p : ab_ → Bool) (g : Nat) (hx : xs.length ≤ 1048576) (hc : ck_ Tryz.prog g = true) (hp : ∀ x ∈ xs, ∀ h, aa_ Tryz.prog g [.agg (ab_.cells x)] h (.val (.bool (p x)))) (h : List Row) :
 aa_ Tryz.prog 90 [.list 0 5 (xs.map ab_.cells), .fn g [] []] h (.val (.bool (xs.any p))) := by
 refine aj_ mixed Tryz.func90 AO_ rfl rfl ?_ h
 simp (disch := omega) only [Af_, c90, go_sem, Nat.reduceEqDiff, reduceCtorEq, ↓reduceIte]
 refine aa_.call (fM_ xs p g hx hc hp _) ?_
 simp (disch := omega) only [go_sem, ↓reduceIte]
 exact ad_ (ku_ p xs)
def c48 : LC :=
 .seq (.ops [.s 2 (.mov (.const (.bool false)))]) (.seq (.ops [.m 3 0, .ll 4 3, .bk 5 .leq false 4 60, .m 6 5, .g 7 6 true (.mov (.tmp 0)), .g 8 6 true (.call 90 [.tmp 7, .func 91]), .g 9 6 true (.un .not (.tmp 8)), .pf
 10 6 9, .m 2 10]) .ret)
def AD_ : LF := ⟨1, 11, c48, [.tmp 2]⟩
theorem A5_ : at_ Tryz.prog Tryz.f48 AD_ := ah_
theorem hR_ (xs : List ab_) (hs : ap_ ab_.sz xs ≤ 1048576) (h : List Row) : aa_ Tryz.prog 48 [.list 0 5 (xs.map ab_.cells)] h (.val (.bool (gc_ xs))) := by
 refine aj_ mixed Tryz.func48 A5_ rfl rfl ?_ h
 simp (disch := omega) only [AD_, c48, go_sem, reduceCtorEq, ↓reduceIte]
 repeat' (first
  | exact ae_ _ _
  | (refine ad_ ?_; simp only [p7_, gc_, *, Bool.true_and, Bool.false_and, decide_true, decide_false]; done)
  | simp (disch := omega) only [go_sem, Nat.reduceEqDiff, reduceCtorEq, ↓reduceIte]
  | (refine aa_.call (dc_ _ (fun s => !ch_ s) 91 (aJ_ hs) (by kernel_rfl) (fun x hx h => gv_ x (by have := b5_ (f := ab_.sz) hx; omega) h) _) ?_)
  | (refine aa_.q (dc_ _ (fun s => !ch_ s) 91 (aJ_ hs) (by kernel_rfl) (fun x hx h => gv_ x (by have := b5_ (f := ab_.sz) hx; omega) h) _) ?_)
  | ((first | (apply aR_; assumption) | (apply aQ_; assumption) | (apply a3_; assumption) | (apply a4_; assumption)); intro hb; try simp only [hb])
  | ((first | (apply aG_; assumption) | (apply aE_; assumption) | (apply aL_; assumption) | (apply aM_; assumption)); intro hb; try simp only [hb])
  | ((first | apply av_ | apply ay_ | apply ak_ | apply al_) <;> intro hb <;> (try simp only [hb]) <;> (first | have hp := a1_ hb | have hp := aZ_ hb | have hp := a0_ hb | have hp := a2_ hb | skip)))
def c42 : LC :=
 .seq (.ops [.s 2 (.mov (.const (.bool false)))]) (.seq (.seq (.ops [.m 4 0, .ll 5 4, .bk 6 .gtr false 5 60]) (.cond (.tmp 6) (.seq (.ops [.s 2 (.mov (.const (.bool false)))]) .ret) .skip)) (.seq (.seq (.ops [.ki 3 0])
 (.block 0 (.loop (.seq (.seq (.ops [.m 7 3, .m 8 0, .ll 9 8, .bb 10 .lss false 7 9]) (.cond (.tmp 10) .skip (.exit 0))) (.seq (.block 1 (.seq (.ops [.m 13 0, .m 14 3, .ia 15 5 13 14, .ld 16 5 15, .c1 17 80 16, .nt 18
 17]) (.cond (.tmp 18) (.seq (.ops [.s 2 (.mov (.const (.bool false)))]) .ret) .skip))) (.ops [.m 11 3, .bk 12 .add false 11 1, .m 3 12])))))) (.seq (.ops [.s 2 (.mov (.const (.bool true)))]) .ret)))
def tt_ : LF := ⟨1, 19, c42, [.tmp 2]⟩
theorem Bu_ : at_ Tryz.prog Tryz.f42 tt_ := ah_
theorem he_ (xs : List ab_) (hs : ap_ ab_.sz xs ≤ 1048576) (h : List Row) : aa_ Tryz.prog 42 [.list 0 5 (xs.map ab_.cells)] h (.val (.bool (gc_ xs))) := by
 refine aj_ mixed Tryz.func42 Bu_ rfl rfl ?_ h
 have hx := aJ_ hs
 have hm : ∀ x ∈ xs, ab_.sz x ≤ 1048576 := fun x hx => by have := b5_ (f := ab_.sz) hx; omega
 by_cases h4 : (xs.length : Int) ≤ 60
 ·have h4' : ((60 : Int) < xs.length) = False := eq_false (by omega)
  have hS0 : gc_ xs = xs.all ch_ := by simp [gc_, h4]
  simp (disch := omega) only [tt_, c42, h4', go_sem, reduceCtorEq, ↓reduceIte]
  refine aK_ (fun n t h => ∃ k : Nat, t 0 = .list 0 5 (xs.map ab_.cells) ∧ t 3 = .val (.int .i64 k) ∧ n = xs.length - k ∧ k ≤ xs.length ∧ (xs.all ch_ = (xs.drop k).all ch_)) (xs.length) ?_ ?_
  ·exact ⟨0, rfl, rfl, rfl, Nat.zero_le _, rfl⟩
  ·rintro J hJ n t h ⟨k, t0, k3, rfl, hk, hS⟩
   by_cases hlt : k < xs.length
   ·skip
    rw [o5_ ch_ xs k hlt] at hS
    simp (disch := omega) only [t0, k3, hlt, ab_.cells, go_sem, Nat.reduceEqDiff, Nat.reduceAdd, reduceCtorEq, ↓reduceIte]
    repeat' (first
     | exact ae_ _ _
     | exact ⟨xs.length - (k + 1), by omega, hJ _ _ _ ⟨k + 1, by simp [upd, t0], by simp [upd], rfl, by omega, by rw [hS]; first | (simp only [*, Bool.true_and]; done) | simp [*]⟩⟩
     | (refine ad_ ?_; rw [hS0, hS]; first | (simp only [*, Bool.false_and]; done) | (simp [*]; done))
     | (refine ad_ ?_; rw [hS0, hS, j5_ _ _ _ (by omega)])
     | simp (disch := omega) only [k3, go_sem, Nat.reduceEqDiff, ↓reduceIte]
     | (refine aa_.call (eY_ _ (hm _ (List.getElem_mem hlt)) _) ?_)
     | (refine aa_.q (eY_ _ (hm _ (List.getElem_mem hlt)) _) ?_)
     | ((first | (apply aR_; assumption) | (apply aQ_; assumption) | (apply a3_; assumption) | (apply a4_; assumption)); intro hb; try simp only [hb])
     | ((first | (apply aG_; assumption) | (apply aE_; assumption) | (apply aL_; assumption) | (apply aM_; assumption)); intro hb; try simp only [hb])
     | ((first | apply av_ | apply ay_ | apply ak_ | apply al_) <;> intro hb <;> (try simp only [hb]) <;> (first | have hp := a1_ hb | have hp := aZ_ hb | have hp := a0_ hb | have hp := a2_ hb | skip)))
   ·skip
    simp (disch := omega) only [t0, k3, hlt, go_sem, Nat.reduceEqDiff, reduceCtorEq, ↓reduceIte]
    repeat' (first
     | exact ae_ _ _
     | (refine ad_ ?_; rw [hS0, hS]; first | (simp only [*, Bool.and_true, Bool.true_and, Bool.and_false, Bool.false_and, Bool.or_true, Bool.true_or, Bool.or_false, Bool.false_or, Bool.not_true, Bool.not_false, decide_true, decide_false, Bool.and_self, Bool.or_self]; done) | (simp [*]; done))
     | (refine ad_ ?_; rw [hS0, hS, j5_ _ _ _ (by omega)])
     | simp (disch := omega) only [t0, k3, go_sem, Nat.reduceEqDiff, Nat.reduceAdd, Nat.reduceLeDiff, reduceCtorEq, Int.reduceLT, Int.reduceLE, Int.reduceNeg, Int.reduceSub, Int.reduceAdd, Int.reduceToNat, ↓reduceIte]
     | (refine aa_.call (eY_ _ (hm _ (List.getElem_mem hlt)) _) ?_)
     | (refine aa_.q (eY_ _ (hm _ (List.getElem_mem hlt)) _) ?_)
     | ((first | (apply aR_; assumption) | (apply aQ_; assumption) | (apply a3_; assumption) | (apply a4_; assumption)); intro hb; try simp only [hb])
     | ((first | (apply aG_; assumption) | (apply aE_; assumption) | (apply aL_; assumption) | (apply aM_; assumption)); intro hb; try simp only [hb])
     | ((first | apply av_ | apply ay_ | apply ak_ | apply al_) <;> intro hb <;> (try simp only [hb]) <;> (first | have hp := a1_ hb | have hp := aZ_ hb | have hp := a0_ hb | have hp := a2_ hb | skip)))
 ·have h4' : ((60 : Int) < xs.length) = True := eq_true (by omega)
  simp (disch := omega) only [tt_, c42, h4', go_sem, reduceCtorEq, ↓reduceIte]
  exact ad_ (by simp [gc_, h4])
def dg_ (x : ax_) : Bool := dl_ x.Depth 0 3 && dl_ x.Restarts 0 4 && gc_ x.Events && (decide (0 < x.Depth) || decide (x.Restarts = 0) && decide ((x.Events.length : Int) = 0))
def c73 : LC :=
 .seq (.ops [.s 1 (.box 65 (.tmp 0)), .s 2 (.mov (.const (.bool false)))]) (.seq (.seq (.ops [.fa 3 0 1, .ln 4 3, .s 5 (.call 116 [.tmp 4, .const (.int .i64 0), .const (.int .i64 3)]), .nt 6 5, .m 7 6, .g 8 7 false
 (.fieldAddr 1 (.tmp 1)), .g 9 7 false (.load none (.tmp 8)), .g 10 7 false (.call 116 [.tmp 9, .const (.int .i64 0), .const (.int .i64 4)]), .g 11 7 false (.un .not (.tmp 10)), .pt 12 7 11, .m 13 12, .g 14 13 false
 (.fieldAddr 2 (.tmp 1)), .g 15 13 false (.load none (.tmp 14)), .g 16 13 false (.call 48 [.tmp 15]), .g 17 13 false (.un .not (.tmp 16)), .pt 18 13 17]) (.cond (.tmp 18) (.seq (.ops [.s 2 (.mov (.const (.bool false)))])
 .ret) .skip)) (.seq (.ops [.fa 19 0 1, .ln 20 19, .bk 21 .gtr false 20 0, .m 22 21, .g 23 22 false (.fieldAddr 1 (.tmp 1)), .g 24 22 false (.load none (.tmp 23)), .g 25 22 false (.bin .eql false (.tmp 24) (.const (.int
 .i64 0))), .g 26 22 false (.mov (.tmp 25)), .g 27 26 true (.fieldAddr 2 (.tmp 1)), .g 28 26 true (.load none (.tmp 27)), .g 29 26 true (.lenSl (.tmp 28)), .g 30 26 true (.bin .eql false (.tmp 29) (.const (.int .i64 0))),
 .g 31 22 false (.pick (.tmp 26) (.tmp 30) (.const (.bool false))), .pt 32 22 31, .m 2 32]) .ret))
def w3_ : LF := ⟨1, 33, c73, [.tmp 2]⟩
theorem A8_ : at_ Tryz.prog Tryz.f73 w3_ := ah_
theorem lh_ (x : ax_) (hx : ax_.sz x ≤ 1048576) (h : List Row) : aa_ Tryz.prog 73 [.agg (ax_.cells x)] h (.val (.bool (dg_ x))) := by
 refine aj_ mixed Tryz.func73 A8_ rfl rfl ?_ h
 simp (disch := omega) only [w3_, c73, ax_.cells, go_sem, Nat.reduceEqDiff, Nat.reduceAdd, ↓reduceIte]
 repeat' (first
  | exact ae_ _ _
  | (refine ad_ ?_; first | rfl | (simp only [dg_, *, Bool.true_and, Bool.and_false, Bool.false_and, Bool.true_or, Bool.false_or, decide_true, decide_false, Bool.and_self, Bool.or_self]; done) | (simp [dg_, *]; done))
  | simp (disch := omega) only [go_sem, Nat.reduceEqDiff, ↓reduceIte]
  | (refine aa_.call (eV_ _ _ _ _) ?_)
  | (refine aa_.q (eV_ _ _ _ _) ?_)
  | (refine aa_.call (hR_ _ (ax_.sz_Events hx) _) ?_)
  | (refine aa_.q (hR_ _ (ax_.sz_Events hx) _) ?_)
  | ((first | (apply aR_; assumption) | (apply aQ_; assumption) | (apply a3_; assumption) | (apply a4_; assumption)); intro hb; try simp only [hb])
  | ((first | (apply aG_; assumption) | (apply aE_; assumption) | (apply aL_; assumption) | (apply aM_; assumption)); intro hb; try simp only [hb])
  | ((first | apply av_ | apply ay_ | apply ak_ | apply al_) <;> intro hb <;> (try simp only [hb]) <;> (first | have hp := a1_ hb | have hp := aZ_ hb | have hp := a0_ hb | have hp := a2_ hb | skip)))
def c71 : LC :=
 .seq (.ops [.s 1 (.box 65 (.tmp 0)), .s 2 (.mov (.const (.bool false)))]) (.seq (.seq (.ops [.fa 3 0 1, .ln 4 3, .s 5 (.call 113 [.tmp 4, .const (.int .i64 0), .const (.int .i64 3)]), .nt 6 5, .m 7 6, .g 8 7 false
 (.fieldAddr 1 (.tmp 1)), .g 9 7 false (.load none (.tmp 8)), .g 10 7 false (.call 113 [.tmp 9, .const (.int .i64 0), .const (.int .i64 4)]), .g 11 7 false (.un .not (.tmp 10)), .pt 12 7 11, .m 13 12, .g 14 13 false
 (.fieldAddr 2 (.tmp 1)), .g 15 13 false (.load none (.tmp 14)), .g 16 13 false (.call 42 [.tmp 15]), .g 17 13 false (.un .not (.tmp 16)), .pt 18 13 17]) (.cond (.tmp 18) (.seq (.ops [.s 2 (.mov (.const (.bool false)))])
 .ret) .skip)) (.seq (.ops [.fa 19 0 1, .ln 20 19, .bk 21 .gtr false 20 0, .m 22 21, .g 23 22 false (.fieldAddr 1 (.tmp 1)), .g 24 22 false (.load none (.tmp 23)), .g 25 22 false (.bin .eql false (.tmp 24) (.const (.int
 .i64 0))), .g 26 22 false (.mov (.tmp 25)), .g 27 26 true (.fieldAddr 2 (.tmp 1)), .g 28 26 true (.load none (.tmp 27)), .g 29 26 true (.lenSl (.tmp 28)), .g 30 26 true (.bin .eql false (.tmp 29) (.const (.int .i64 0))),
 .g 31 22 false (.pick (.tmp 26) (.tmp 30) (.const (.bool false))), .pt 32 22 31, .m 2 32]) .ret))
def yv_ : LF := ⟨1, 33, c71, [.tmp 2]⟩
theorem Ba_ : at_ Tryz.prog Tryz.f71 yv_ := ah_
theorem lb_ (x : ax_) (hx : ax_.sz x ≤ 1048576) (h : List Row) : aa_ Tryz.prog 71 [.agg (ax_.cells x)] h (.val (.bool (dg_ x))) := by
 refine aj_ mixed Tryz.func71 Ba_ rfl rfl ?_ h
 simp (disch := omega) only [yv_, c71, ax_.cells, go_sem, Nat.reduceEqDiff, Nat.reduceAdd, ↓reduceIte]
 repeat' (first
  | exact ae_ _ _
  | (refine ad_ ?_; first | rfl | (simp only [dg_, *, Bool.true_and, Bool.and_false, Bool.false_and, Bool.true_or, Bool.false_or, decide_true, decide_false, Bool.and_self, Bool.or_self]; done) | (simp [dg_, *]; done))
  | simp (disch := omega) only [go_sem, Nat.reduceEqDiff, ↓reduceIte]
  | (refine aa_.call (gF_ _ _ _ _) ?_)
  | (refine aa_.q (gF_ _ _ _ _) ?_)
  | (refine aa_.call (he_ _ (ax_.sz_Events hx) _) ?_)
  | (refine aa_.q (he_ _ (ax_.sz_Events hx) _) ?_)
  | ((first | (apply aR_; assumption) | (apply aQ_; assumption) | (apply a3_; assumption) | (apply a4_; assumption)); intro hb; try simp only [hb])
  | ((first | (apply aG_; assumption) | (apply aE_; assumption) | (apply aL_; assumption) | (apply aM_; assumption)); intro hb; try simp only [hb])
  | ((first | apply av_ | apply ay_ | apply ak_ | apply al_) <;> intro hb <;> (try simp only [hb]) <;> (first | have hp := a1_ hb | have hp := aZ_ hb | have hp := a0_ hb | have hp := a2_ hb | skip)))
theorem n6_ {a b : ac_} (h : ¬ (a.Name = b.Name ∧ a.Subs = b.Subs)) : bL_ a b = true ∨ bL_ b a = true := by
 refine pj_ (fun q => h ⟨?_, ?_⟩)
 ·have := q.1; rwa [lF_] at this
 ·exact (qf_ _ _).1 q.2
theorem mB_ : ∀ (r : List ac_) (p : Option ac_), r.Pairwise (fun a b => bL_ a b = true) → (∀ q, p = some q → ∀ x ∈ r, bL_ q x = true) → (∀ x ∈ r, cq_ x = true) → dm_ p r = true
 | [], p, _, _, _ => by simp [dm_]
 | a :: r, p, h1, h2, h3 => by
  obtain ⟨h4, h5⟩ := List.pairwise_cons.1 h1
  simp only [dm_, Bool.and_eq_true]
  refine ⟨⟨h3 a (by simp), ?_⟩, mB_ r (some a) h5 (by rintro q e x hx; cases e; exact h4 x hx) (fun x hx => h3 x (by simp [hx]))⟩
  cases p with
  | none => rfl
  | some q => exact h2 q rfl a (by simp)
theorem jH_ {ns : List ac_} (h0 : ns.length ≤ 120) (h1 : ns.Pairwise (fun a b => bL_ a b = true)) (h2 : ∀ x ∈ ns, cq_ x = true) : aP_ ⟨ns⟩ = true := by
 simp only [aP_, Bool.and_eq_true, decide_eq_true_eq]
 exact ⟨by omega, mB_ ns none h1 (by simp) h2⟩
theorem gS_ {x : af_} (h : aP_ x = true) : x.Nodes.length ≤ 120 := (jQ_ h).1
theorem i3_ {ns : List ac_} {n : ByteArray} {s : List ByteArray} (h : bB_ ns n s = true) : ∃ hp : bo_ ns n s < ns.length, ns[bo_ ns n s].Name = n ∧ ns[bo_ ns n s].Subs = s := by
 unfold bB_ at h
 split at h
 ·rename_i a e
  obtain ⟨hp, e'⟩ := List.getElem?_eq_some_iff.1 e
  refine ⟨hp, ?_⟩
  rw [e']
  simp only [fz_, Bool.and_eq_true, decide_eq_true_eq] at h
  exact ⟨h.1, (iG_ _ _).1 h.2⟩
 ·cases h
theorem sf_ {ns : List ac_} {n : ByteArray} {s : List ByteArray} (h : bB_ ns n s = false) (hp : bo_ ns n s < ns.length) : ¬ (ns[bo_ ns n s].Name = n ∧ ns[bo_ ns n s].Subs = s) := by
 unfold bB_ at h
 rw [List.getElem?_eq_getElem hp] at h
 simp only at h
 intro q
 rw [fz_, (iG_ _ _).2 q.2, decide_eq_true q.1] at h
 cases h
def dr_ (ns : List ac_) (n : ByteArray) (s : List ByteArray) (v : ByteArray) : List ac_ := ns.take (bo_ ns n s) ++ ⟨n, s, v⟩ :: ns.drop (bo_ ns n s + (if bB_ ns n s = true then 1 else 0))
theorem oD_ {ns : List ac_} {n : ByteArray} {s : List ByteArray} {v : ByteArray} (h : bB_ ns n s = true) : dr_ ns n s v = ns.set (bo_ ns n s) ⟨n, s, v⟩ := by
 obtain ⟨hp, _⟩ := i3_ h
 rw [dr_, if_pos h, List.set_eq_take_append_cons_drop, if_pos hp]
theorem kU_ {ns : List ac_} {n : ByteArray} {s : List ByteArray} {v : ByteArray} (h : bB_ ns n s = false) : dr_ ns n s v = ns.take (bo_ ns n s) ++ ⟨n, s, v⟩ :: ns.drop (bo_ ns n s) := by
 rw [dr_, if_neg (by rw [h]; simp), Nat.add_zero]
theorem uo_ {ns : List ac_} {n : ByteArray} {s : List ByteArray} {v : ByteArray} : (dr_ ns n s v).length = if bB_ ns n s = true then ns.length else ns.length + 1 := by
 have := j8_ ns n s
 by_cases h : bB_ ns n s = true
 ·rw [oD_ h, if_pos h, ls_]
 ·have h' : bB_ ns n s = false := by simpa using h
  rw [kU_ h', if_neg h, la_, List.length_take, lc_, List.length_drop]; omega
theorem qb_ {x : af_} (h : aP_ x = true) {n : ByteArray} {s : List ByteArray} {v : ByteArray} (ht : eR_ n s = true) (hv : v.size ≤ 64) (hl : bB_ x.Nodes n s = true ∨ x.Nodes.length < 120) : aP_ ⟨dr_ x.Nodes n s v⟩ = true := by
 have hlen := gS_ h
 have hsort := List.pairwise_iff_getElem.1 (e8_ h)
 have hnode := k5_ h
 have hahead : ∀ a ∈ x.Nodes.take (bo_ x.Nodes n s), bL_ a ⟨n, s, v⟩ = true := by
  intro a ha
  obtain ⟨i, hi, rfl⟩ := List.mem_iff_getElem.1 ha
  rw [List.length_take] at hi
  rw [List.getElem_take]
  exact (j2_ h n s i (by omega)).2 (by omega)
 have hbehind : ∀ b ∈ x.Nodes.drop (bo_ x.Nodes n s + (if bB_ x.Nodes n s = true then 1 else 0)), bL_ ⟨n, s, v⟩ b = true := by
  intro b hb
  obtain ⟨i, hi, rfl⟩ := List.mem_iff_getElem.1 hb
  rw [List.length_drop] at hi
  rw [List.getElem_drop]
  by_cases hf : bB_ x.Nodes n s = true
  ·simp only [hf, if_true] at hi ⊢
   obtain ⟨hp, e1, e2⟩ := i3_ hf
   have := hsort (bo_ x.Nodes n s) (bo_ x.Nodes n s + 1 + i) hp (by omega) (by omega)
   unfold bL_ at this ⊢
   rw [e1, e2] at this
   exact this
  ·have hf' : bB_ x.Nodes n s = false := by simpa using hf
   simp only [hf', Bool.false_eq_true, if_false, Nat.add_zero] at hi ⊢
   have hp : bo_ x.Nodes n s < x.Nodes.length := by omega
   have h0 : bL_ ⟨n, s, v⟩ x.Nodes[bo_ x.Nodes n s] = true := by
    rcases n6_ (a := ⟨n, s, v⟩) (b := x.Nodes[bo_ x.Nodes n s]) (fun q => sf_ hf' hp ⟨q.1.symm, q.2.symm⟩) with q | q
    ·exact q
    ·have := (j2_ h n s _ hp).1 q; omega
   by_cases q : i = 0
   ·subst q; exact h0
   ·exact fP_ h0 (hsort _ _ hp (by omega) (by omega))
 refine jH_ ?_ ?_ ?_
 ·rw [uo_]; split
  ·exact hlen
  ·rename_i q
   rcases hl with hl | hl
   ·exact absurd hl q
   ·omega
 ·unfold dr_
  refine List.pairwise_append.2 ⟨(e8_ h).sublist (List.take_sublist _ _), List.pairwise_cons.2 ⟨hbehind, (e8_ h).sublist (List.drop_sublist _ _)⟩, ?_⟩
  intro a ha b hb
  rcases List.mem_cons.1 hb with e | e
  ·subst e; exact hahead a ha
  ·exact fP_ (hahead a ha) (hbehind b e)
 ·intro a ha
  unfold dr_ at ha
  rcases List.mem_append.1 ha with e | e
  ·exact hnode a (List.mem_of_mem_take e)
  ·rcases List.mem_cons.1 e with e | e
   ·subst e
    simp only [cq_, Bool.and_eq_true, decide_eq_true_eq]
    exact ⟨ht, by omega⟩
   ·exact hnode a (List.mem_of_mem_drop e)
theorem sW_ {x : af_} (h : aP_ x = true) (n : ByteArray) (s : List ByteArray) : aP_ ⟨cC_ x.Nodes n s⟩ = true := by
 refine jH_ (Nat.le_trans (List.length_filter_le _ _) (gS_ h)) ((e8_ h).sublist List.filter_sublist) (fun a ha => k5_ h a (List.mem_filter.1 ha).1)
theorem sK_ {α : Type} (f : α → Nat) (b : Nat) : ∀ xs : List α, (∀ x ∈ xs, f x ≤ b) → bY_ f xs ≤ b * xs.length
 | [], _ => by simp [bY_]
 | x :: xs, h => by
  have := sK_ f b xs fun y hy => h y (by simp [hy])
  have := h x (by simp)
  simp only [bY_, lc_, Nat.mul_add]; omega
theorem sE_ {a : ac_} (h : cq_ a = true) : ac_.sz a ≤ 172 := by
 obtain ⟨h1, h2, h3⟩ := nZ_ h
 have := pr_ h1
 have := pa_ h2
 unfold ac_.sz; omega
theorem sv_ {x : af_} (h : aP_ x = true) : af_.sz x ≤ 20760 := by
 obtain ⟨h1, h2⟩ := jQ_ h
 have := sK_ ac_.sz 172 x.Nodes fun a ha => sE_ (h2 a ha)
 unfold af_.sz
 simp only [ap_]; omega
theorem cX_ {x : af_} (h : aP_ x = true) : af_.sz x ≤ 1048576 := Nat.le_trans (sv_ h) (by decide)
theorem eE_ : aP_ ⟨[]⟩ = true := jH_ (by simp) List.Pairwise.nil (by simp)
def bv_ (c : aw_) : Bool := eR_ c.Name c.Subs && (decide (c.Kind = 1) && decide ((c.Value.size : Int) ≤ 64) || decide (c.Kind = 2) && decide (c.Value = txt []))
def bx_ (x : af_) (c : aw_) : af_ × Int :=
 if c.Kind = 1 then (if bB_ x.Nodes c.Name c.Subs = true ∨ x.Nodes.length < 120 then (⟨dr_ x.Nodes c.Name c.Subs c.Value⟩, 0) else (⟨[]⟩, 4)) else (⟨cC_ x.Nodes c.Name c.Subs⟩, 0)
theorem i2_ {x : af_} (h : aP_ x = true) {c : aw_} (hc : bv_ c = true) : aP_ (bx_ x c).1 = true := by
 simp only [bv_, Bool.and_eq_true, Bool.or_eq_true, decide_eq_true_eq] at hc
 unfold bx_
 split
 ·rename_i k
  split
  ·rename_i q
   refine qb_ h hc.1 ?_ q
   rcases hc.2 with ⟨_, q2⟩ | ⟨q2, _⟩
   ·omega
   ·omega
  ·exact eE_
 ·exact sW_ h _ _
def dv_ : af_ → List aw_ → af_ × Int
 | x, [] => (x, 0)
 | x, c :: cs => if bv_ c = true then (if (bx_ x c).2 = 0 then dv_ (bx_ x c).1 cs else (⟨[]⟩, (bx_ x c).2)) else (⟨[]⟩, 1)
theorem pZ_ : ∀ (cs : List aw_) {x : af_}, aP_ x = true → aP_ (dv_ x cs).1 = true
 | [], x, h => h
 | c :: cs, x, h => by
  unfold dv_
  split
  ·rename_i hc
   split
   ·exact pZ_ cs (i2_ h hc)
   ·exact eE_
  ·exact eE_
def cZ_ (x : af_) (cs : List aw_) : af_ × Int := if aP_ x = true then (if (cs.length : Int) ≤ 120 then dv_ x cs else (⟨[]⟩, 4)) else (⟨[]⟩, 1)
theorem t5_ (x : af_) (cs : List aw_) : af_.sz (cZ_ x cs).1 ≤ 1048576 := by
 unfold cZ_
 split
 ·rename_i h
  split
  ·exact cX_ (pZ_ cs h)
  ·exact cX_ eE_
 ·exact cX_ eE_
def c9_ (x : af_) (n : ByteArray) (s : List ByteArray) : Int := if bB_ x.Nodes n s = true ∨ x.Nodes.length < 120 then 0 else 4
theorem ux_ {H : List Row} {n : Nat} {p q u v b : AV} {r : AV} {f : List Nat} {w : Value} (h : az_ (Own H n) [p, b, .val w] [p, r, .val w] f) (v : Value) : az_ (Own H n) [p, b, .val v] [p, r, .val v] f := by
 obtain ⟨d, ds, f1, f2, e1, rfl, h1, h2⟩ := h
 simp only [List.cons.injEq] at e1
 obtain ⟨rfl, rfl⟩ := e1
 obtain ⟨d, ds, f3, f4, e1, rfl, h3, h4⟩ := h2
 simp only [List.cons.injEq] at e1
 obtain ⟨rfl, rfl⟩ := e1
 obtain ⟨d, ds, f5, f6, e1, rfl, h5, h6⟩ := h4
 simp only [List.cons.injEq] at e1
 obtain ⟨rfl, rfl⟩ := e1
 obtain ⟨_, rfl⟩ := h6
 cases n with
 | zero => exact h5.elim
 | succ n =>
  obtain ⟨rfl, _⟩ := h5
  exact ⟨_, _, f1, _, rfl, rfl, h1, _, _, f3, _, rfl, rfl, h3, _, _, [], [], rfl, rfl, ⟨rfl, .inl rfl⟩, rfl, rfl⟩
theorem sY_ {l k : Nat} {ts : List Tr} {t' : Tr} (hk : k < ts.length) (hf : t'.f = ts[k].f) : ∀ y ∈ b4_ l (ts.set k t'), y ∈ b4_ l ts := by
 have hmap : (ts.set k t').map Tr.f = ts.map Tr.f := by
  rw [List.map_set, hf]
  apply List.ext_getElem?
  intro i
  rw [List.getElem?_set]
  split
  ·rename_i e
   subst e
   rw [if_pos (by simpa using hk), List.getElem?_map, List.getElem?_eq_getElem hk]; rfl
  ·rfl
 intro y hy
 unfold b4_ at hy ⊢
 rwa [hmap] at hy
def x2_ : LC :=
 .seq (.ops [.ki 8 0]) (.seq (.ops [.m 12 0, .nc 13 12, .ld 14 1 13, .m 15 1, .m 16 2, .c3 17 183 14 15 16, .m 11 17, .ex 18 11 0, .ex 19 11 1, .m 9 18, .m 10 19]) (.seq (.block 0 (.seq (.ops [.m 36 10, .m 35 36]) (.cond
 (.tmp 35) (.ops [.m 37 0, .nc 38 37, .fa 39 0 38, .ln 40 39, .m 41 9, .m 42 3, .ia 43 3 40 41, .fa 44 2 43, .st 1 44 42]) (.seq (.ops [.m 46 0, .nc 47 46, .fa 48 0 47, .ln 49 48, .ll 50 49, .bk 51 .eql false 50 120, .m
 45 51]) (.cond (.tmp 45) (.seq (.ops [.ki 8 4]) .ret) (.gops [.m 20 0, .m 21 0, .nc 22 21, .fa 23 0 22, .ln 24 23, .m 25 9, .m 26 1, .m 27 2, .m 29 3] [(.c1 28 144 27, [.m 20 0, .m 21 0, .nc 22 21, .fa 23 0 22, .ln 24
 23, .m 25 9, .m 26 1, .m 29 3]), (.s 30 (.build (.agg #[.string ⟨#[]⟩, .slice none 0 0, .string ⟨#[]⟩]) [(0, 1), (1, 1), (2, 1)] [(0, .tmp 26), (1, .tmp 28), (2, .tmp 29)]), [.m 20 0, .m 21 0, .nc 22 21, .fa 23 0 22, .ln
 24 23, .m 25 9]), (.s 31 (.buildSlice 112 3 (.agg #[.string ⟨#[]⟩, .slice none 0 0, .string ⟨#[]⟩]) 1 [(0, .tmp 30)]), [.m 20 0, .m 21 0, .nc 22 21, .fa 23 0 22, .ln 24 23, .m 25 9]), (.c3 32 184 24 25 31, [.m 20 0]),
 (.nc 33 20, []), (.fa 34 0 33, []), (.st 1 34 32, [])])))))) (.seq (.ops [.ki 8 0]) .ret)))
def uN_ : LF := ⟨4, 52, x2_, [.tmp 8]⟩
theorem w8_ : at_ Tryz.prog Tryz.f145 uN_ := ah_
theorem kf_ {L lo : Nat} {H0 H : List Row} {x : af_} {sa : AV} (B : eg_ L lo H0 x) (mH : aI_ H0 H) (n : ByteArray) (s : List ByteArray) (v : ByteArray) (hx : aP_ x = true) (hs : ap_ ByteArray.size s ≤ 1048576) (hsa : ∀ H' : List Row, (∀ y, H0.length ≤ y → y < H.length → H'[y]? = H[y]?) → bR_ H' sa (.list 0 1 (s.map ar_))) {K : AV → List Row → Prop}
 (hk : ∀ H' : List Row, H.length ≤ H'.length → (∀ y, y < lo → H'[y]? = H[y]?) → (c9_ x n s = 0 → eg_ L lo H' ⟨dr_ x.Nodes n s v⟩) → K (.val (.int .i64 (c9_ x n s))) H') :
 callSem Tryz.prog 145 [.ptr L 1 0 0, .val (.string n), sa, .val (.string v)] H K := by
 refine bq_ mixed Tryz.func145 w8_ (cg_ rfl ?_)
 have hlow := B.low
 have hlo0 := hlow.1
 have B1 := B.more mH
 obtain ⟨a, o, ca, hF⟩ := B1.arg
 obtain ⟨l, m, ts, b0, d⟩ := B
 have lows0 := b0.at'.lows
 have b := b0.more mH
 obtain ⟨a', o', hS⟩ := b.box
 obtain rfl : a = a' := by rw [o] at o'; simpa using o'
 have hL := (List.getElem?_eq_some_iff.1 o).1
 have hr := b.at'.row
 have hml := wU_ b.at'.le d
 have hxl := gS_ hx
 have hle := b.at'.le
 have hll := b.at'.lt
 have hlo := b.at'.lows l List.mem_cons_self
 have hLl : L ≠ l := fun q => b.out (by rw [q]; exact List.mem_cons_self)
 have mlen := mH.len
 have hpl : aa_ Tryz.prog 183 [.agg [a], .val (.string n), sa] H (.tup [.val (.int .i64 (bo_ x.Nodes n s)), .val (.bool (bB_ x.Nodes n s))]) := aa_.anyR rfl (fun h => jS_ x n s (cX_ hx) hs hx h) (bj_.cons hF.arg.any (bj_.cons (cw_.same rfl) (bj_.cons (hsa H fun _ _ _ => rfl).any bj_.nil)))
 simp (disch := (first | omega | (simp only [ls_, la_, lc_, ln_]; first | done | omega))) only [go_sem, Nat.reduceEqDiff, reduceCtorEq, ↓reduceIte, uN_, x2_, o]
 refine aa_.call hpl ?_
 cases hf : bB_ x.Nodes n s
 case true =>
  obtain ⟨hp, e1, e2⟩ := i3_ hf
  have hpm : bo_ x.Nodes n s < m := by omega
  have hpt : bo_ x.Nodes n s < ts.length := by omega
  obtain ⟨c, g1, g2, g3⟩ := wu_ b.at' d hpm hpt hp
  have hC : c9_ x n s = 0 := by rw [c9_, if_pos (.inl hf)]
  rw [hC] at hk
  have fin : K (.val (.int .i64 0)) (H.set l ⟨.ty 112, 3, (ts.map Tr.c).set (bo_ x.Nodes n s) [.val (.string x.Nodes[bo_ x.Nodes n s].Name), c, .val (.string v)]⟩) := by
   refine hk _ (by simp) (fun y q1 => a9_ (by omega)) (fun _ => ?_)
   have hset : (ts.map Tr.c).set (bo_ x.Nodes n s) [.val (.string x.Nodes[bo_ x.Nodes n s].Name), c, .val (.string v)] = (ts.set (bo_ x.Nodes n s) ⟨[.val (.string x.Nodes[bo_ x.Nodes n s].Name), c, .val (.string v)], [.val (.string x.Nodes[bo_ x.Nodes n s].Name), .list 0 1 (x.Nodes[bo_ x.Nodes n s].Subs.map ar_), .val (.string v)], ts[bo_ x.Nodes n s].f⟩).map Tr.c := by
    rw [List.map_set]
   rw [hset]
   refine ⟨l, m, _, ⟨⟨a, (a9_ (Ne.symm hLl)).trans o, ?_⟩, b.at'.put hpt rfl ⟨rfl, ?_⟩ (fun k hk' => ?_), fun q => b.out (sY_ (t' := ⟨[.val (.string x.Nodes[bo_ x.Nodes n s].Name), c, .val (.string v)], [.val (.string x.Nodes[bo_ x.Nodes n s].Name), .list 0 1 (x.Nodes[bo_ x.Nodes n s].Subs.map ar_), .val (.string v)], ts[bo_ x.Nodes n s].f⟩) hpt rfl L q), b.lt⟩, ?_⟩
   ·rcases hS with rfl | ⟨rfl, q⟩
    ·exact .inl (by rw [ls_])
    ·exact .inr ⟨by rw [ls_], by rw [ls_]; exact q⟩
   ·simp only [List.all_cons, List.all_nil, g3, Bool.true_and, Bool.and_true]; rfl
   ·rw [g1, g2] at hk'
    exact ux_ (u := .undef) (v := .undef) (q := .undef) hk' _
   ·rw [oD_ hf, List.take_set, List.map_set, d, List.map_set, e1, e2]; rfl
  have hget : (ts.map Tr.c)[bo_ x.Nodes n s]? = some [.val (.string x.Nodes[bo_ x.Nodes n s].Name), c, .val (.string x.Nodes[bo_ x.Nodes n s].Value)] := by
   rw [List.getElem?_map, List.getElem?_eq_getElem hpt, Option.map_some, g1]
  rcases hS with rfl | ⟨rfl, rfl⟩
  ·simp (disch := (first | omega | (simp only [ls_, la_, lc_, ln_]; first | done | omega))) only [go_sem, Nat.reduceEqDiff, Nat.reduceAdd, reduceCtorEq, ↓reduceIte, o, hr, hget, hpm, List.length_map, Int.zero_add, Nat.zero_add]
   exact fin
  ·simp (disch := (first | omega | (simp only [ls_, la_, lc_, ln_]; first | done | omega))) only [go_sem, Nat.reduceEqDiff, Nat.reduceAdd, reduceCtorEq, ↓reduceIte, o, hr, hget, hpm, List.length_map, Nat.zero_add]
   exact fin
 by_cases h120 : x.Nodes.length = 120
 ·have hC : c9_ x n s = 4 := by rw [c9_, if_neg (by rw [hf, h120]; simp)]
  rw [hC] at hk
  have h120' : m = 120 := by omega
  have fin : K (.val (.int .i64 4)) H := hk _ (Nat.le_refl _) (fun _ _ => rfl) (fun q => by cases q)
  have t120 : ((m : Int) = 120) = True := eq_true (by omega)
  rcases hS with rfl | ⟨rfl, q⟩
  ·simp (disch := (first | omega | (simp only [ls_, la_, lc_, ln_]; first | done | omega))) only [go_sem, Nat.reduceEqDiff, reduceCtorEq, ↓reduceIte, o, hr, t120, List.length_map, Nat.sub_zero]
   exact fin
  ·have t120' : ((ts.length : Int) = 120) = True := eq_true (by omega)
   simp (disch := (first | omega | (simp only [ls_, la_, lc_, ln_]; first | done | omega))) only [go_sem, Nat.reduceEqDiff, reduceCtorEq, ↓reduceIte, o, hr, t120', List.length_map]
   exact fin
 have hC : c9_ x n s = 0 := by rw [c9_, if_pos (.inr (by omega))]
 rw [hC] at hk
 have h120' : ((m : Int) = 120) = False := eq_false (by omega)
 have hpm : bo_ x.Nodes n s ≤ m := by have := j8_ x.Nodes n s; omega
 have clone : ∀ K' : AV → List Row → Prop, (∀ (H1 : List Row) (cl : Nat), aI_ H H1 → FB H.length H1.length H1 (.own cl s.length) (.list 0 1 (s.map ar_)) → K' (.own cl s.length) H1) → callSem Tryz.prog 144 [sa] H K' := fun K' hK' => by
  refine fE_ (cD_ s (aJ_ hs)) (bj_.cons (hsa H fun _ _ _ => rfl).any bj_.nil) (fun av H1 m1 F1 q1 => ?_)
  obtain ⟨cl, rfl⟩ := q1
  exact hK' H1 cl m1 F1
 have ins : ∀ (H1 : List Row) (cl : Nat), aI_ H H1 → FB H.length H1.length H1 (.own cl s.length) (.list 0 1 (s.map ar_)) → ∀ K' : AV → List Row → Prop, (∀ (av : AV) (H2 : List Row), ((∃ a b c, av = .sub a b 0 c) ∨ ∃ a b, av = .own a b) → H1.length ≤ H2.length → H2[L]? = some ⟨.ty 30, 1, [[a]]⟩ → K (.val (.int .i64 0)) (H2.set L ⟨.ty 30, 1, [[av]]⟩) → K' av H2) →
  callSem Tryz.prog 184 [.sub l ts.length 0 m, .val (.int .i64 (bo_ x.Nodes n s)), .own H1.length 1] (H1 ++ [⟨.ty 112, 3, [[.val (.string n), .own cl s.length, .val (.string v)]]⟩]) K' := by
  intro H1 cl m1 F1 K' hK'
  have l1 := m1.len
  have s1 := (b.at'.more m1).more (aI_.app H1 [⟨.ty 112, 3, [[.val (.string n), .own cl s.length, .val (.string v)]]⟩])
  have hN : as_ H.length H1.length (H1 ++ [⟨.ty 112, 3, [[.val (.string n), .own cl s.length, .val (.string v)]]⟩]) [.val (.string n), .own cl s.length, .val (.string v)] (ac_.cells ⟨n, s, v⟩) :=
   as_.val _ (as_.cons (F1.tree.keep fun y _ q => aS_ q) (as_.val _ (as_.nil _ _ _)) ⟨l1, Nat.le_refl _⟩)
  refine gD_ s1 hpm (by omega) (a6_ rfl) hN ⟨rfl, fun r hr => ?_⟩ (fun y hy => (b.at'.lows y hy).2) (by omega) l1 (Nat.le_refl _) (fun av H2 l' ts' k1 k2 k3 k4 k5 k6 => ?_)
  ·simp only [ac_.cells, List.mem_cons, List.not_mem_nil, or_false] at hr
   rcases hr with rfl | rfl | rfl <;> rfl
  ·have hll' := (k3.lows l' List.mem_cons_self).1
   have k1' : H1.length + 1 ≤ H2.length := by simpa using k1
   have hL2 : H2[L]? = some ⟨.ty 30, 1, [[a]]⟩ := by
    rw [k2 L (by simp; omega) (by omega), aS_ (by omega), m1.kept L hL]; exact o
   refine hK' av H2 (by rcases k4 with q | ⟨q, _⟩; exact .inl ⟨_, _, _, q⟩; exact .inr ⟨_, _, q⟩) (by omega) hL2 (hk _ (by rw [ls_]; omega) (fun y q1 => ?_) (fun _ => ?_))
   ·rw [a9_ (by omega), k2 y (by simp; omega) (by omega), aS_ (by omega), m1.kept y (by omega)]
   ·have hLf : ∀ y ∈ b4_ l' ts', L ≠ y := fun y hy q => by
     rcases k6 y hy with q2 | q2
     ·exact b.out (by rw [q]; exact q2)
     ·omega
    refine ⟨l', m + 1, ts', ⟨⟨av, bf_ (by omega), k4⟩, k3.keep (fun y hy => a9_ (hLf y hy)) (by simp), fun q => hLf L q rfl, b.lt⟩, ?_⟩
    ·rw [k5, d, kU_ hf, List.map_append, List.map_cons, List.map_take, List.map_drop]
 rcases hS with rfl | ⟨rfl, q⟩
 ·simp (disch := (first | omega | (simp only [ls_, la_, lc_, ln_]; first | done | omega))) only [go_sem, Nat.reduceEqDiff, reduceCtorEq, ↓reduceIte, o, hr, h120', List.length_map, Nat.sub_zero]
  refine clone _ (fun H1 cl m1 F1 => ?_)
  have o1 := m1.at o
  have l1 := m1.len
  simp (disch := (first | omega | (simp only [ls_, la_, lc_, ln_]; first | done | omega))) only [aS_, go_sem, Nat.reduceEqDiff, Nat.reduceAdd, Nat.reduceLeDiff, reduceCtorEq, ↓reduceIte, o1, bA_, Option.map_some]
  refine ins H1 cl m1 F1 _ (fun av H2 cav k1 o2 hfin => ?_)
  rcases cav with ⟨a1, a2, a3, rfl⟩ | ⟨a1, a2, rfl⟩
  all_goals
   simp (disch := (first | omega | (simp only [ls_, la_, lc_, ln_]; first | done | omega))) only [go_sem, Nat.reduceEqDiff, reduceCtorEq, ↓reduceIte, o2]
   exact hfin
 ·have h120'' : ((ts.length : Int) = 120) = False := eq_false (by omega)
  simp (disch := (first | omega | (simp only [ls_, la_, lc_, ln_]; first | done | omega))) only [go_sem, Nat.reduceEqDiff, reduceCtorEq, ↓reduceIte, o, hr, h120'', List.length_map]
  refine clone _ (fun H1 cl m1 F1 => ?_)
  have o1 := m1.at o
  have l1 := m1.len
  simp (disch := (first | omega | (simp only [ls_, la_, lc_, ln_]; first | done | omega))) only [aS_, go_sem, Nat.reduceEqDiff, Nat.reduceAdd, Nat.reduceLeDiff, reduceCtorEq, ↓reduceIte, o1, bA_, Option.map_some]
  refine callSem.own_sub ?_
  have := ins H1 cl m1 F1
  rw [q] at this
  refine this _ (fun av H2 cav k1 o2 hfin => ?_)
  rcases cav with ⟨a1, a2, a3, rfl⟩ | ⟨a1, a2, rfl⟩
  all_goals
   simp (disch := (first | omega | (simp only [ls_, la_, lc_, ln_]; first | done | omega))) only [go_sem, Nat.reduceEqDiff, reduceCtorEq, ↓reduceIte, o2]
   exact hfin
def fZ_ (x : ab_) : aw_ := ⟨if x.Kind = 3 then 2 else 1, x.Name, x.Subs, x.Value⟩
theorem u4_ {x : ab_} (k : x.Kind = 3) : fZ_ x = ⟨2, x.Name, x.Subs, x.Value⟩ := by rw [fZ_, if_pos k]
theorem vt_ {x : ab_} (k : ¬ x.Kind = 3) : fZ_ x = ⟨1, x.Name, x.Subs, x.Value⟩ := by rw [fZ_, if_neg k]
theorem cn_ {α : Type} {es : List α} {k : Nat} (h : k < es.length) : es.drop k = es[k] :: es.drop (k + 1) := List.drop_eq_getElem_cons h
theorem se_ {x : af_} {cs : List aw_} {k : Nat} (h : k < cs.length) (hc : bv_ cs[k] = true) (h0 : (bx_ x cs[k]).2 = 0) : dv_ x (cs.drop k) = dv_ (bx_ x cs[k]).1 (cs.drop (k + 1)) := by
 rw [cn_ h, dv_, if_pos hc, if_pos h0]
theorem r4_ {x : af_} {cs : List aw_} {k : Nat} (h : k < cs.length) (hc : bv_ cs[k] = true) (h0 : ¬ (bx_ x cs[k]).2 = 0) : dv_ x (cs.drop k) = (⟨[]⟩, (bx_ x cs[k]).2) := by
 rw [cn_ h, dv_, if_pos hc, if_neg h0]
theorem ty_ {x : af_} {cs : List aw_} {k : Nat} (h : k < cs.length) (hc : bv_ cs[k] = false) : dv_ x (cs.drop k) = (⟨[]⟩, 1) := by
 rw [cn_ h, dv_, if_neg (by rw [hc]; simp)]
theorem nN_ {x : af_} {cs : List aw_} {k : Nat} (h : cs.length ≤ k) : dv_ x (cs.drop k) = (x, 0) := by
 rw [List.drop_eq_nil_of_le h, dv_]
theorem fK_ {h0 hn : List Row} {x1 x2 y1 y2 : Row} {k : Int} {n v : ByteArray} {s : List ByteArray} {l : Nat} (hf : dV_ (h0 ++ [y1, y2]).length ((h0 ++ [y1, y2]) ++ hn) (.own l s.length) (.list 0 1 (s.map ar_))) :
 dV_ h0.length (h0 ++ x1 :: x2 :: hn) (.agg [.val (.int .i64 k), .val (.string n), .own l s.length, .val (.string v)]) (.agg (aw_.cells ⟨k, n, s, v⟩)) := by
 have hb := (hf.b.keep (H' := h0 ++ x1 :: x2 :: hn) fun l q1 q2 => xe_ q1).widen (lo' := h0.length) (hi' := (h0 ++ x1 :: x2 :: hn).length) (by simp) (by simp)
 exact (aF_.agg (as_.val _ (as_.val _ (as_.cons hb (as_.val _ (as_.nil _ _ _)) ⟨by simp, Nat.le_refl _⟩)))).fresh
def c96 : LC :=
 .seq (.ops [.s 1 (.box 79 (.tmp 0)), .s 2 (.alloc 126 (.agg #[.int .i64 0, .string ⟨#[]⟩, .slice none 0 0, .string ⟨#[]⟩]))]) (.seq (.ops [.ki 3 1]) (.seq (.seq (.ops [.fa 4 0 1, .ln 5 4, .bk 6 .eql false 5 3]) (.cond
 (.tmp 6) (.ops [.ki 3 2]) .skip)) (.seq (.gops [.m 7 3, .fa 8 1 1, .ln 9 8, .fa 10 2 1, .ln 11 10, .fa 13 3 1, .ln 14 13] [(.c1 12 144 11, [.m 7 3, .fa 8 1 1, .ln 9 8, .fa 13 3 1, .ln 14 13]), (.s 15 (.build (.agg #[.int
 .i64 0, .string ⟨#[]⟩, .slice none 0 0, .string ⟨#[]⟩]) [(0, 1), (1, 1), (2, 1), (3, 1)] [(0, .tmp 7), (1, .tmp 9), (2, .tmp 12), (3, .tmp 14)]), []), (.st 4 2 15, [])]) .ret)))
def th_ : LF := ⟨1, 16, c96, [.cell 2 (some 4)]⟩
theorem Bd_ : at_ Tryz.prog Tryz.f96 th_ := ah_
def tL_ : LC :=
 .seq (.ops [.s 1 (.box 79 (.tmp 0)), .s 2 (.alloc 126 (.agg #[.int .i64 0, .string ⟨#[]⟩, .slice none 0 0, .string ⟨#[]⟩]))]) (.seq (.ops [.ki 3 1]) (.seq (.seq (.ops [.fa 4 0 1, .ln 5 4, .bk 6 .eql false 5 3]) (.cond
 (.tmp 6) (.ops [.ki 3 2]) .skip)) (.seq (.gops [.m 7 3, .fa 8 1 1, .ln 9 8, .fa 10 2 1, .ln 11 10, .fa 13 3 1, .ln 14 13] [(.c1 12 85 11, [.m 7 3, .fa 8 1 1, .ln 9 8, .fa 13 3 1, .ln 14 13]), (.s 15 (.build (.agg #[.int
 .i64 0, .string ⟨#[]⟩, .slice none 0 0, .string ⟨#[]⟩]) [(0, 1), (1, 1), (2, 1), (3, 1)] [(0, .tmp 7), (1, .tmp 9), (2, .tmp 12), (3, .tmp 14)]), []), (.st 4 2 15, [])]) .ret)))
def qG_ : LF := ⟨1, 16, tL_, [.cell 2 (some 4)]⟩
theorem Ap_ : at_ Tryz.prog Tryz.f134 qG_ := ah_
theorem jh_ (x : ab_) (hx : ab_.sz x ≤ 1048576) : aN_ Tryz.prog 96 [.agg (ab_.cells x)] (.agg (aw_.cells (fZ_ x))) (fun a => ∃ l, a = .agg [.val (.int .i64 (fZ_ x).Kind), .val (.string x.Name), .own l x.Subs.length, .val (.string x.Value)]) := by
 refine c6_ mixed Tryz.func96 Bd_ rfl (fun h0 => ?_)
 have h2 := aJ_ (ab_.sz_Subs hx)
 by_cases k3 : x.Kind = 3
 ·simp (disch := omega) only [th_, c96, ab_.cells, k3, ao_, go_sem, Nat.reduceEqDiff, Nat.reduceAdd, ↓reduceIte]
  refine cD_ x.Subs h2 _ _ (fun av hn hf hq => ?_)
  obtain ⟨l, rfl⟩ := hq
  simp (disch := omega) only [bA_, Option.map_some, cl_, List.append_assoc, go_sem, Nat.reduceEqDiff, Nat.reduceAdd, Nat.reduceLeDiff, ↓reduceIte]
  rw [u4_ k3]
  exact ⟨_, rfl, fK_ hf, _, rfl⟩
 ·have k3' : (x.Kind = 3) = False := eq_false k3
  simp (disch := omega) only [th_, c96, ab_.cells, k3', ao_, go_sem, Nat.reduceEqDiff, Nat.reduceAdd, ↓reduceIte]
  refine cD_ x.Subs h2 _ _ (fun av hn hf hq => ?_)
  obtain ⟨l, rfl⟩ := hq
  simp (disch := omega) only [bA_, Option.map_some, cl_, List.append_assoc, go_sem, Nat.reduceEqDiff, Nat.reduceAdd, Nat.reduceLeDiff, ↓reduceIte]
  rw [vt_ k3]
  exact ⟨_, rfl, fK_ hf, _, rfl⟩
theorem iD_ (x : ab_) (hx : ab_.sz x ≤ 1048576) : aN_ Tryz.prog 134 [.agg (ab_.cells x)] (.agg (aw_.cells (fZ_ x))) (fun a => ∃ l, a = .agg [.val (.int .i64 (fZ_ x).Kind), .val (.string x.Name), .own l x.Subs.length, .val (.string x.Value)]) := by
 refine c6_ mixed Tryz.func134 Ap_ rfl (fun h0 => ?_)
 have h2 := aJ_ (ab_.sz_Subs hx)
 by_cases k3 : x.Kind = 3
 ·simp (disch := omega) only [qG_, tL_, ab_.cells, k3, ao_, go_sem, Nat.reduceEqDiff, Nat.reduceAdd, ↓reduceIte]
  refine gr_ x.Subs h2 _ _ (fun av hn hf hq => ?_)
  obtain ⟨l, rfl⟩ := hq
  simp (disch := omega) only [bA_, Option.map_some, cl_, List.append_assoc, go_sem, Nat.reduceEqDiff, Nat.reduceAdd, Nat.reduceLeDiff, ↓reduceIte]
  rw [u4_ k3]
  exact ⟨_, rfl, fK_ hf, _, rfl⟩
 ·have k3' : (x.Kind = 3) = False := eq_false k3
  simp (disch := omega) only [qG_, tL_, ab_.cells, k3', ao_, go_sem, Nat.reduceEqDiff, Nat.reduceAdd, ↓reduceIte]
  refine gr_ x.Subs h2 _ _ (fun av hn hf hq => ?_)
  obtain ⟨l, rfl⟩ := hq
  simp (disch := omega) only [bA_, Option.map_some, cl_, List.append_assoc, go_sem, Nat.reduceEqDiff, Nat.reduceAdd, Nat.reduceLeDiff, ↓reduceIte]
  rw [vt_ k3]
  exact ⟨_, rfl, fK_ hf, _, rfl⟩
def bW_ (xs : List ab_) : List aw_ := (xs.filter co_).map fZ_
theorem g2_ {xs : List ab_} {k : Nat} (hlt : k < xs.length) (h : co_ xs[k] = true) : bW_ (xs.take (k + 1)) = bW_ (xs.take k) ++ [fZ_ xs[k]] := by
 unfold bW_; rw [List.take_succ_eq_append_getElem hlt, List.filter_append, List.map_append]; simp only [List.filter_cons, List.filter_nil, h, if_true, List.map_cons, List.map_nil]
theorem g1_ {xs : List ab_} {k : Nat} (hlt : k < xs.length) (h : co_ xs[k] = false) : bW_ (xs.take (k + 1)) = bW_ (xs.take k) := by
 unfold bW_; rw [List.take_succ_eq_append_getElem hlt, List.filter_append, List.map_append]; simp only [List.filter_cons, List.filter_nil, h, Bool.false_eq_true, if_false, List.map_nil, List.append_nil]
theorem mA_ (xs : List ab_) (k : Nat) : (bW_ (xs.take k)).length ≤ k := by
 simp only [bW_, List.length_map]
 exact Nat.le_trans (List.length_filter_le _ _) (by simp; omega)
def c75 : LC :=
 .seq (.ops [.s 2 (.mov (.const (.slice none 0 0)))]) (.seq (.ops [.s 6 (.buildSlice 126 4 (.agg #[.int .i64 0, .string ⟨#[]⟩, .slice none 0 0, .string ⟨#[]⟩]) 0 []), .m 3 6]) (.seq (.seq (.ops [.m 7 0, .ll 8 7, .ki 9 0])
 (.block 0 (.loop (.seq (.ops [.bb 10 .lss false 9 8]) (.seq (.cond (.tmp 10) .skip (.exit 0)) (.seq (.block 1 (.seq (.ops [.ia 11 5 7 9, .ld 12 5 11, .s 5 (.alloc 79 (.agg #[.int .i64 0, .string ⟨#[]⟩, .slice none 0 0,
 .string ⟨#[]⟩, .int .i64 0])), .st 5 5 12]) (.seq (.ops [.ld 13 5 5, .c1 14 94 13]) (.cond (.tmp 14) (.ops [.m 15 3, .ld 16 5 5, .c1 17 96 16, .s 18 (.buildSlice 126 4 (.agg #[.int .i64 0, .string ⟨#[]⟩, .slice none 0 0,
 .string ⟨#[]⟩]) 1 [(0, .tmp 17)]), .ap 19 126 4 64 15 18, .m 3 19]) .skip)))) (.ops [.bk 20 .add false 9 1, .m 9 20]))))))) (.seq (.ops [.m 21 3, .m 2 21]) .ret)))
def xM_ : LF := ⟨1, 22, c75, [.tmp 2]⟩
theorem Bh_ : at_ Tryz.prog Tryz.f75 xM_ := ah_
def As_ : LC :=
 .seq (.ops [.s 2 (.mov (.const (.slice none 0 0)))]) (.seq (.ops [.s 5 (.buildSlice 126 4 (.agg #[.int .i64 0, .string ⟨#[]⟩, .slice none 0 0, .string ⟨#[]⟩]) 0 []), .m 3 5]) (.seq (.seq (.ops [.ki 4 0]) (.block 0 (.loop
 (.seq (.seq (.ops [.m 6 4, .m 7 0, .ll 8 7, .bb 9 .lss false 6 8]) (.cond (.tmp 9) .skip (.exit 0))) (.seq (.block 1 (.seq (.ops [.m 12 0, .m 13 4, .ia 14 5 12 13, .ld 15 5 14, .c1 16 120 15]) (.cond (.tmp 16) (.ops [.m
 17 3, .m 18 0, .m 19 4, .ia 20 5 18 19, .ld 21 5 20, .c1 22 134 21, .s 23 (.buildSlice 126 4 (.agg #[.int .i64 0, .string ⟨#[]⟩, .slice none 0 0, .string ⟨#[]⟩]) 1 [(0, .tmp 22)]), .ap 24 126 4 64 17 23, .m 3 24])
 .skip))) (.ops [.m 10 4, .bk 11 .add false 10 1, .m 4 11])))))) (.seq (.ops [.m 25 3, .m 2 25]) .ret)))
def uD_ : LF := ⟨1, 26, As_, [.tmp 2]⟩
theorem xx_ : at_ Tryz.prog Tryz.f115 uD_ := ah_
theorem ik_ (xs : List ab_) (hs : ap_ ab_.sz xs ≤ 1048576) : aN_ Tryz.prog 115 [.list 0 5 (xs.map ab_.cells)] (.list 0 4 ((bW_ xs).map aw_.cells)) (fun a => ∃ l, a = .own l (bW_ xs).length) := by
 refine cd_ mixed Tryz.func115 xx_ rfl (fun h0 => ?_)
 have hl := aJ_ hs
 have hm : ∀ e ∈ xs, ab_.sz e ≤ 1048576 := fun e he => by have := b5_ (f := ab_.sz) he; omega
 simp (disch := omega) only [uD_, As_, go_sem, ↓reduceIte]
 refine aK_ (fun n t h => ∃ (k : Nat) (done : List (List AV)), t 0 = .list 0 5 (xs.map ab_.cells) ∧ t 3 = .own h0.length done.length ∧ t 4 = .val (.int .i64 k) ∧ aI_ h0 h ∧ cj_ h0.length h 126 4 done ((bW_ (xs.take k)).map aw_.cells) ∧ done.length = (bW_ (xs.take k)).length ∧ n = xs.length - k ∧ k ≤ xs.length) xs.length ?_ ?_
 ·exact ⟨0, [], rfl, rfl, rfl, aI_.app _ _, cj_.zero (by rw [cP_]; rfl), rfl, rfl, Nat.zero_le _⟩
 rintro J hJ n t h ⟨k, done, t0, t3, tk, hM, hG, hd, rfl, hk⟩
 have o3 := hG.row
 by_cases hlt : k < xs.length
 ·have w3 := fun l => aC_ (l := l) o3
  have ml := hM.len
  have gl := hG.lt
  have hcl := mA_ xs k
  have hG' := fun r : Row => hG.more (H' := h ++ [r]) (by simp) (fun y q1 q2 => List.getElem?_append_left q2)
  simp (disch := omega) only [t0, t3, tk, hlt, ab_.cells, ao_, go_sem, Nat.reduceEqDiff, Nat.reduceAdd, reduceCtorEq, ↓reduceIte]
  refine aa_.call (hA_ xs[k] _) ?_
  by_cases hT : co_ xs[k] = true
  ·simp (disch := omega) only [t0, t3, tk, hT, ab_.cells, ao_, go_sem, Nat.reduceEqDiff, Nat.reduceAdd, reduceCtorEq, ↓reduceIte]
   refine b0_ (iD_ xs[k] (hm _ (List.getElem_mem hlt))) (fun av H1 m1 F1 q1 => ?_)
   obtain ⟨l, rfl⟩ := q1
   have p3 := m1.at (o3)
   have v3 := fun l => aC_ (l := l) p3
   have l1 := m1.len
   skip
   simp (disch := omega) only [tk, v3, List.set_append_left, go_sem, Nat.reduceEqDiff, Nat.reduceAdd, Nat.reduceLeDiff, ↓reduceIte]
   refine ⟨by omega, by omega, xs.length - (k + 1), by omega, hJ _ _ _ ⟨k + 1, done ++ [[.val (.int .i64 (fZ_ xs[k]).Kind), .val (.string xs[k].Name), .own l xs[k].Subs.length, .val (.string xs[k].Value)]], by simp [upd, t0], by simp [upd], by simp [upd], ?_, ?_, ?_, rfl, by omega⟩⟩
   ·exact (((hM).trans m1).set (by omega)).add _
   ·rw [g2_ hlt hT, List.map_append]
    refine (hG).step F1.tree.unagg m1.len (fun y q1 q2 => m1.kept y q2) (by simp) (fun y q1 q2 => ?_) ?_
    ·rw [List.getElem?_append_left (by simpa using q2), List.getElem?_set_ne (by omega)]
    ·exact aC_ (jj_ p3 _)
   ·rw [g2_ hlt hT]; simp [hd]
  ·have hT' : co_ xs[k] = false := by simpa using hT
   simp (disch := omega) only [t0, t3, tk, hT', ab_.cells, ao_, go_sem, Nat.reduceEqDiff, Nat.reduceAdd, reduceCtorEq, ↓reduceIte]
   refine ⟨xs.length - (k + 1), by omega, hJ _ _ _ ⟨k + 1, done, by simp [upd, t0], by simp [upd, t3], by simp [upd], hM, ?_, ?_, rfl, by omega⟩⟩
   ·rw [g1_ hlt hT']
    exact hG
   ·rw [g1_ hlt hT']; exact hd
 ·simp (disch := omega) only [t0, t3, tk, hlt, ao_, go_sem, Nat.reduceEqDiff, reduceCtorEq, ↓reduceIte]
  have e : k = xs.length := by omega
  subst e
  rw [List.take_length] at hG hd
  exact ⟨⟨hM, hG.done rfl⟩, _, by rw [hd]⟩
theorem iP_ (xs : List ab_) (hs : ap_ ab_.sz xs ≤ 1048576) : aN_ Tryz.prog 75 [.list 0 5 (xs.map ab_.cells)] (.list 0 4 ((bW_ xs).map aw_.cells)) (fun a => ∃ l, a = .own l (bW_ xs).length) := by
 refine cd_ mixed Tryz.func75 Bh_ rfl (fun h0 => ?_)
 have hl := aJ_ hs
 have hm : ∀ e ∈ xs, ab_.sz e ≤ 1048576 := fun e he => by have := b5_ (f := ab_.sz) he; omega
 simp (disch := omega) only [xM_, c75, go_sem, reduceCtorEq, ↓reduceIte]
 refine aK_ (fun n t h => ∃ (k : Nat) (done : List (List AV)), t 7 = .list 0 5 (xs.map ab_.cells) ∧ t 8 = .val (.int .i64 xs.length) ∧ t 3 = .own h0.length done.length ∧ t 9 = .val (.int .i64 k) ∧ aI_ h0 h ∧ cj_ h0.length h 126 4 done ((bW_ (xs.take k)).map aw_.cells) ∧ done.length = (bW_ (xs.take k)).length ∧ n = xs.length - k ∧ k ≤ xs.length) xs.length ?_ ?_
 ·exact ⟨0, [], rfl, rfl, rfl, rfl, aI_.app _ _, cj_.zero (by rw [cP_]; rfl), rfl, rfl, Nat.zero_le _⟩
 rintro J hJ n t h ⟨k, done, t7, t8, t3, tk, hM, hG, hd, rfl, hk⟩
 have o3 := hG.row
 by_cases hlt : k < xs.length
 ·have w3 := fun l => aC_ (l := l) o3
  have ml := hM.len
  have gl := hG.lt
  have hcl := mA_ xs k
  have hG' := fun r : Row => hG.more (H' := h ++ [r]) (by simp) (fun y q1 q2 => List.getElem?_append_left q2)
  simp (disch := omega) only [t7, t8, t3, tk, hlt, ab_.cells, ao_, go_sem, Nat.reduceEqDiff, Nat.reduceAdd, ↓reduceIte]
  refine aa_.call (lf_ xs[k] _) ?_
  by_cases hT : co_ xs[k] = true
  ·simp (disch := omega) only [t3, tk, hT, ao_, go_sem, Nat.reduceEqDiff, Nat.reduceAdd, ↓reduceIte]
   refine b0_ (jh_ xs[k] (hm _ (List.getElem_mem hlt))) (fun av H1 m1 F1 q1 => ?_)
   obtain ⟨l, rfl⟩ := q1
   have p3 := m1.at (aC_ o3)
   have v3 := fun l => aC_ (l := l) p3
   have l1 := m1.len
   simp only [la_, lc_, ln_] at l1
   simp (disch := omega) only [tk, v3, List.set_append_left, go_sem, Nat.reduceEqDiff, Nat.reduceAdd, Nat.reduceLeDiff, ↓reduceIte]
   refine ⟨by omega, by omega, xs.length - (k + 1), by omega, hJ _ _ _ ⟨k + 1, done ++ [[.val (.int .i64 (fZ_ xs[k]).Kind), .val (.string xs[k].Name), .own l xs[k].Subs.length, .val (.string xs[k].Value)]], by simp [upd, t7], by simp [upd, t8], by simp [upd], by simp [upd], ?_, ?_, ?_, rfl, by omega⟩⟩
   ·exact (((hM.add _).trans m1).set (by omega)).add _
   ·rw [g2_ hlt hT, List.map_append]
    refine (hG' _).step F1.tree.unagg m1.len (fun y q1 q2 => m1.kept y q2) (by simp) (fun y q1 q2 => ?_) ?_
    ·rw [List.getElem?_append_left (by simpa using q2), List.getElem?_set_ne (by omega)]
    ·exact aC_ (jj_ p3 _)
   ·rw [g2_ hlt hT]; simp [hd]
  ·have hT' : co_ xs[k] = false := by simpa using hT
   simp (disch := omega) only [t3, tk, hT', ao_, go_sem, Nat.reduceEqDiff, Nat.reduceAdd, ↓reduceIte]
   refine ⟨xs.length - (k + 1), by omega, hJ _ _ _ ⟨k + 1, done, by simp [upd, t7], by simp [upd, t8], by simp [upd, t3], by simp [upd], hM.add _, ?_, ?_, rfl, by omega⟩⟩
   ·rw [g1_ hlt hT']
    exact hG' _
   ·rw [g1_ hlt hT']; exact hd
 ·simp (disch := omega) only [t7, t8, t3, tk, hlt, ao_, go_sem, Nat.reduceEqDiff, Nat.reduceAdd, ↓reduceIte]
  have e : k = xs.length := by omega
  subst e
  rw [List.take_length] at hG hd
  exact ⟨⟨hM, hG.done rfl⟩, _, by rw [hd]⟩
theorem oi_ : ∀ (xs : List ab_), ap_ aw_.sz (bW_ xs) ≤ ap_ ab_.sz xs
 | [] => Nat.le_refl _
 | x :: xs => by
  have ih := oi_ xs
  have e1 : ap_ ab_.sz (x :: xs) = ap_ ab_.sz xs + 1 + ab_.sz x := by simp only [ap_, bY_, lc_]; omega
  by_cases hT : co_ x = true
  ·have e2 : bW_ (x :: xs) = fZ_ x :: bW_ xs := by simp [bW_, hT]
   have e3 : aw_.sz (fZ_ x) ≤ ab_.sz x := Nat.le_refl (x.Name.size + ap_ ByteArray.size x.Subs + x.Value.size)
   rw [e2, e1]
   simp only [ap_, bY_, lc_] at ih ⊢
   omega
  ·have e2 : bW_ (x :: xs) = bW_ xs := by simp [bW_, hT]
   rw [e2, e1]; omega
theorem n4_ {x : af_} {c : aw_} (h : c.Kind = 1) : (bx_ x c).2 = c9_ x c.Name c.Subs ∧ (c9_ x c.Name c.Subs = 0 → (bx_ x c).1 = ⟨dr_ x.Nodes c.Name c.Subs c.Value⟩) := by
 unfold bx_ c9_
 rw [if_pos h]
 split
 ·exact ⟨rfl, fun _ => rfl⟩
 ·exact ⟨rfl, fun q => by cases q⟩
def c95 : LC :=
 .seq (.ops [.s 3 (.box 126 (.tmp 1)), .ki 4 0]) (.seq (.seq (.ops [.fa 5 0 3, .ln 6 5, .bk 7 .eql false 6 1]) (.cond (.tmp 7) (.seq (.ops [.m 8 0, .fa 9 1 3, .ln 10 9, .fa 11 2 3, .ln 12 11, .fa 13 3 3, .ln 14 13, .s 15
 (.call 145 [.tmp 8, .tmp 10, .tmp 12, .tmp 14]), .m 4 15]) .ret) .skip)) (.seq (.ops [.m 16 0, .fa 17 1 3, .ln 18 17, .fa 19 2 3, .ln 20 19, .c3 21 146 16 18 20]) (.seq (.ops [.ki 4 0]) .ret)))
def tD_ : LF := ⟨2, 22, c95, [.tmp 4]⟩
theorem AZ_ : at_ Tryz.prog Tryz.f95 tD_ := ah_
theorem iw_ {L lo : Nat} {H0 H : List Row} {x : af_} {sa : AV} (B : eg_ L lo H0 x) (mH : aI_ H0 H) (c : aw_) (hx : aP_ x = true) (hs : ap_ ByteArray.size c.Subs ≤ 1048576) (hsh : sa = .list 0 1 (c.Subs.map ar_) ∨ ∃ ls k, sa = .own ls k) (hsa : ∀ H' : List Row, (∀ y, H0.length ≤ y → y < H.length → H'[y]? = H[y]?) → bR_ H' sa (.list 0 1 (c.Subs.map ar_))) {K : AV → List Row → Prop}
 (hk : ∀ H' : List Row, H.length ≤ H'.length → (∀ y, y < lo → H'[y]? = H[y]?) → ((bx_ x c).2 = 0 → eg_ L lo H' (bx_ x c).1) → K (.val (.int .i64 (bx_ x c).2)) H') :
 callSem Tryz.prog 95 [.ptr L 1 0 0, .agg [.val (.int .i64 c.Kind), .val (.string c.Name), sa, .val (.string c.Value)]] H K := by
 refine bq_ mixed Tryz.func95 AZ_ (cg_ rfl ?_)
 have hlow := B.low
 have mlen := mH.len
 have csa : sa.cell = true := by rcases hsh with rfl | ⟨_, _, rfl⟩ <;> rfl
 have csa' := csa
 simp only [AV.cell, Value.oneCell'] at csa'
 have hsa' : ∀ r : Row, ∀ H' : List Row, (∀ y, H0.length ≤ y → y < (H ++ [r]).length → H'[y]? = (H ++ [r])[y]?) → bR_ H' sa (.list 0 1 (c.Subs.map ar_)) := fun r H' h => hsa H' fun y q1 q2 => by rw [h y q1 (by simp; omega)]; exact aS_ q2
 by_cases hk1 : c.Kind = 1
 ·have hk1' : (c.Kind = 1) = True := eq_true hk1
  obtain ⟨e1, e2⟩ := n4_ (x := x) hk1
  rw [e1] at hk
  simp (disch := (first | omega | (simp only [ls_, la_, lc_, ln_]; first | done | omega))) only [a6_, go_sem, Nat.reduceEqDiff, Nat.reduceAdd, reduceCtorEq, ↓reduceIte, tD_, c95, csa', hk1']
  refine kf_ B (mH.add _) c.Name c.Subs c.Value hx hs (hsa' _) (fun H' k1 k2 k3 => ?_)
  simp (disch := (first | omega | (simp only [ls_, la_, lc_, ln_]; first | done | omega))) only [go_sem, ↓reduceIte]
  exact hk H' (by simp at k1; omega) (fun y q => by rw [k2 y q]; exact aS_ (by omega)) (fun q => by rw [e2 q]; exact k3 q)
 ·have hk1' : (c.Kind = 1) = False := eq_false hk1
  have e1 : bx_ x c = (⟨cC_ x.Nodes c.Name c.Subs⟩, 0) := by rw [bx_, if_neg hk1]
  rw [e1] at hk
  simp (disch := (first | omega | (simp only [ls_, la_, lc_, ln_]; first | done | omega))) only [a6_, go_sem, Nat.reduceEqDiff, Nat.reduceAdd, reduceCtorEq, ↓reduceIte, tD_, c95, csa', hk1']
  obtain ⟨l, m, ts, b0, d⟩ := B
  have hl0 := b0.at'.lt
  have hr : ∀ r : Row, (H ++ [r]).length = H.length + 1 := fun r => by simp
  have b := fun r : Row => b0.more (mH.add [r])
  obtain ⟨a, o, hS⟩ := (b _).box
  have hlo := (b0.at'.lows l List.mem_cons_self).1
  refine j0_ (lo := lo) (l := L) (N := 1) (k := 0) (off := 0) (pre := []) (post := []) (es := [[a]]) (a := a) c.Name c.Subs hsh (fun H' hH => hsa' _ H' fun y q1 q2 => hH y q2 (by omega)) (af_.sz_Nodes (cX_ hx)) o rfl rfl rfl hS (b _).at' b0.out d (fun H' m' us' k1 k2 k3 k4 k5 k6 k7 => ?_)
  simp (disch := (first | omega | (simp only [ls_, la_, lc_, ln_]; first | done | omega))) only [go_sem, ↓reduceIte]
  exact hk H' (by simp at k1; omega) (fun y q => by rw [k2 y (by simp; omega) (by omega) (by omega)]; exact aS_ (by omega)) (fun _ => ⟨l, m', us', ⟨⟨_, k7, .inl rfl⟩, k3, fun q => b0.out (k5 L q), b0.lt⟩, k6⟩)
end Go.Proofs.YtfplhbjggecnpaaGreatDoor

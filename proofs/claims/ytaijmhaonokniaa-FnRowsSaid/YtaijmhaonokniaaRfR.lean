/- append. -/
import Derived.Test.YtaijmhaonokniaaRfQ
namespace Go.Rf
set_option linter.unusedVariables false
set_option linter.unusedSimpArgs false

section
variable {P : Program} {T : Tab} {E : Env} {B : Base} {Al Al' : Nat → Prop} {s s' : St} {a : Act} {w w' : World} {W W' : Wit} {o : Oper} {f : Nat}
  {ob ob' : Nat → Option Obj} {rs rs' : List Key} {u : Upd}

/-- The slice that is appended to. -/
def Onto (w : World) (W : Wit) (s : St) (t : Ty) (xs : List t.den) (v : Value) (ids : List Nat) : Prop :=
  (v = .slice none 0 0 ∧ xs = [] ∧ blk W ids = [] ∧ (∀ i ∈ ids, (s.ob i).isSome = true)) ∨
  ∃ id, ids = [id] ∧ (s.ob id).isSome = true ∧ W.nl id = false ∧ v = .slice (some ⟨W.η id, 0, none⟩) xs.length (W.cp id) ∧ RowAt w (Ow w W.I t) t.size xs (W.η id) (W.cp id) (W.nf id)

/-- What is appended. -/
def Adds (w : World) (W : Wit) (s : St) (t : Ty) (ys : List t.den) (v : Value) (ids : List Nat) : Prop :=
  ∃ A c news fq fr, v = .slice A ys.length c ∧ (ys = [] ∨ ∃ ad, A = some ad ∧ (∀ (j : Nat) (u : Value), news[j]? = some u → w.cell? (ad.add j) = some u)) ∧ (∀ u ∈ news, u.oneCell' = true) ∧
    ChO (Ow w (plus W.I fr) t) ys news fq ∧ (blk W ids).Perm (fq ++ fr) ∧ ∀ i ∈ ids, (s.ob i).isSome = true

theorem run_append_zero (t ty e : TypeId) (i : TypeInfo) (ht : P.underlying t = some (.slice e)) (hi : P.info? e = some i) (b : Option Addr) (n c : Nat) (hnc : n ≤ c) (A : Option Addr) (cp : Nat) :
    (Builtin.append_ #[t, t] ty #[.slice b n c, .slice A 0 cp]).run P w = .ok (.slice b n c) w := by
  have hf : (Builtin.firstCells i.size 0 (.slice A 0 cp)).run P w = .ok #[] w := by
    cases A with
    | none => simp [Builtin.firstCells]
    | some ad => simpa using run_firstCells_some (P := P) w i.size 0 ad 0 cp [] (by simp) (by simp)
  cases b with
  | none => simp [Builtin.append_, run_underlying ht, sizeOf, typeInfo, hi, Builtin.lenOf, hf, hnc]
  | some ad => simp [Builtin.append_, run_underlying ht, sizeOf, typeInfo, hi, Builtin.lenOf, hf, hnc, storeCells]

theorem run_app_room (t ty e e' : TypeId) (i : TypeInfo) (ht : P.underlying t = some (.slice e)) (hi : P.info? e = some i)
    (g sLen sCap : Nat) (cur : Array Value) (hg : w.heap[g]? = some (.cells cur e' (0, 0)))
    (a : Addr) (m c : Nat) (news : List Value) (hl : news.length = m * i.size) (hnews : ∀ (j : Nat) (u : Value), news[j]? = some u → w.cell? (a.add j) = some u) (h1 : ∀ u ∈ news, u.oneCell' = true)
    (hroom : sLen + m ≤ sCap) (hfit : sLen * i.size + news.length ≤ cur.size) :
    (Builtin.append_ #[t, t] ty #[.slice (some ⟨g, 0, none⟩) sLen sCap, .slice (some a) m c]).run P w =
      .ok (.slice (some ⟨g, 0, none⟩) (sLen + m) sCap) (w.setRow g (cur.toList.take (sLen * i.size) ++ news ++ cur.toList.drop (sLen * i.size + news.length)).toArray) := by
  have hf := run_firstCells_some (P := P) w i.size m a m c news hl hnews
  have hst := run_storeCells_at P g (sLen * i.size) e' news 0 cur w hg (by simpa using hfit) h1
  simp only [Nat.add_zero] at hst
  simp [Builtin.append_, run_underlying ht, sizeOf, typeInfo, hi, Builtin.lenOf, hroom, hf, Addr.add_lit, hst]

theorem app_core (h : Rel B Al s a w W) (hf : ¬ Al f) (hA : ∀ i, Al i → Al' i) (hf' : Al' f) {ids0 idsY : List Nat} {t : Ty} {xs ys : List t.den} {v1 v2 : Value} (hx : Onto w W s t xs v1 ids0) (hy : Adds w W s t ys v2 idsY)
    (hnd : (ids0 ++ idsY).Nodup) {tt ty el : TypeId} {bytes : Nat} {zs : List Value} (hu : P.underlying tt = some (.slice el)) (ht : TagOk P el t.size bytes zs) (hzl : zs.length = t.size) (hby : bytes ≠ 0)
    (hbd : (xs.length + ys.length) * bytes ≤ 140737488355328) :
    ∃ v w', (Builtin.append_ #[tt, tt] ty #[v1, v2]).run P w = .ok v w' ∧ ∀ d, dstOk B d → ∃ W', Rel B Al' (s.up ⟨dl d (.one (.own f)), gone (ids0 ++ idsY) ++ [(f, some (.row t (xs ++ ys)))]⟩) (a.put d v) w' W' := by
  obtain ⟨i, z, p1, p2, p3, p4, p5⟩ := nth_zero ht
  obtain ⟨A, c, news, fq, fr, e2, hcell, h1c, hch, hpm, hidY⟩ := hy
  subst e2
  have hids : ∀ j ∈ ids0 ++ idsY, (s.ob j).isSome = true := by
    intro j hj
    rcases List.mem_append.1 hj with k | k
    · rcases hx with ⟨_, _, _, q⟩ | ⟨id, q, q2, _⟩
      · exact q j k
      · rw [q] at k; simp at k; subst k; exact q2
    · exact hidY j k
  have hall := h.blkNodup _ hnd hids
  rw [blk_append] at hall
  have hlen : news.length = ys.length * t.size := ChO.len (fun x cs f k => Ow.size t x cs f k) _ _ _ hch
  have hb1 : 1 ≤ bytes := Nat.pos_of_ne_zero hby
  have hsmall : xs.length + ys.length ≤ 140737488355328 := Nat.le_trans (Nat.le_mul_of_pos_right _ hb1) hbd
  have hfqfr : ∀ b, b ∈ fq ∨ b ∈ fr → ∃ j ∈ idsY, b ∈ fpOf W j := fun b hb => mem_blk.1 (hpm.mem_iff.2 (List.mem_append.2 hb))
  have hcovY : ∀ j ∈ idsY, ∀ b ∈ W.nf j, b ∈ fq ∨ b ∈ fr := fun j hj b hb => List.mem_append.1 (hpm.mem_iff.1 (mem_blk.2 ⟨j, hj, h.nfFp (hidY j hj) hb⟩))
  have hltY : ∀ b, b ∈ fq ∨ b ∈ fr → b < w.heap.size := fun b hb => by
    obtain ⟨j, hj, k⟩ := hfqfr b hb
    exact h.lt (hidY j hj) b k
  have hob := updS_gone s.ob f (some (.row t (xs ++ ys))) (ids0 ++ idsY)
  rw [List.nodup_append] at hall
  obtain ⟨n1, n2, n3⟩ := hall
  have n2' := hpm.nodup_iff.1 n2
  rw [List.nodup_append] at n2'
  obtain ⟨m1, m2, m3⟩ := n2'
  rcases hx with ⟨rfl, rfl, hb0, _⟩ | ⟨id, rfl, hS, hnl, rfl, ces, rest, e0, q1, q2, q3, q4⟩
  · -- onto nil
    by_cases hm : ys = []
    · subst hm
      refine ⟨_, w, run_append_zero tt ty el i hu p1 none 0 0 (Nat.le_refl _) A c, ?_⟩
      obtain ⟨W', hR⟩ := h.putRow (f := f) (n0 := true) (g := 0) (c := 0) (fp := []) (fr := fr) (t := t) (xs := [] ++ []) (w' := w) hA hf' hids (.inl hf)
        (fun b hb => by
          obtain ⟨j, hj, k⟩ := hfqfr b (hb.imp (by simp) _root_.id)
          exact ⟨j, List.mem_append_right _ hj, k⟩)
        (fun j hj b hb => by
          rcases List.mem_append.1 hj with k | k
          · have : b ∈ blk W ids0 := mem_blk.2 ⟨j, k, h.nfFp (hids j hj) hb⟩
            rw [hb0] at this; simp at this
          · rcases hcovY j k b hb with q | q
            · rw [hch.2] at q; simp at q
            · exact .inr q)
        List.nodup_nil (by simp) (by simp) (fun _ _ _ => rfl) (Nat.le_refl _) (.inl ⟨rfl, rfl, rfl⟩) rfl rfl rfl hob
      exact fun d hd => ⟨W', hR d _ _ hd (.inl ⟨rfl, rfl⟩)⟩
    · obtain ⟨ad, rfl, hc⟩ := hcell.resolve_left hm
      have hpos : 0 < ys.length := List.length_pos_iff.2 hm
      simp only [List.length_nil, Nat.zero_add] at hbd hsmall
      have hr := run_append_nil (P := P) w tt ty el i z hu p1 p4 ad ys.length c news (by rw [p2]; exact hlen) hc hpos (by omega) (by rw [p3]; omega)
      refine ⟨_, _, hr, ?_⟩
      have hcap := grownCap_ge w ys.length 0 el
      have hrow := fun (d : Option Nat) (hd : dstOk B d) => h.freshRow (Al' := Al') (f := f) (d := d) (c := grownCap w ys.length 0 el) (ces := news) (rest := (Builtin.zeroCells z.cells (grownCap w ys.length 0 el - ys.length)).toList) (e := el) (w1 := w.drew) (t := t) (xs := ys) (fp := fq) (fr := fr) hf hA hf' hd hids hnd
        (by rw [blk_append, hb0]; exact hpm) rfl rfl rfl rfl (by
          have : z.cells.size = t.size := by rw [← hzl, ← p5]; simp
          simp only [List.length_append, hlen, Array.length_toList, size_zeroCells, this, ← Nat.add_mul]
          congr 1; omega) hcap hch
      have hw : (news ++ (Builtin.zeroCells z.cells (grownCap w ys.length 0 el - ys.length)).toList).toArray = news.toArray ++ Builtin.zeroCells z.cells (grownCap w ys.length 0 el - ys.length) := by
        apply Array.ext'; simp
      rw [hw] at hrow
      exact fun d hd => hrow d hd
  · -- onto a block
    have hxl : ces.length = xs.length * t.size := ChO.len (fun x cs f k => Ow.size t x cs f k) _ _ _ q4
    have hgY : ∀ b, b ∈ fq ∨ b ∈ fr → b ≠ W.η id ∧ b ∉ W.nf id := fun b hb => by
      have hb2 : b ∈ blk W idsY := hpm.mem_iff.2 (List.mem_append.2 hb)
      have hbf : b ∉ fpOf W id := fun k => n3 b (by simpa [blk] using k) b hb2 rfl
      exact ⟨fun e => hbf (e ▸ η_fp hnl), fun k => hbf (h.nfFp hS k)⟩
    have hnod := h.nod id hS
    simp only [fpOf, hnl, cond_false, List.nodup_cons] at hnod
    have hcons : ∀ b, b ∈ W.nf id ++ fq ∨ b ∈ fr → ∃ j ∈ [id] ++ idsY, b ∈ fpOf W j := fun b hb => by
      rcases hb with hb | hb
      · rcases List.mem_append.1 hb with k | k
        · exact ⟨id, by simp, h.nfFp hS k⟩
        · obtain ⟨j, hj, k⟩ := hfqfr b (.inl k); exact ⟨j, List.mem_append_right _ hj, k⟩
      · obtain ⟨j, hj, k⟩ := hfqfr b (.inr hb); exact ⟨j, List.mem_append_right _ hj, k⟩
    have hcov : ∀ j ∈ [id] ++ idsY, ∀ b ∈ W.nf j, b ∈ W.nf id ++ fq ∨ b ∈ fr := fun j hj b hb => by
      rcases List.mem_append.1 hj with k | k
      · simp at k; subst k; exact .inl (List.mem_append_left _ hb)
      · exact (hcovY j k b hb).imp (List.mem_append_right _) _root_.id
    have hndp : (W.η id :: (W.nf id ++ fq)).Nodup := by
      refine List.nodup_cons.2 ⟨fun k => ?_, List.nodup_append.2 ⟨hnod.2, m1, fun x hx y hy e => ?_⟩⟩
      · rcases List.mem_append.1 k with k | k
        · exact hnod.1 k
        · exact (hgY _ (.inl k)).1 rfl
      · subst e; exact (hgY x (.inl hy)).2 hx
    have hndr : ∀ b ∈ fr, b ∉ W.η id :: (W.nf id ++ fq) := fun b hb k => by
      rcases List.mem_cons.1 k with k | k
      · exact (hgY b (.inr hb)).1 k
      · rcases List.mem_append.1 k with k | k
        · exact (hgY b (.inr hb)).2 k
        · exact m3 b k b hb rfl
    have both : ∀ (w2 : World), (∀ b, b < w.heap.size → b ≠ W.η id → w2.heap[b]? = w.heap[b]?) → ChO (Ow w2 (plus W.I fr) t) (xs ++ ys) (ces ++ news) (W.nf id ++ fq) := by
      intro w2 hk
      refine ChO.append _ _ _ _ _ _ ?_ ?_
      · exact ChO.mono _ _ _ (fun x cs f' hf' k => Ow.mono (fun b hb => .inl hb) (fun b hb => hk b (h.bnd b hb) fun e => h.imm id hS _ (η_fp hnl) (e ▸ hb)) t x cs f'
          (fun b hb => hk b (h.lt hS b (h.nfFp hS (hf' b hb))) fun e => hnod.1 (e ▸ hf' b hb)) k) q4
      · refine ChO.mono _ _ _ (fun x cs f' hf' k => Ow.mono (fun b hb => hb) (fun b hb => ?_) t x cs f' (fun b hb => hk b (hltY b (.inl (hf' b hb))) (hgY b (.inl (hf' b hb))).1) k) hch
        rcases hb with hb | hb
        · exact hk b (h.bnd b hb) fun e => h.imm id hS _ (η_fp hnl) (e ▸ hb)
        · exact hk b (hltY b (.inr hb)) (hgY b (.inr hb)).1
    by_cases hm : ys = []
    · subst hm
      have hcn := hch.1
      have hfn := hch.2
      refine ⟨_, w, run_append_zero tt ty el i hu p1 _ _ _ q3 A c, ?_⟩
      obtain ⟨W', hR⟩ := h.putRow (f := f) (n0 := false) (g := W.η id) (c := W.cp id) (fp := W.nf id ++ fq) (fr := fr) (t := t) (xs := xs ++ []) (w' := w) hA hf' hids (.inl hf) hcons hcov hndp hndr
        (fun _ => .inr ⟨id, by simp, hnl, rfl⟩) (fun _ _ _ => rfl) (Nat.le_refl _) (.inr ⟨rfl, ces, rest, e0, q1, q2, by simpa using q3, by
          have := both w (fun _ _ _ => rfl)
          simpa [hcn] using this⟩) rfl rfl rfl hob
      refine fun d hd => ⟨W', ?_⟩
      have := hR d _ _ hd (.inl ⟨rfl, rfl⟩)
      rw [List.append_nil] at this ⊢
      exact this
    · obtain ⟨ad, rfl, hc⟩ := hcell.resolve_left hm
      have hpos : 0 < ys.length := List.length_pos_iff.2 hm
      by_cases hroom : xs.length + ys.length ≤ W.cp id
      · have hfit : xs.length * i.size + news.length ≤ (ces ++ rest).toArray.size := by
          rw [List.size_toArray, q2, hlen, p2, ← Nat.add_mul]; exact Nat.mul_le_mul_right _ hroom
        have hr := run_app_room (P := P) (w := w) tt ty el e0 i hu p1 (W.η id) xs.length (W.cp id) _ q1 ad ys.length c news (by rw [p2]; exact hlen) hc h1c hroom hfit
        refine ⟨_, _, hr, ?_⟩
        have hcells : ((ces ++ rest).toArray.toList.take (xs.length * i.size) ++ news ++ (ces ++ rest).toArray.toList.drop (xs.length * i.size + news.length)) = (ces ++ news) ++ rest.drop news.length := by
          rw [p2, ← hxl]
          show (ces ++ rest).take _ ++ news ++ (ces ++ rest).drop _ = _
          rw [List.take_left, List.drop_append, List.drop_eq_nil_of_le (by omega), Nat.add_sub_cancel_left, List.nil_append]
        rw [hcells]
        obtain ⟨W', hR⟩ := h.putRow (f := f) (n0 := false) (g := W.η id) (c := W.cp id) (fp := W.nf id ++ fq) (fr := fr) (t := t) (xs := xs ++ ys) (w' := w.setRow (W.η id) ((ces ++ news) ++ rest.drop news.length).toArray) hA hf' hids (.inl hf) hcons hcov hndp hndr
          (fun _ => .inr ⟨id, by simp, hnl, rfl⟩) (fun b _ hb => setRow_other w _ b _ (hb.resolve_left (by simp))) (by simp) (.inr ⟨rfl, ces ++ news, rest.drop news.length, e0, setRow_heap w _ _ _ e0 _ q1, by
            have h2 := q2
            simp only [List.length_append, List.length_drop] at h2 ⊢
            rw [List.size_toArray, p2, ← hxl] at hfit
            simp only [List.length_append] at hfit
            omega, by simpa using hroom, both _ (fun b _ hb => setRow_other w _ b _ hb)⟩) rfl rfl rfl hob
        refine fun d hd => ⟨W', ?_⟩
        have := hR d _ _ hd (.inl ⟨rfl, rfl⟩)
        rw [List.length_append] at this
        exact this
      · have holds : ∀ (j : Nat) (v : Value), ces[j]? = some v → w.cell? ((⟨W.η id, 0, none⟩ : Addr).add j) = some v := fun j v hv => by
          rw [add_at]
          exact At.cell ⟨_, e0, _, [], rest, q1, by simp, rfl⟩ j v hv
        have hr := run_append_grow (P := P) w tt ty el i z hu p1 p4 ⟨W.η id, 0, none⟩ xs.length (W.cp id) ces (by rw [p2]; exact hxl) holds ad ys.length c news (by rw [p2]; exact hlen) hc (by omega) (by omega)
          (growslice_fits (by omega) (by rw [p3]; exact hbd))
        refine ⟨_, _, hr, ?_⟩
        have hcap := grownCap_ge w (xs.length + ys.length) (W.cp id) el
        generalize hZ : Builtin.zeroCells z.cells (grownCap w (xs.length + ys.length) (W.cp id) el - (xs.length + ys.length)) = Z at *
        have hZs : Z.size = (grownCap w (xs.length + ys.length) (W.cp id) el - (xs.length + ys.length)) * t.size := by
          rw [← hZ, size_zeroCells]
          congr 1
          rw [← hzl, ← p5]; simp
        have hperm : (blk W ([id] ++ idsY)).Perm ((W.nf id ++ fq) ++ (W.η id :: fr)) := by
          rw [blk_append]
          have e1 : blk W [id] = W.η id :: W.nf id := by simp [blk, fpOf, hnl]
          rw [e1]
          refine (List.Perm.append_left _ hpm).trans ?_
          rw [List.cons_append]
          refine (?_ : (W.η id :: (W.nf id ++ (fq ++ fr))).Perm _)
          rw [← List.append_assoc]
          exact List.perm_middle.symm
        have hnotI : ∀ b, plus W.I fr b → plus W.I (W.η id :: fr) b := fun b hb => hb.imp _root_.id (List.mem_cons_of_mem _)
        have hrow := fun (d : Option Nat) (hd : dstOk B d) => h.freshRow (Al' := Al') (f := f) (d := d) (c := grownCap w (xs.length + ys.length) (W.cp id) el) (ces := ces ++ news) (rest := Z.toList) (e := el) (w1 := w.drew) (t := t) (xs := xs ++ ys) (fp := W.nf id ++ fq) (fr := W.η id :: fr) hf hA hf' hd hids hnd hperm rfl rfl rfl rfl (by
            simp only [List.length_append, hlen, hxl, Array.length_toList, hZs, ← Nat.add_mul]
            congr 1; omega) (by simpa using hcap) (ChO.mono _ _ _ (fun x cs f' _ k => Ow.mono (w := w) hnotI (fun _ _ => rfl) t x cs f' (fun _ _ => rfl) k) (both w (fun _ _ _ => rfl)))
        have hw : ((ces ++ news) ++ Z.toList).toArray = ces.toArray ++ news.toArray ++ Z := by
          apply Array.ext'; simp
        rw [hw] at hrow
        intro d hd
        obtain ⟨W', hR⟩ := hrow d hd
        rw [List.length_append] at hR
        exact ⟨W', hR⟩
theorem flat_ow {I I' : Nat → Prop} : ∀ (t : Ty), t.flat = true → ∀ (x : t.den) cs, Rd w I t x cs → Ow w I' t x cs []
  | .int _, _, _, _, h => ⟨h, rfl⟩
  | .bool, _, _, _, h => ⟨h, rfl⟩
  | .str, _, _, _, h => ⟨h, rfl⟩
  | .sl _ _, hf, _, _, _ => by simp [Ty.flat] at hf
  | .box _ _, hf, _, _, _ => by simp [Ty.flat] at hf
  | .pair a b, hf, x, cs, ⟨c1, c2, e, h, h'⟩ => by
    simp only [Ty.flat, Bool.and_eq_true] at hf
    exact ⟨c1, c2, [], [], e, rfl, flat_ow a hf.1 _ _ h, flat_ow b hf.2 _ _ h'⟩

theorem noown_ow {I : Nat → Prop} : ∀ (t : Ty), t.owns = false → ∀ (x : t.den) cs, Rd w I t x cs → Ow w I t x cs []
  | .int _, _, _, _, h => ⟨h, rfl⟩
  | .bool, _, _, _, h => ⟨h, rfl⟩
  | .str, _, _, _, h => ⟨h, rfl⟩
  | .sl false _, _, _, _, h => ⟨h, rfl⟩
  | .box _ _, _, _, _, h => ⟨h, rfl⟩
  | .sl true _, hf, _, _, _ => by simp [Ty.owns] at hf
  | .pair a b, hf, x, cs, ⟨c1, c2, e, h, h'⟩ => by
    simp only [Ty.owns, Bool.or_eq_false_iff] at hf
    exact ⟨c1, c2, [], [], e, rfl, noown_ow a hf.1 _ _ h, noown_ow b hf.2 _ _ h'⟩

theorem ChO.of_ch {α : Type} {R : α → List Value → Prop} {R' : α → List Value → List Nat → Prop} (h : ∀ x cs, R x cs → R' x cs []) : ∀ xs cs, Ch R xs cs → ChO R' xs cs []
  | [], _, k => ⟨k, rfl⟩
  | _ :: xs, _, ⟨c1, c2, e, r, k⟩ => ⟨c1, c2, [], [], e, rfl, h _ _ r, ChO.of_ch h xs c2 k⟩

theorem isOne_ch {I : Nat → Prop} (t : Ty) : ∀ (xs : List t.den) cs, Ch (Rd w I t) xs cs → ∀ v ∈ cs, v.oneCell' = true
  | [], _, k, v, hv => by rw [show _ = [] from k] at hv; simp at hv
  | _ :: xs, _, ⟨c1, c2, e, r, k⟩, v, hv => by
    rw [e] at hv
    rcases List.mem_append.1 hv with q | q
    · exact isOne_of_rd t _ _ r v q
    · exact isOne_ch t xs c2 k v q

/-- Out of a slice for reading. -/
theorem adds_rd {I : Nat → Prop} {t : Ty} {ys : List t.den} {v : Value} {ids : List Nat} {fr : List Nat} (hr : Rd w I (.sl false t) ys [v]) (hR : ∀ x cs, Rd w I t x cs → Ow w (plus W.I fr) t x cs [])
    (hp : (blk W ids).Perm fr) (hids : ∀ i ∈ ids, (s.ob i).isSome = true) : Adds w W s t ys v ids := by
  obtain ⟨A, c, e, hc, hr⟩ := Rd.slv hr
  rcases hr with hr | ⟨ad, C, el, fz, pre, ces, post, q1, q2, q3, q4, q5, q6, q7⟩
  · subst hr
    exact ⟨A, c, [], [], fr, e, .inl rfl, by simp, ⟨rfl, rfl⟩, hp, hids⟩
  · refine ⟨A, c, ces, [], fr, e, .inr ⟨ad, q1, fun j u hu => ?_⟩, isOne_ch t _ _ q7, ChO.of_ch hR _ _ q7, hp, hids⟩
    have had : ad = ⟨ad.block, ad.off, none⟩ := by cases ad; simp at q2; subst q2; rfl
    rw [had, add_at]
    exact At.cell ⟨C, el, fz, pre, post, q4, q5, q6⟩ j u hu

theorem appendC_exec (h : Rel B Al s a w W) {t : Ty} {bytes : Nat} {xs : List t.den} {y : Sc} {v : Value} {d : Option Nat} {ids : List Nat} (hy : Vs w W s.ob y v) (hids : ids.Nodup) (he : (appendC t bytes xs y d f ids).exec s rs = some (u, rs')) :
    ∃ ys idsY, Adds w W s t ys v idsY ∧ (ids ++ idsY).Nodup ∧ bytes ≠ 0 ∧ (xs.length + ys.length) * bytes ≤ 140737488355328 ∧ u = ⟨dl d (.one (.own f)), gone (ids ++ idsY) ++ [(f, some (.row t (xs ++ ys)))]⟩ := by
  unfold appendC at he
  simp only at he
  obtain ⟨hby, he⟩ := exec_bif' he
  have hby : bytes ≠ 0 := fun e => by simp [e] at hby
  cases hfl : t.flat with
  | true =>
    rw [hfl] at he
    simp only [cond_true] at he
    obtain ⟨ys, l2, idr, sf, rs2, cs, vs2, e, h2, hl2, hrd, _, _⟩ := see_exec h (.sl false t) [y] [v] _ _ ⟨_, _, rfl, hy, rfl⟩ he
    split at h2 <;> try (simp [RP.exec] at h2; done)
    have hl2 : vs2 = [] := hl2
    subst hl2
    rw [List.append_nil] at e
    obtain ⟨c1, h2⟩ := exec_chk h2
    obtain ⟨c2, h2⟩ := exec_bif h2
    refine ⟨ys, [], adds_rd (fr := []) (e ▸ hrd) (fun x cs k => flat_ow t hfl x cs k) (List.Perm.refl _) (by simp), by rw [List.append_nil]; exact hids, hby, of_decide_eq_true c1, ?_⟩
    rw [out_exec h2, List.append_nil]
  | false =>
    rw [hfl] at he
    simp only [cond_false] at he
    cases how : t.owns with
    | true =>
      rw [how] at he
      simp only [cond_true] at he
      obtain ⟨ys, l2, idY, rs2, cs, vs2, fp, fr, e, h2, hl2, ho, hp, _, hi⟩ := imp_exec h (.sl true t) [y] [v] _ _ ⟨_, _, rfl, hy, rfl⟩ he
      split at h2 <;> try (simp [RP.exec] at h2; done)
      have hl2 : vs2 = [] := hl2
      subst hl2
      rw [List.append_nil] at e
      subst e
      obtain ⟨c1, h2⟩ := exec_chk h2
      obtain ⟨c2, h2⟩ := exec_bif h2
      refine ⟨ys, idY, ?_, nodupB_iff _ c2, hby, of_decide_eq_true c1, out_exec h2⟩
      rcases ho with ⟨e1, e2, e3⟩ | ⟨g, c, fq, e1, e2, ces, rest, el, q1, q2, q3, q4⟩
      · subst e1; subst e3
        simp only [List.cons.injEq, and_true] at e2
        exact ⟨none, 0, [], [], fr, e2, .inl rfl, by simp, ⟨rfl, rfl⟩, hp, hi⟩
      · subst e2
        simp only [List.cons.injEq, and_true] at e1
        refine ⟨some ⟨g, 0, none⟩, c, ces, fq, g :: fr, e1, .inr ⟨_, rfl, fun j u hu => ?_⟩, ?_, ?_, hp.trans (by rw [List.cons_append]; exact List.perm_middle.symm), hi⟩
        · rw [add_at]
          exact At.cell ⟨_, el, _, [], rest, q1, by simp, rfl⟩ j u hu
        · exact isOne_ch (I := fun _ => True) (w := w) t _ _ (Ch.of_O _ _ _ (fun x cs f' _ k => Ow.rd (fun _ _ => trivial) t x cs f' (fun _ _ => trivial) k) q4)
        · exact ChO.mono _ _ _ (fun x cs f' _ k => Ow.mono (w := w) (fun b hb => hb.imp id (List.mem_cons_of_mem _)) (fun _ _ => rfl) t x cs f' (fun _ _ => rfl) k) q4
    | false =>
      rw [how] at he
      simp only [cond_false] at he
      obtain ⟨ys, l2, idY, rs2, cs, vs2, fp, fr, e, h2, hl2, ho, hp, _, hi⟩ := imp_exec h (.sl false t) [y] [v] _ _ ⟨_, _, rfl, hy, rfl⟩ he
      split at h2 <;> try (simp [RP.exec] at h2; done)
      have hl2 : vs2 = [] := hl2
      subst hl2
      rw [List.append_nil] at e
      subst e
      obtain ⟨c1, h2⟩ := exec_chk h2
      obtain ⟨c2, h2⟩ := exec_bif h2
      have h0 : fp = [] := ho.2
      subst h0
      exact ⟨ys, idY, adds_rd ho.1 (fun x cs k => noown_ow t how x cs k) hp hi, nodupB_iff _ c2, hby, of_decide_eq_true c1, out_exec h2⟩

theorem st_append {c : Call} (hT : TabOk P T) (h : Rel B Al s a w W) (hd : dstOk B o.dst) (hf : fresh Al f) (hop : o.op = .call c) (hb : c.callee = .builtin .append) (he : (step T E o f).exec s rs = some (u, rs')) : Done P B (Nu Al f) (s.up u) o a w := by
  simp only [step, hop] at he
  obtain ⟨vs, rs1, h1, k1⟩ := opds_exec h he
  clear he
  rw [hb] at h1
  simp only at h1
  split at h1 <;> try (simp [RP.exec] at h1; done)
  rename_i t t2 hat
  obtain ⟨htt, h5⟩ := exec_bif' h1
  clear h1
  have htt : t = t2 := (nEq_iff _ _).1 (by simpa using htt)
  subst htt
  have hat : c.argTypes = #[t, t] := by apply Array.ext'; rw [hat]
  split at h5 <;> try (simp [RP.exec] at h5; done)
  rename_i x y
  obtain ⟨v1, r1, e1, p1, v2, r2, e2, p2, p3⟩ := k1
  have p3 : r2 = [] := p3
  subst p3; subst e2
  have fin : ∀ (ty : Ty) (xs : List ty.den) (ids : List Nat) (e : Ty) (rs2 : List Key), elemTy T t = some e → e.size = ty.size → Onto w W s ty xs v1 ids → ids.Nodup → (appendC ty (elemBytes T t) xs y o.dst f ids).exec s rs2 = some (u, rs') → Done P B (Nu Al f) (s.up u) o a w := by
    intro ty xs ids e rs2 hel hsz hx hnd he
    obtain ⟨ys, idsY, q1, q2, q3, q4, q5⟩ := appendC_exec h p2.1 hnd he
    obtain ⟨el, hu, ht⟩ := elem_kind hT hel
    rw [hsz] at ht
    obtain ⟨v, w', hr, hR⟩ := app_core (P := P) (tt := t) (ty := o.type) (Al' := Nu Al f) h hf.one (fun i hi => .inl hi) Nu.new hx q1 q2 hu ht (by rw [zeroVals_len, hsz]) q3 q4
    rw [q5]
    intro K Q hK
    unfold Oper.wp
    rw [show (execOp a.eval o).run P w = .ok (.value v) w' from by
      have ha := args_of e1
      simp only [execOp, hop, resolve, hb, Sem.run_bind, Sem.run_pure, Result.andThen_ok, invoke, ha]
      simp only [builtin, hat, Sem.run_bind, hr, Result.andThen_ok, Sem.run_pure]]
    obtain ⟨W', hR⟩ := hR o.dst hd
    exact hK _ _ ⟨W', hR⟩
  split at h5 <;> try (simp [RP.exec] at h5; done)
  · rename_i id
    simp only [RP.exec] at h5
    split at h5 <;> try (simp [RP.exec] at h5; done)
    rename_i e xs ho
    split at h5 <;> try (simp [RP.exec] at h5; done)
    rename_i e' hel
    split at h5 <;> try (simp [RP.exec] at h5; done)
    rename_i hsm
    have hS : (s.ob id).isSome = true := by rw [ho]; rfl
    have ev : v1 = _ := p1.1.2 e xs ho
    refine fin e xs [id] e' _ hel (same_size e e' _ hsm).symm ?_ (by simp) h5
    rcases h.row id e xs ho with ⟨q1, q2, q3⟩ | ⟨q1, hr⟩
    · exact .inl ⟨by rw [ev]; simp [slv, q1], q2, by simp [blk, fpOf, q1], by simpa using hS⟩
    · exact .inr ⟨id, rfl, hS, q1, by rw [ev]; simp [slv, q1], hr⟩
  · split at h5 <;> try (simp [RP.exec] at h5; done)
    rename_i e hel
    exact fin e [] [] e _ hel rfl (.inl ⟨p1.1.2, rfl, rfl, by simp⟩) List.nodup_nil h5
end
end Go.Rf

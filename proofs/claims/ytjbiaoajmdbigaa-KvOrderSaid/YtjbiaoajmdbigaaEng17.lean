/- A logic over abstract states. Part 17: elements of slices; append. -/
import Derived.Test.YtjbiaoajmdbigaaEng16
import Derived.Deep.AppendSrc
import Derived.Deep.Upon
set_option linter.unusedVariables false
set_option linter.unusedSimpArgs false
namespace Go.E
open Go

section
variable {P : Program} (w : World)
/-- append onto a slice of one's own, out of whatever source. -/
theorem append_src (t tx ty e : TypeId) (i : TypeInfo) (z : Value) (size bytes : Nat) (ht : P.underlying t = some (.slice e)) (hi : P.info? e = some i) (hz : i.zero = some z)
    (hsize : i.size = size) (hby : i.bytes = bytes) (hzs : z.cells.size = size)
    (v : Value) (n : Nat) (xs : List Value) (hown : w.ownsRow 0 e size v n xs) (x : Value) (m : Nat) (news : List Value) (hs : Src P size tx x m news w)
    (h63 : n + m ≤ maxLen) (hbytes : (n + m) * bytes ≤ 140737488355328) :
    ∃ v' w', (Builtin.append_ #[t, tx] ty #[v, x]).run P w = .ok v' w' ∧ w'.ownsRow 0 e size v' (n + m) (xs ++ news) ∧ w.grownBy w' v.ownBlock ∧ (v'.ownBlock = v.ownBlock ∨ v'.ownBlock = some w.heap.size) := by
  subst hsize
  subst hby
  have hsmall : n + m ≤ 9223372036854775807 := by simp only [maxLen] at h63; omega
  have hlen : (xs ++ news).length = (n + m) * i.size := by rw [List.length_append, hown.1, hs.newsLen, Nat.add_mul]
  by_cases hm : m = 0
  · subst hm
    have hn : news = [] := List.eq_nil_of_length_eq_zero (by simpa using hs.newsLen)
    subst hn
    refine ⟨v, w, ?_, by simpa using hown, ⟨rfl, rfl, rfl, Nat.le_refl _, fun _ _ _ => rfl⟩, .inl rfl⟩
    rcases hown.2 with ⟨rfl, rfl⟩ | ⟨g, cap, cur, rfl, _, _, hnc, _⟩
    · exact run_append_nothing w t tx ty e i ht hi none 0 0 (Nat.le_refl _) x hs
    · exact run_append_nothing w t tx ty e i ht hi (some ⟨g, 0, none⟩) n cap hnc x hs
  have grown : ∀ (old : Nat), old < n + m → ∀ (row : Option Nat),
      (w.drew.alloc (.cells ((xs ++ news).toArray ++ Builtin.zeroCells z.cells (grownCap w (n + m) old e - (n + m))) e)).ownsRow 0 e i.size
        (.slice (some ⟨w.heap.size, 0, none⟩) (n + m) (grownCap w (n + m) old e)) (n + m) (xs ++ news) ∧
      w.grownBy (w.drew.alloc (.cells ((xs ++ news).toArray ++ Builtin.zeroCells z.cells (grownCap w (n + m) old e - (n + m))) e)) row := by
    intro old ho row
    have hge := grownCap_ge w (n + m) old e
    have hcm : grownCap w (n + m) old e ≤ maxLen := grownCap_le_maxLen w (n + m) old e h63
    refine ⟨⟨hlen, .inr ⟨w.heap.size, _, _, rfl, Nat.zero_le _, heap_alloc_new w.drew _, hge, hcm, ?_, ?_⟩⟩, ⟨rfl, rfl, rfl, by simp, fun k hk _ => alloc_old w.drew _ k hk⟩⟩
    · simp only [Array.size_append, List.size_toArray, size_zeroCells, hzs, hlen, ← Nat.add_mul]
      congr 1
      omega
    · simp only [Array.toList_append]
      rw [← hlen]
      exact List.take_left
  rcases hown.2 with ⟨rfl, rfl⟩ | ⟨g, cap, cur, rfl, hbg, hg, hnc, hcm, hcs, htake⟩
  · have hx : xs = [] := List.eq_nil_of_length_eq_zero (by simpa using hown.1)
    subst hx
    have hr := run_append_grow_src (P := P) w t tx ty e i z ht hi hz none 0 0 [] (run_firstCells_none w.drew _ 0 0 0) x m news hs (by omega) (by simp only [Nat.zero_add] at hsmall; omega)
      (growslice_fits (by omega) hbytes)
    have hgr := grown 0 (by omega) (Value.ownBlock (.slice none 0 0))
    exact ⟨_, _, hr, hgr.1, hgr.2, .inr rfl⟩
  · by_cases hroom : n + m ≤ cap
    · have hfit : n * i.size + news.length ≤ cur.size := by rw [hs.newsLen, hcs, ← Nat.add_mul]; exact Nat.mul_le_mul_right _ hroom
      have hst := run_storeCells_at P g (n * i.size) e news 0 cur w hg (by simpa using hfit) hs.one
      simp only [Nat.add_zero] at hst
      have hr : (Builtin.append_ #[t, tx] ty #[.slice (some ⟨g, 0, none⟩) n cap, x]).run P w = .ok (.slice (some ⟨g, 0, none⟩) (n + m) cap) (w.setRow g (cur.toList.take (n * i.size) ++ news ++ cur.toList.drop (n * i.size + news.length)).toArray) := by
        rcases hs.kind with ⟨e', hk⟩ | hk <;> simp [Builtin.append_, run_underlying ht, run_underlying hk, sizeOf, typeInfo, hi, hs.len, hroom, hs.cells, Addr.add_lit, hst]
      refine ⟨_, _, hr, ⟨hlen, .inr ⟨g, cap, _, rfl, hbg, setRow_heap w g cur _ e _ hg, hroom, hcm, ?_, ?_⟩⟩, ⟨rfl, rfl, rfl, by simp, fun k _ hk => setRow_other w g k _ (fun e => hk (by simp [Value.ownBlock, e]))⟩, .inl rfl⟩
      · simp only [List.size_toArray, List.length_append, List.length_take, List.length_drop, Array.length_toList]
        omega
      · rw [htake, ← hlen]
        exact List.take_left
    · have holds : ∀ j u, xs[j]? = some u → w.cell? ((⟨g, 0, none⟩ : Addr).add j) = some u := hown.cells (g := g) rfl
      have hr := run_append_grow_src (P := P) w t tx ty e i z ht hi hz (some ⟨g, 0, none⟩) n cap xs (run_firstCells_some w.drew i.size n ⟨g, 0, none⟩ n cap xs hown.1 (by simpa using holds)) x m news hs (by omega) (by omega)
        (growslice_fits (by omega) hbytes)
      have hgr := grown cap (by omega) (Value.ownBlock (.slice (some ⟨g, 0, none⟩) n cap))
      exact ⟨_, _, hr, hgr.1, hgr.2, .inr rfl⟩
end

/-- What a second operand of append holds. -/
def SrcD (P : Program) (F : Nat → Prop) (w : World) (sz : Nat) (tx : TypeId) (x : Value) (es : List (List DV)) : Prop :=
  ∃ news, Src P sz tx x es.length news w ∧ ∀ i (h : i < es.length) j (h' : j < es[i].length), RepD F w (news.getD (i * sz + j) undef) es[i][j]

def appOK (T : Tab) (t e sz bytes : Nat) : Bool :=
  match look T t, look T e with
  | some ti, some ei => ti.elem == some e && (ei.size == sz && (ei.bytes == bytes && (Nat.ble 1 bytes && (match ei.zero with | some z => z.length == sz | none => false))))
  | _, _ => false

theorem appOK_parts {P : Program} {T : Tab} (hT : TabOK P T) {t e sz bytes : Nat} (h : appOK T t e sz bytes = true) :
    P.underlying t = some (.slice e) ∧ 1 ≤ bytes ∧ ∃ i z, P.info? e = some i ∧ i.zero = some z ∧ i.size = sz ∧ i.bytes = bytes ∧ z.cells.size = sz := by
  unfold appOK at h
  split at h
  · rename_i ti ei h1 h2
    simp only [Bool.and_eq_true, beq_iff_eq] at h
    obtain ⟨g1, g2, g3, g4, g5⟩ := h
    obtain ⟨i, d, hi, hd, _, _, _, _, hel, _⟩ := ti_parts (hT t ti h1)
    obtain rfl := hel e g1
    obtain ⟨i2, d2, hi2, hd2, _, hs2, hb2, hz2, _⟩ := ti_parts (hT e ei h2)
    refine ⟨hd, Nat.le_of_ble_eq_true g4, i2, ?_⟩
    cases hz : i2.zero with
    | none => rw [hz] at hz2; simp only [Option.map_none] at hz2; rw [hz2] at g5; cases g5
    | some z =>
      rw [hz] at hz2
      simp only [Option.map_some] at hz2
      rw [hz2] at g5
      simp only [beq_iff_eq] at g5
      exact ⟨z, hi2, rfl, by omega, by omega, by simpa using g5⟩
  · cases h

/-- An array of one's own that grows, whatever the operation: what its run comes to. -/
theorem tri_grow {P : Program} {o : Oper} {vals : List SV} {e sz bytes h0 n : Nat} {es es2 : List (List DV)} {r : Objs}
    (hk : (look r h0).isNone = true ∧ (look r n).isNone = true ∧ Nat.beq n h0 = false ∧ (r.any fun p => p.2.has n) = false)
    (hrun0 : ∀ F σ X w a, Reps F σ w a o.op.operands.toList vals → OKs F σ X w ((h0, .arr e sz bytes es) :: r) → ∀ xs, w.ownsRow 0 e sz (σ h0) es.length xs →
      ∃ news v' w', (execOp a.eval o).run P w = .ok (.value v') w' ∧ w'.ownsRow 0 e sz v' (es.length + es2.length) (xs ++ news) ∧ w.grownBy w' (σ h0).ownBlock ∧ (v'.ownBlock = (σ h0).ownBlock ∨ v'.ownBlock = some w.heap.size) ∧
        ∀ i (h : i < es2.length) j (h' : j < es2[i].length), RepD F w (news.getD (i * sz + j) undef) es2[i][j])
    (hes : ∀ y ∈ es2, y.length = sz) (hb : (es.length + es2.length) * bytes ≤ 140737488355328) : Tri P o vals ((h0, .arr e sz bytes es) :: r) (cc (.own n)) ((n, .arr e sz bytes (es ++ es2)) :: r) := by
  intro F σ X w a hr hok hF
  obtain ⟨k1, k2, k3, k4⟩ := hk
  rw [Option.isNone_iff_eq_none] at k1 k2
  have hne : n ≠ h0 := fun c => by subst c; simp at k3
  have hrne : ∀ h o, look r h = some o → h ≠ h0 ∧ h ≠ n ∧ o.has n = false := fun h o e => by
    refine ⟨fun c => by (subst c; rw [k1] at e; cases e), fun c => by (subst c; rw [k2] at e; cases e), ?_⟩
    rw [List.any_eq_false] at k4
    simpa using k4 _ (look_mem e)
  have hl0 : look ((h0, LObj.arr e sz bytes es) :: r) h0 = some (.arr e sz bytes es) := by simp [look]
  have hlr : ∀ h o, look r h = some o → look ((h0, LObj.arr e sz bytes es) :: r) h = some o := fun h o e => by
    simp only [look, beq_false (hrne h o e).1.symm, cond_false]; exact e
  have hl' : ∀ h o, look ((n, LObj.arr e sz bytes (es ++ es2)) :: r) h = some o → (h = n ∧ o = .arr e sz bytes (es ++ es2)) ∨ (h ≠ n ∧ look r h = some o) := fun h o e => by
    by_cases c : n = h
    · subst c; simp only [look, Nat.beq_refl, cond_true, Option.some.injEq] at e; exact .inl ⟨rfl, e.symm⟩
    · simp only [look, beq_false c, cond_false] at e; exact .inr ⟨fun d => c d.symm, e⟩
  obtain ⟨xs, e1, e2, e3, e4, e5⟩ := hok.ok h0 _ hl0
  obtain ⟨news, v', w', hrun, g2, g3, g4, hn⟩ := hrun0 F σ X w a hr hok xs e1
  rw [hrun]
  have hown : ∀ k, (σ h0).ownBlock = some k → X h0 k := fun k hk => (e2 k).2 hk
  have hFw : ∀ b, F b → w'.heap[b]? = w.heap[b]? := fun b hb => g3.block b (hF b hb) fun c => (hok.live h0 _ hl0 b (hown b c.symm)).2 hb
  have hσ : ∀ k, k ≠ n → (fun k => if k = n then v' else σ k) k = σ k := fun k hk => if_neg hk
  have hshape : ∃ a' n' c', v' = .slice a' n' c' := by
    rcases g2.2 with ⟨c, _⟩ | ⟨g, cap, cur, c, _⟩
    · exact ⟨_, _, _, c⟩
    · exact ⟨_, _, _, c⟩
  have hblk : ∀ k, v'.ownBlock = some k → X h0 k ∨ k = w.heap.size := fun k hk => by
    rcases g4 with c | c
    · rw [c] at hk; exact .inl (hown k hk)
    · rw [c] at hk; exact .inr (Option.some.inj hk).symm
  refine ⟨F, fun k => if k = n then v' else σ k, fun h k => if h = n then v'.ownBlock = some k else X h k, ⟨by simp, ?_⟩, ⟨?_, ?_, ?_⟩, g3.os, g3.tape, g3.output, g3.size, ?_, fun _ h => h, fun _ h => .inl h, ?_, ?_⟩
  · obtain ⟨_, _, _, c⟩ := hshape
    simp [c, Value.oneCell']
  · intro h o ho
    rcases hl' h o ho with ⟨rfl, rfl⟩ | ⟨c, hq⟩
    · simp only [if_true]
      refine ⟨xs ++ news, by simpa using g2, fun k => Iff.rfl, ?_, by simpa using hb, ?_⟩
      · intro y hy
        rcases List.mem_append.1 hy with hy | hy
        · exact e3 y hy
        · exact hes y hy
      · intro i hi j hj
        have hx1 : xs.length = es.length * sz := e1.1
        by_cases c : i < es.length
        · simp only [List.getElem_append_left c] at hj ⊢
          have hjs : j < sz := by rw [e3 _ (List.getElem_mem c)] at hj; exact hj
          have hlt : i * sz + j < xs.length := by
            have := Nat.mul_le_mul_right sz (show i + 1 ≤ es.length from c)
            rw [Nat.add_mul, Nat.one_mul] at this
            omega
          have := RepD.mono (fun _ h => h) hFw (e5 i c j hj)
          simp only [List.getD_eq_getElem?_getD, List.getElem?_append_left hlt] at this ⊢
          exact this
        · have hi' : i - es.length < es2.length := by simp only [List.length_append] at hi; omega
          have hidx : (es ++ es2)[i] = es2[i - es.length] := List.getElem_append_right (by omega)
          simp only [hidx] at hj ⊢
          have := RepD.mono (fun _ h => h) hFw (hn (i - es.length) hi' j hj)
          have hsub : i * sz + j - xs.length = (i - es.length) * sz + j := by
            rw [hx1, Nat.sub_mul]
            have := Nat.mul_le_mul_right sz (show es.length ≤ i by omega)
            omega
          have hge : xs.length ≤ i * sz + j := by
            rw [hx1]
            have := Nat.mul_le_mul_right sz (show es.length ≤ i by omega)
            omega
          simp only [List.getD_eq_getElem?_getD, List.getElem?_append_right hge, hsub] at this ⊢
          exact this
    · simp only [if_neg c]
      refine ObjOK.mono (fun _ h => h) (fun b hb => hb.elim (hFw b) fun hx => ?_) (fun k hk => hσ k fun d => ?_) (hok.ok h o (hlr h o hq))
      · exact g3.block b (hok.live h o (hlr h o hq) b hx).1 fun d => hok.apart h h0 o _ (hlr h o hq) hl0 (hrne h o hq).1 b hx (hown b d.symm)
      · rw [d, (hrne h o hq).2.2] at hk; cases hk
  · intro h h' o o' h1 h2 hd k hx hx'
    rcases hl' h o h1 with ⟨e7, rfl⟩ | ⟨c, q1⟩ <;> rcases hl' h' o' h2 with ⟨e8, rfl⟩ | ⟨c', q2⟩
    · exact hd (e7.trans e8.symm)
    · simp only [e7, if_true, if_neg c'] at hx hx'
      rcases hblk k hx with d | d
      · exact hok.apart h0 h' _ o' hl0 (hlr h' o' q2) (hrne h' o' q2).1.symm k d hx'
      · have := (hok.live h' o' (hlr h' o' q2) k hx').1; omega
    · simp only [e8, if_true, if_neg c] at hx hx'
      rcases hblk k hx' with d | d
      · exact hok.apart h0 h _ o hl0 (hlr h o q1) (hrne h o q1).1.symm k d hx
      · have := (hok.live h o (hlr h o q1) k hx).1; omega
    · simp only [if_neg c, if_neg c'] at hx hx'
      exact hok.apart h h' o o' (hlr h o q1) (hlr h' o' q2) hd k hx hx'
  · intro h o h1 k hx
    rcases hl' h o h1 with ⟨rfl, rfl⟩ | ⟨c, q1⟩
    · simp only [if_true] at hx
      refine ⟨(g2.lt k hx).2, fun hf => ?_⟩
      rcases hblk k hx with d | d
      · exact (hok.live h0 _ hl0 k d).2 hf
      · have := hF k hf; omega
    · simp only [if_neg c] at hx
      have := hok.live h o (hlr h o q1) k hx
      exact ⟨Nat.lt_of_lt_of_le this.1 g3.size, this.2⟩
  · intro k hk hx
    exact g3.block k hk fun d => hx h0 _ hl0 (hown k d.symm)
  · intro h o h1 k hx
    rcases hl' h o h1 with ⟨rfl, rfl⟩ | ⟨c, h1⟩
    · simp only [if_true] at hx
      rcases hblk k hx with d | d
      · exact .inr ⟨h0, _, hl0, d⟩
      · exact .inl (by omega)
    · simp only [if_neg c] at hx
      exact .inr ⟨h, o, hlr h o h1, hx⟩
  · intro h hh
    refine hσ h fun c => ?_
    subst c
    rcases hh with hh | hh
    · simp [look] at hh
    · simp only [look, beq_false hne.symm, cond_false] at hh
      exact hh k2
theorem tri_append {P : Program} {T : Tab} (hT : TabOK P T) {t tx ty : TypeId} {s x : Operand} {e sz bytes h0 n : Nat} {es es2 : List (List DV)} {sv2 : SV} {r : Objs} (ho : appOK T t e sz bytes = true)
    (hk : (look r h0).isNone = true ∧ (look r n).isNone = true ∧ Nat.beq n h0 = false ∧ (r.any fun p => p.2.has n) = false)
    (hsrc : ∀ F σ X w x, RepS F σ w x sv2 → OKs F σ X w r → SrcD P F w sz tx x es2) (hes : ∀ y ∈ es2, y.length = sz) (hb : (es.length + es2.length) * bytes ≤ 140737488355328) :
    Tri P (mkO (.call { callee := .builtin .append, args := #[s, x], argTypes := #[t, tx] }) ty) [cc (.own h0), sv2] ((h0, .arr e sz bytes es) :: r) (cc (.own n)) ((n, .arr e sz bytes (es ++ es2)) :: r) := by
  intro F σ X w a hr hok hF
  obtain ⟨ht, hb1, i, z, hi, hz, hsize, hby, hzs⟩ := appOK_parts hT ho
  obtain ⟨k1, k2, k3, k4⟩ := hk
  rw [Option.isNone_iff_eq_none] at k1 k2
  have hne : n ≠ h0 := fun c => by subst c; simp at k3
  have hrne : ∀ h o, look r h = some o → h ≠ h0 ∧ h ≠ n ∧ o.has n = false := fun h o e => by
    refine ⟨fun c => by (subst c; rw [k1] at e; cases e), fun c => by (subst c; rw [k2] at e; cases e), ?_⟩
    rw [List.any_eq_false] at k4
    simpa using k4 _ (look_mem e)
  have hl0 : look ((h0, LObj.arr e sz bytes es) :: r) h0 = some (.arr e sz bytes es) := by simp [look]
  have hlr : ∀ h o, look r h = some o → look ((h0, LObj.arr e sz bytes es) :: r) h = some o := fun h o e => by
    simp only [look, beq_false (hrne h o e).1.symm, cond_false]; exact e
  have hl' : ∀ h o, look ((n, LObj.arr e sz bytes (es ++ es2)) :: r) h = some o → (h = n ∧ o = .arr e sz bytes (es ++ es2)) ∨ (h ≠ n ∧ look r h = some o) := fun h o e => by
    by_cases c : n = h
    · subst c; simp only [look, Nat.beq_refl, cond_true, Option.some.injEq] at e; exact .inl ⟨rfl, e.symm⟩
    · simp only [look, beq_false c, cond_false] at e; exact .inr ⟨fun d => c d.symm, e⟩
  obtain ⟨hr1, hr2, _⟩ := (show RepS F σ w (a.eval s) (cc (.own h0)) ∧ RepS F σ w (a.eval x) sv2 ∧ True from hr)
  obtain ⟨hv0, _⟩ := (show RepC F σ w _ (.own h0) from hr1)
  obtain ⟨xs, e1, e2, e3, e4, e5⟩ := hok.ok h0 _ hl0
  rw [← hv0] at e1 e2
  obtain ⟨news, hs, hn⟩ := hsrc F σ X w (a.eval x) hr2 ⟨fun h o e => hok.ok h o (hlr h o e), fun h h' o o' e e' => hok.apart h h' o o' (hlr h o e) (hlr h' o' e'), fun h o e => hok.live h o (hlr h o e)⟩
  have hmul : es.length + es2.length ≤ (es.length + es2.length) * bytes := Nat.le_mul_of_pos_right _ hb1
  obtain ⟨v', w', g1, g2, g3, g4⟩ := append_src (P := P) w t tx ty e i z sz bytes ht hi hz hsize hby hzs _ _ xs e1 (a.eval x) es2.length news hs (by simp only [maxLen]; omega) hb
  have hrun : (execOp a.eval (mkO (.call { callee := .builtin .append, args := #[s, x], argTypes := #[t, tx] }) ty)).run P w = .ok (.value v') w' := by
    simp only [execOp, mkO, resolve, invoke, builtin, Sem.run_bind, Sem.run_pure, Result.andThen_ok, List.map_toArray, List.map_cons, List.map_nil, g1]
  rw [hrun]
  have hown : ∀ k, (a.eval s).ownBlock = some k → X h0 k := fun k hk => (e2 k).2 hk
  have hFw : ∀ b, F b → w'.heap[b]? = w.heap[b]? := fun b hb => g3.block b (hF b hb) fun c => (hok.live h0 _ hl0 b (hown b c.symm)).2 hb
  have hσ : ∀ k, k ≠ n → (fun k => if k = n then v' else σ k) k = σ k := fun k hk => if_neg hk
  have hshape : ∃ a' n' c', v' = .slice a' n' c' := by
    rcases g2.2 with ⟨c, _⟩ | ⟨g, cap, cur, c, _⟩
    · exact ⟨_, _, _, c⟩
    · exact ⟨_, _, _, c⟩
  have hblk : ∀ k, v'.ownBlock = some k → X h0 k ∨ k = w.heap.size := fun k hk => by
    rcases g4 with c | c
    · rw [c] at hk; exact .inl (hown k hk)
    · rw [c] at hk; exact .inr (Option.some.inj hk).symm
  refine ⟨F, fun k => if k = n then v' else σ k, fun h k => if h = n then v'.ownBlock = some k else X h k, ⟨by simp, ?_⟩, ⟨?_, ?_, ?_⟩, g3.os, g3.tape, g3.output, g3.size, ?_, fun _ h => h, fun _ h => .inl h, ?_, ?_⟩
  · obtain ⟨_, _, _, c⟩ := hshape
    simp [c, Value.oneCell']
  · intro h o ho
    rcases hl' h o ho with ⟨rfl, rfl⟩ | ⟨c, hq⟩
    · simp only [if_true]
      refine ⟨xs ++ news, by simpa using g2, fun k => Iff.rfl, ?_, by simpa using hb, ?_⟩
      · intro y hy
        rcases List.mem_append.1 hy with hy | hy
        · exact e3 y hy
        · exact hes y hy
      · intro i hi j hj
        have hx1 : xs.length = es.length * sz := e1.1
        by_cases c : i < es.length
        · simp only [List.getElem_append_left c] at hj ⊢
          have hjs : j < sz := by rw [e3 _ (List.getElem_mem c)] at hj; exact hj
          have hlt : i * sz + j < xs.length := by
            have := Nat.mul_le_mul_right sz (show i + 1 ≤ es.length from c)
            rw [Nat.add_mul, Nat.one_mul] at this
            omega
          have := RepD.mono (fun _ h => h) hFw (e5 i c j hj)
          simp only [List.getD_eq_getElem?_getD, List.getElem?_append_left hlt] at this ⊢
          exact this
        · have hi' : i - es.length < es2.length := by simp only [List.length_append] at hi; omega
          have hidx : (es ++ es2)[i] = es2[i - es.length] := List.getElem_append_right (by omega)
          simp only [hidx] at hj ⊢
          have := RepD.mono (fun _ h => h) hFw (hn (i - es.length) hi' j hj)
          have hsub : i * sz + j - xs.length = (i - es.length) * sz + j := by
            rw [hx1, Nat.sub_mul]
            have := Nat.mul_le_mul_right sz (show es.length ≤ i by omega)
            omega
          have hge : xs.length ≤ i * sz + j := by
            rw [hx1]
            have := Nat.mul_le_mul_right sz (show es.length ≤ i by omega)
            omega
          simp only [List.getD_eq_getElem?_getD, List.getElem?_append_right hge, hsub] at this ⊢
          exact this
    · simp only [if_neg c]
      refine ObjOK.mono (fun _ h => h) (fun b hb => hb.elim (hFw b) fun hx => ?_) (fun k hk => hσ k fun d => ?_) (hok.ok h o (hlr h o hq))
      · exact g3.block b (hok.live h o (hlr h o hq) b hx).1 fun d => hok.apart h h0 o _ (hlr h o hq) hl0 (hrne h o hq).1 b hx (hown b d.symm)
      · rw [d, (hrne h o hq).2.2] at hk; cases hk
  · intro h h' o o' h1 h2 hd k hx hx'
    rcases hl' h o h1 with ⟨e7, rfl⟩ | ⟨c, q1⟩ <;> rcases hl' h' o' h2 with ⟨e8, rfl⟩ | ⟨c', q2⟩
    · exact hd (e7.trans e8.symm)
    · simp only [e7, if_true, if_neg c'] at hx hx'
      rcases hblk k hx with d | d
      · exact hok.apart h0 h' _ o' hl0 (hlr h' o' q2) (hrne h' o' q2).1.symm k d hx'
      · have := (hok.live h' o' (hlr h' o' q2) k hx').1; omega
    · simp only [e8, if_true, if_neg c] at hx hx'
      rcases hblk k hx' with d | d
      · exact hok.apart h0 h _ o hl0 (hlr h o q1) (hrne h o q1).1.symm k d hx
      · have := (hok.live h o (hlr h o q1) k hx).1; omega
    · simp only [if_neg c, if_neg c'] at hx hx'
      exact hok.apart h h' o o' (hlr h o q1) (hlr h' o' q2) hd k hx hx'
  · intro h o h1 k hx
    rcases hl' h o h1 with ⟨rfl, rfl⟩ | ⟨c, q1⟩
    · simp only [if_true] at hx
      refine ⟨(g2.lt k hx).2, fun hf => ?_⟩
      rcases hblk k hx with d | d
      · exact (hok.live h0 _ hl0 k d).2 hf
      · have := hF k hf; omega
    · simp only [if_neg c] at hx
      have := hok.live h o (hlr h o q1) k hx
      exact ⟨Nat.lt_of_lt_of_le this.1 g3.size, this.2⟩
  · intro k hk hx
    exact g3.block k hk fun d => hx h0 _ hl0 (hown k d.symm)
  · intro h o h1 k hx
    rcases hl' h o h1 with ⟨rfl, rfl⟩ | ⟨c, h1⟩
    · simp only [if_true] at hx
      rcases hblk k hx with d | d
      · exact .inr ⟨h0, _, hl0, d⟩
      · exact .inl (by omega)
    · simp only [if_neg c] at hx
      exact .inr ⟨h, o, hlr h o h1, hx⟩
  · intro h hh
    refine hσ h fun c => ?_
    subst c
    rcases hh with hh | hh
    · simp [look] at hh
    · simp only [look, beq_false hne.symm, cond_false] at hh
      exact hh k2
end Go.E

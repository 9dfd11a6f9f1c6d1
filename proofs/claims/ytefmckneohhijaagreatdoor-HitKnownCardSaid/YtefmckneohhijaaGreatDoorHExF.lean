/- A symbolic executor for Go code in the model, proved sound for any program: regions that draw their order, first part. No condition. -/
import Derived.Test.YtefmckneohhijaaGreatDoorHExE
namespace Go.Ex
open Go Go.RowKit

/-! ### What must come before -/
theorem testBit_bit (k j : Nat) : (1 <<< k).testBit j = decide (k = j) := by
  rw [Nat.one_shiftLeft, Nat.testBit_two_pow]

theorem depBits_ok {S : Nat → Prop} {acc : List Nat} (hacc : ∀ i, S i → ∀ j, (acc.getD i 0).testBit j = true → S j) : ∀ (es : List Edge), (∀ e ∈ es, Region.binds .any e = true → S e.on) → ∀ j, (depBits acc es).testBit j = true → S j
  | [], _, j, h => by simp [depBits] at h
  | e :: es, hs, j, h => by
    simp only [depBits] at h
    split at h
    · rename_i hb
      have he := hs e (List.mem_cons_self ..) hb
      simp only [Nat.testBit_or, Bool.or_eq_true, testBit_bit, decide_eq_true_eq] at h
      rcases h with rfl | h | h
      · exact he
      · exact hacc _ he j h
      · exact depBits_ok hacc es (fun e' h' => hs e' (List.mem_cons_of_mem _ h')) j h
    · exact depBits_ok hacc es (fun e' h' => hs e' (List.mem_cons_of_mem _ h')) j h

theorem befs_ok {S : Nat → Prop} {os : List Oper} (hS : ∀ i o, os[i]? = some o → S i → ∀ e ∈ o.after.toList, Region.binds .any e = true → S e.on) : ∀ (l pre : List Oper) (acc : List Nat), os = pre ++ l → acc.length = pre.length →
    (∀ i o, pre[i]? = some o → (∀ e ∈ o.after.toList, Region.binds .any e = true → S e.on) → ∀ j, (acc.getD i 0).testBit j = true → S j) →
    ∀ i o, os[i]? = some o → (∀ e ∈ o.after.toList, Region.binds .any e = true → S e.on) → ∀ j, ((befs l acc).getD i 0).testBit j = true → S j
  | [], pre, acc, hos, hlen, hp, i, o, ho, hd, j, h => by
    rw [List.append_nil] at hos
    subst hos
    exact hp i o ho hd j h
  | x :: l, pre, acc, hos, hlen, hp, i, o, ho, hd, j, h => by
    refine befs_ok hS l (pre ++ [x]) (acc ++ [depBits acc x.after.toList]) (by rw [hos]; simp) (by simp [hlen]) ?_ i o ho hd j h
    intro i' o' ho' hd' j' h'
    by_cases hlt : i' < pre.length
    · rw [List.getElem?_append_left hlt] at ho'
      have : (acc ++ [depBits acc x.after.toList]).getD i' 0 = acc.getD i' 0 := by
        simp only [List.getD_eq_getElem?_getD]
        rw [List.getElem?_append_left (by omega)]
      rw [this] at h'
      exact hp i' o' ho' hd' j' h'
    · have hi' : i' = pre.length := by
        have := (List.getElem?_eq_some_iff.1 ho').1
        simp at this; omega
      subst hi'
      simp at ho'
      subst ho'
      have e1 : (acc ++ [depBits acc x.after.toList]).getD pre.length 0 = depBits acc x.after.toList := by
        simp only [List.getD_eq_getElem?_getD]
        rw [List.getElem?_append_right (by omega)]
        simp [hlen]
      rw [e1] at h'
      refine depBits_ok (acc := acc) (fun q hq j hj => ?_) _ hd' j' h'
      by_cases hql : q < pre.length
      · have hqo : pre[q]? = some pre[q] := List.getElem?_eq_getElem hql
        refine hp q _ hqo (hS q _ ?_ hq) j hj
        rw [hos, List.getElem?_append_left hql]; exact hqo
      · have : acc.getD q 0 = 0 := by
          simp only [List.getD_eq_getElem?_getD]
          rw [List.getElem?_eq_none (by omega)]; rfl
        rw [this] at hj
        simp at hj

/-- The set of a region's operations that have been done is shut under what must come before. -/
def Shut (ops : Array Oper) (S : Nat → Prop) : Prop := ∀ i o, ops[i]? = some o → S i → ∀ e ∈ o.after.toList, Region.binds .any e = true → S e.on

theorem before_ok {ops : Array Oper} {S : Nat → Prop} (hS : Shut ops S) {i : Nat} {o : Oper} (ho : ops[i]? = some o) (hd : ∀ e ∈ o.after.toList, Region.binds .any e = true → S e.on) {j : Nat} (h : ((befs ops.toList []).getD i 0).testBit j = true) : S j := by
  refine befs_ok (S := S) (os := ops.toList) (fun i o hi => hS i o (by simpa using hi)) ops.toList [] [] rfl rfl (fun i o hi => by simp at hi) i o (by simpa using ho) hd j h

theorem readyB_iff {D : Nat} : ∀ {es : List Edge}, readyB D es = true ↔ ∀ e ∈ es, Region.binds .any e = true → D.testBit e.on = true
  | [] => by simp [readyB]
  | e :: es => by
    simp only [readyB, Bool.and_eq_true, readyB_iff (es := es), List.mem_cons, forall_eq_or_imp, Bool.or_eq_true, Bool.not_eq_true']
    constructor
    · rintro ⟨h1, h2⟩
      refine ⟨fun hb => ?_, h2⟩
      rcases h1 with h1 | h1
      · rw [hb] at h1; cases h1
      · exact h1
    · rintro ⟨h1, h2⟩
      refine ⟨?_, h2⟩
      cases hb : Region.binds .any e
      · exact .inl rfl
      · exact .inr (h1 hb)

theorem loudMid_ok {ops : Array Oper} {B : List Nat} {i k : Nat} : ∀ {l : List Nat}, loudMid ops B i k l = true → ∃ (c : Nat) (o : Oper), ops[c]? = some o ∧ isLoud o.op = true ∧ (B.getD i 0).testBit c = true ∧ (B.getD c 0).testBit k = true
  | [], h => by cases h
  | c :: l, h => by
    simp only [loudMid, Bool.or_eq_true] at h
    rcases h with h | h
    · split at h
      · rename_i o ho
        simp only [Bool.and_eq_true] at h
        exact ⟨c, o, ho, h.1, h.2.1, h.2.2⟩
      · cases h
    · exact loudMid_ok h

theorem noLateDep_ok {ops : Array Oper} {B idxs : List Nat} {i : Nat} : ∀ {es : List Edge}, noLateDep ops B idxs i es = true → ∀ e ∈ es, Region.binds .any e = true → ∀ o, ops[e.on]? = some o → isLate o.op = false ∨
    ∃ (c : Nat) (p : Oper), ops[c]? = some p ∧ isLoud p.op = true ∧ (B.getD i 0).testBit c = true ∧ (B.getD c 0).testBit e.on = true
  | [], _, e, he, _, _, _ => by cases he
  | x :: es, h, e, he, hb, o, ho => by
    simp only [noLateDep, Bool.and_eq_true, Bool.or_eq_true, Bool.not_eq_true'] at h
    rcases List.mem_cons.1 he with rfl | he
    · rcases h.1 with h1 | h1
      · rw [hb] at h1; cases h1
      · simp only [ho, Bool.or_eq_true, Bool.not_eq_true'] at h1
        rcases h1 with h1 | h1
        · exact .inl h1
        · exact .inr (loudMid_ok h1)
    · exact noLateDep_ok h.2 e he hb o ho

theorem edgesLow_ok {i : Nat} : ∀ {es : List Edge}, edgesLow i es = true → ∀ e ∈ es, Region.binds .any e = true → e.on < i
  | [], _, e, he, _ => by cases he
  | x :: es, h, e, he, hb => by
    simp only [edgesLow, Bool.and_eq_true, Bool.or_eq_true, Bool.not_eq_true'] at h
    rcases List.mem_cons.1 he with rfl | he
    · rcases h.1 with h1 | h1
      · rw [hb] at h1; cases h1
      · exact Nat.blt_eq ▸ h1
    · exact edgesLow_ok h.2 e he hb

theorem memN_iff {t : Nat} : ∀ {l : List Nat}, memN t l = true ↔ t ∈ l
  | [] => by simp [memN]
  | a :: l => by
    simp only [memN, Bool.or_eq_true, memN_iff (l := l), List.mem_cons]
    constructor
    · rintro (h | h)
      · exact .inl (Nat.eq_of_beq_eq_true h).symm
      · exact .inr h
    · rintro (rfl | h)
      · exact .inl (Nat.beq_refl _)
      · exact .inr h

theorem pairsOk_ok {ops : Array Oper} {B : List Nat} {i : Nat} {o : Oper} : ∀ {l : List Nat}, pairsOk ops B i o l = true → ∀ j ∈ l, ∀ p, ops[j]? = some p → pairOk ops B i o j p = true
  | [], _, j, hj, _, _ => by cases hj
  | x :: l, h, j, hj, p, hp => by
    simp only [pairsOk, Bool.and_eq_true] at h
    rcases List.mem_cons.1 hj with rfl | hj
    · simpa [hp] using h.1
    · exact pairsOk_ok h.2 j hj p hp

theorem drawOk_ok {ops : Array Oper} {B idxs : List Nat} : ∀ {l : List Nat}, drawOk ops B idxs l = true → ∀ i ∈ l, ∀ o, ops[i]? = some o → opOk ops B idxs i o = true
  | [], _, i, hi, _, _ => by cases hi
  | x :: l, h, i, hi, o, ho => by
    simp only [drawOk, Bool.and_eq_true] at h
    rcases List.mem_cons.1 hi with rfl | hi
    · simpa [ho] using h.1
    · exact drawOk_ok h.2 i hi o ho

/-- What the checks say of a region. -/
structure Checked (ops : Array Oper) : Prop where
  low : ∀ (i : Nat) (o : Oper), ops[i]? = some o → ∀ e ∈ o.after.toList, Region.binds .any e = true → e.on < i
  noLate : ∀ (i : Nat) (o : Oper), ops[i]? = some o → isLoud o.op = false → ∀ e ∈ o.after.toList, Region.binds .any e = true → ∀ (p : Oper), ops[e.on]? = some p → isLate p.op = false ∨ ∃ (c : Nat) (q : Oper), ops[c]? = some q ∧ isLoud q.op = true ∧ ((befs ops.toList []).getD i 0).testBit c = true ∧ ((befs ops.toList []).getD c 0).testBit e.on = true
  lateGuard : ∀ (i : Nat) (o : Oper), ops[i]? = some o → isLate o.op = true → o.guard = none
  dstSelf : ∀ (i : Nat) (o : Oper) (d : Nat), ops[i]? = some o → o.dst = some d → d ∉ o.looksAt ops
  dstNe : ∀ (i : Nat) (o : Oper) (j : Nat) (p : Oper) (d : Nat), ops[i]? = some o → ops[j]? = some p → i ≠ j → o.dst = some d → p.dst = some d → False
  order : ∀ (i : Nat) (o : Oper) (j : Nat) (p : Oper) (d : Nat), ops[i]? = some o → ops[j]? = some p → i ≠ j → p.dst = some d → d ∈ o.looksAt ops → ((befs ops.toList []).getD i 0).testBit j = true ∨ ((befs ops.toList []).getD j 0).testBit i = true
  loud : ∀ (i : Nat) (o : Oper) (j : Nat) (p : Oper), ops[i]? = some o → ops[j]? = some p → isLoud o.op = true → isLoud p.op = true → j < i → ((befs ops.toList []).getD i 0).testBit j = true

theorem checked_of {ops : Array Oper} (h : drawOk ops (befs ops.toList []) (List.range ops.size) (List.range ops.size) = true) : Checked ops := by
  have hlt : ∀ (i : Nat) (o : Oper), ops[i]? = some o → i ∈ List.range ops.size := fun i o ho => List.mem_range.2 (Array.getElem?_eq_some_iff.1 ho).1
  have hop : ∀ (i : Nat) (o : Oper), ops[i]? = some o → opOk ops (befs ops.toList []) (List.range ops.size) i o = true := fun i o ho => drawOk_ok h i (hlt i o ho) o ho
  have hpair : ∀ (i : Nat) (o : Oper) (j : Nat) (p : Oper), ops[i]? = some o → ops[j]? = some p → pairOk ops (befs ops.toList []) i o j p = true := fun i o j p ho hp => by
    have := hop i o ho
    simp only [opOk, Bool.and_eq_true] at this
    exact pairsOk_ok this.2.2.2 j (hlt j p hp) p hp
  refine ⟨?_, ?_, ?_, ?_, ?_, ?_, ?_⟩
  · intro i o ho
    have := hop i o ho
    simp only [opOk, Bool.and_eq_true] at this
    exact edgesLow_ok this.1
  · intro i o ho hl
    have := hop i o ho
    simp only [opOk, Bool.and_eq_true, hl, Bool.false_or] at this
    exact noLateDep_ok this.2.1
  · intro i o ho hl
    have := hop i o ho
    simp only [opOk, Bool.and_eq_true, hl, Bool.not_true, Bool.false_or] at this
    exact Option.isNone_iff_eq_none.1 this.2.2.1
  · intro i o d ho hd hm
    have := hpair i o i o ho ho
    simp only [pairOk, hd, Nat.beq_refl, Bool.and_eq_true, Bool.not_eq_true'] at this
    have h2 := memN_iff.2 hm
    rw [this.1] at h2; cases h2
  · intro i o j p d ho hp hne hd hd'
    have := hpair i o j p ho hp
    have hb : i.beq j = false := by
      cases hb : i.beq j with
      | true => exact absurd (Nat.eq_of_beq_eq_true hb) hne
      | false => rfl
    simp only [pairOk, hd, hd', hb, Nat.beq_refl, Bool.not_true, Bool.false_and, Bool.false_eq_true] at this
  · intro i o j p d ho hp hne hd hm
    have := hpair i o j p ho hp
    have hb : i.beq j = false := by
      cases hb : i.beq j with
      | true => exact absurd (Nat.eq_of_beq_eq_true hb) hne
      | false => rfl
    simp only [pairOk, hd, hb, Bool.and_eq_true, Bool.or_eq_true, Bool.not_eq_true', memN_iff.2 hm, Bool.true_eq_false, false_or] at this
    exact this.1.2
  · intro i o j p ho hp hlo hlp hlt'
    have := hpair i o j p ho hp
    simp only [pairOk, Bool.and_eq_true, Bool.or_eq_true, Bool.not_eq_true', hlo, hlp, (Nat.blt_eq ▸ hlt' : Nat.blt j i = true), Bool.and_self, Bool.true_eq_false, false_or] at this
    exact this.2

end Go.Ex

namespace Go.Ex
open Go Go.RowKit

abbrev Bt (ops : Array Oper) (i j : Nat) : Prop := ((befs ops.toList []).getD i 0).testBit j = true
abbrev Lst (listed : Array Bool) (i : Nat) : Prop := listed.getD i false = true
abbrev Dn (D i : Nat) : Prop := D.testBit i = true

def NewV.val (k : Nat) : NewV → Value
  | .ptr => .pointer (some ⟨k, 0, none⟩)
  | .slice n => .slice (some ⟨k, 0, none⟩) n n
  | .map => .map (some k)

/-- What the operation i sees at the temporary t. -/
def OpV (ops : Array Oper) (A0 : Act) (env : Env) (tm : Tm) (i t : Nat) (Ai : Act) : Prop :=
  (∀ (d : Nat) (p : Oper), ops[d]? = some p → p.dst = some t → Bt ops i d → ∀ a, (tm.get? t) = some a → ∃ V, Ai.tmps[t]? = some V ∧ a.den env = some V) ∧
  ((∀ (d : Nat) (p : Oper), ops[d]? = some p → p.dst = some t → ¬ Bt ops i d) → Ai.tmps[t]? = A0.tmps[t]?)

def RunOk (C : Ctx) (env : Env) (st : St) (lds : List LD) (i : Nat) (o : Oper) (v : AV) (Ai : Act) : Prop :=
  (∀ w, PopOk C env Ai o v w) ∨ (∃ t xo x, o.op = .load t xo ∧ x.den env = some (Ai.eval xo) ∧ lopAt C.T st.heap t x = some v ∧ (⟨i, t, x, v⟩ : LD) ∈ lds)

/-- An operation that the executor has done and the machine has not. -/
def Rep (C : Ctx) (ops : Array Oper) (A0 : Act) (env : Env) (tm : Tm) (st : St) (lds : List LD) (i : Nat) (o : Oper) : Prop :=
  ∃ Ai : Act, Ai.tmps.size = A0.tmps.size ∧ (∀ t ∈ o.looksAt ops, OpV ops A0 env tm i t Ai) ∧
    ((Region.wanted o (yielded ops Ai.tmps) = false ∧ ∀ t, o.dst = some t → ∀ a, (tm.get? t) = some a → a = undefA) ∨
     (Region.wanted o (yielded ops Ai.tmps) = true ∧ ∃ v, (∀ t, o.dst = some t → ∀ a, (tm.get? t) = some a → a = v) ∧ RunOk C env st lds i o v Ai))

/-- A block that the machine has made and the executor has not. -/
def Pend (C : Ctx) (env : Env) (tm : Tm) (st : St) (wb : World) (A : Act) (w : World) (k : Nat) (p : Oper) : Prop :=
  ∃ ao nv ob, aop C.T tm p.op = some (ao, nv) ∧ (∀ t, p.dst = some t → t < tm.n → A.tmps[t]? = some (nv.val k)) ∧ w.heap[k]? = some ob ∧ C.w0.heap.size ≤ k ∧ wb.heap.size ≤ k ∧
    (∀ q ∈ st.heap, addr env q.1 ≠ some k) ∧ (∀ env', env <+: env' → ORel env' ao ob)

structure Lag (C : Ctx) (ops : Array Oper) (env0 : Env) (st0 : St) (wb : World) (A0 : Act) (env : Env) (D : Nat) (lds : List LD) (tm : Tm) (st : St) (listed : Array Bool) (A : Act) (w : World) : Prop where
  wrel : WRel C env st w
  keep : Keep env0 st0 wb env st w
  defs : A.defers = A0.defers
  tden : ∃ vs, AV.dens env tm.toL = some vs
  tlen : tm.n = A0.tmps.size
  asz : A.tmps.size = A0.tmps.size
  lsz : listed.size = ops.size
  loud : ∀ (i : Nat) (o : Oper), ops[i]? = some o → isLoud o.op = true → (Dn D i ↔ Lst listed i)
  quiet : ∀ (i : Nat) (o : Oper), ops[i]? = some o → isQuiet o.op = true → Lst listed i → Dn D i
  late : ∀ (i : Nat) (o : Oper), ops[i]? = some o → isLate o.op = true → Dn D i → Lst listed i
  shutL : Shut ops (Lst listed)
  shutD : Shut ops (Dn D)
  t2 : ∀ t, (∀ (d : Nat) (p : Oper), ops[d]? = some p → p.dst = some t → ¬ Lst listed d) → A.tmps[t]? = A0.tmps[t]?
  t3 : ∀ t, (∀ (d : Nat) (p : Oper), ops[d]? = some p → p.dst = some t → ¬ Dn D d) → ∀ a, (tm.get? t) = some a → ∃ V, A0.tmps[t]? = some V ∧ a.den env = some V
  t4 : ∀ (d : Nat) (p : Oper) t, ops[d]? = some p → p.dst = some t → Lst listed d → Dn D d → ∀ a, (tm.get? t) = some a → ∃ V, A.tmps[t]? = some V ∧ a.den env = some V
  rep : ∀ (i : Nat) (o : Oper), ops[i]? = some o → isQuiet o.op = true → Dn D i → ¬ Lst listed i → Rep C ops A0 env tm st lds i o
  pend : ∃ kf : Nat → Nat, (∀ (l : Nat) (p : Oper), ops[l]? = some p → isLate p.op = true → Lst listed l → ¬ Dn D l → Pend C env tm st wb A w (kf l) p) ∧
    (∀ (l l' : Nat) (p p' : Oper), ops[l]? = some p → ops[l']? = some p' → isLate p.op = true → isLate p'.op = true → Lst listed l → Lst listed l' → ¬ Dn D l → ¬ Dn D l' → l ≠ l' → kf l ≠ kf l')

section
variable {C : Ctx} {ops : Array Oper} {env0 : Env} {st0 : St} {wb : World} {A0 : Act} {env : Env} {D : Nat} {lds : List LD} {tm : Tm} {st : St} {listed : Array Bool} {A : Act} {w : World}

/-- The act of which the executor's temporaries are the picture. -/
theorem Lag.hyb (h : Lag C ops env0 st0 wb A0 env D lds tm st listed A w) : ∃ Ah : Act, TRel env tm Ah.tmps ∧ Ah.tmps.size = A0.tmps.size ∧ Ah.defers = A0.defers ∧ (∀ (t : Nat) (a : AV), (tm.get? t) = some a → ∃ V, Ah.tmps[t]? = some V ∧ a.den env = some V) := by
  obtain ⟨vs, hvs⟩ := h.tden
  have hl := AV.dens_length hvs
  refine ⟨{ tmps := vs.toArray, defers := A0.defers }, ⟨vs, hvs, rfl⟩, by simp [hl, Tm.toL_length, h.tlen], rfl, fun t a ha => ?_⟩
  rw [Tm.get?_eq] at ha
  obtain ⟨V, hV, hd⟩ := AV.dens_get hvs ha
  exact ⟨V, by simpa using hV, hd⟩

theorem getElem?_none_of {l : Tm} {t : Nat} (h : l.get? t = none) {n : Nat} (hn : l.n = n) {B : Array Value} (hB : B.size = n) : B[t]? = none := by
  rw [Array.getElem?_eq_none]
  rw [Tm.get?_eq] at h
  have := List.getElem?_eq_none_iff.1 h
  rw [Tm.toL_length] at this
  omega

/-- Two acts that agree on what an operation looks at. -/
theorem exec_same {A1 A2 : Act} {o : Oper} (hs : ∀ cs b, o.op ≠ .select cs b) (h : ∀ t ∈ o.looksAt ops, A1.tmps[t]? = A2.tmps[t]?) : execOp A1.eval o = execOp A2.eval o := by
  refine execOp_congr o hs fun x hx => ?_
  cases x with
  | tmp t =>
    have := h t (List.mem_append_left _ (List.mem_filterMap.2 ⟨.tmp t, by simpa using hx, rfl⟩))
    simp only [Act.eval, Array.getD_eq_getD_getElem?, this]
  | _ => rfl

theorem wanted_same {A1 A2 : Act} {o : Oper} (h : ∀ t ∈ o.looksAt ops, A1.tmps[t]? = A2.tmps[t]?) : Region.wanted o (yielded ops A1.tmps) = Region.wanted o (yielded ops A2.tmps) := by
  unfold Region.wanted
  cases hg : o.guard with
  | none => rfl
  | some g =>
    obtain ⟨j, want⟩ := g
    simp only
    have : yielded ops A1.tmps j = yielded ops A2.tmps j := by
      unfold yielded
      cases hd : (ops[j]?).bind (·.dst) with
      | none => rfl
      | some d =>
        have hm : d ∈ o.looksAt ops := by
          unfold Oper.looksAt
          refine List.mem_append_right _ ?_
          rw [hg]
          simp only [hd, Option.toList_some, List.mem_singleton]
        simp only [Option.bind_some, h d hm]
    rw [this]

/-- (K1) The machine sees what the executor saw. -/
theorem Lag.see (chk : Checked ops) (h : Lag C ops env0 st0 wb A0 env D lds tm st listed A w) {i : Nat} {o : Oper} (hi : ops[i]? = some o) (hD : ∀ e ∈ o.after.toList, Region.binds .any e = true → Dn D e.on)
    (hL : ∀ e ∈ o.after.toList, Region.binds .any e = true → Lst listed e.on) (hnL : ¬ Lst listed i) {Ai : Act} (hsz : Ai.tmps.size = A0.tmps.size) (hv : ∀ t ∈ o.looksAt ops, OpV ops A0 env tm i t Ai) :
    ∀ t ∈ o.looksAt ops, A.tmps[t]? = Ai.tmps[t]? := by
  intro t ht
  obtain ⟨h1, h2⟩ := hv t ht
  by_cases hd : ∃ (d : Nat) (p : Oper), ops[d]? = some p ∧ p.dst = some t ∧ Bt ops i d
  · obtain ⟨d, p, hp, hdst, hb⟩ := hd
    have hLd := before_ok h.shutL hi hL hb
    have hDd := before_ok h.shutD hi hD hb
    cases ha : (tm.get? t) with
    | none => rw [getElem?_none_of ha h.tlen h.asz, getElem?_none_of ha h.tlen hsz]
    | some a =>
      obtain ⟨V, hV, hden⟩ := h.t4 d p t hp hdst hLd hDd a ha
      obtain ⟨V', hV', hden'⟩ := h1 d p hp hdst hb a ha
      rw [hden] at hden'; cases hden'
      rw [hV, hV']
  · have hno : ∀ (d : Nat) (p : Oper), ops[d]? = some p → p.dst = some t → ¬ Bt ops i d := fun d p hp hdst hb => hd ⟨d, p, hp, hdst, hb⟩
    rw [h2 hno]
    refine h.t2 t fun d p hp hdst hLd => ?_
    have hne : i ≠ d := fun e => by subst e; rw [hi] at hp; cases hp; exact chk.dstSelf i o t hi hdst ht
    rcases chk.order i o d p t hi hp hne hdst ht with hb | hb
    · exact hno d p hp hdst hb
    · exact hnL (before_ok h.shutL hp (h.shutL d p hp hLd) hb)

/-- (K2) What the executor sees now is what the operation sees. -/
theorem Lag.opv (chk : Checked ops) (h : Lag C ops env0 st0 wb A0 env D lds tm st listed A w) {i : Nat} {o : Oper} (hi : ops[i]? = some o) (hnD : ¬ Dn D i) {Ah : Act} (hsz : Ah.tmps.size = A0.tmps.size)
    (hah : ∀ (t : Nat) (a : AV), (tm.get? t) = some a → ∃ V, Ah.tmps[t]? = some V ∧ a.den env = some V) : ∀ t ∈ o.looksAt ops, OpV ops A0 env tm i t Ah := by
  intro t ht
  refine ⟨fun d p hp hdst hb a ha => hah t a ha, fun hno => ?_⟩
  have hnd : ∀ (d : Nat) (p : Oper), ops[d]? = some p → p.dst = some t → ¬ Dn D d := fun d p hp hdst hDd => by
    have hne : i ≠ d := fun e => by subst e; rw [hi] at hp; cases hp; exact chk.dstSelf i o t hi hdst ht
    rcases chk.order i o d p t hi hp hne hdst ht with hb | hb
    · exact hno d p hp hdst hb
    · exact hnD (before_ok h.shutD hp (h.shutD d p hp hDd) hb)
  cases ha : (tm.get? t) with
  | none => rw [getElem?_none_of ha h.tlen hsz, getElem?_none_of ha h.tlen rfl]
  | some a =>
    obtain ⟨V, hV, hden⟩ := h.t3 t hnd a ha
    obtain ⟨V', hV', hden'⟩ := hah t a ha
    rw [hden] at hden'; cases hden'
    rw [hV, hV']

end

theorem testBit_or_bit (D i j : Nat) : (D ||| (1 <<< i)).testBit j = true ↔ (D.testBit j = true ∨ i = j) := by
  rw [Nat.testBit_or, testBit_bit, Bool.or_eq_true, decide_eq_true_eq]

theorem putT_get {tm : Tm} {d : Option Nat} {v : AV} {t : Nat} {a : AV} (h : (putT tm d v).get? t = some a) : (d = some t ∧ a = v) ∨ (d ≠ some t ∧ (tm.get? t) = some a) := by
  cases d with
  | none => exact .inr ⟨by simp, h⟩
  | some d =>
    simp only [putT, Tm.get?_set] at h
    split at h
    · rename_i e; subst e
      split at h
      · cases h; exact .inl ⟨rfl, rfl⟩
      · cases h
    · rename_i e; exact .inr ⟨fun e' => e (by cases e'; rfl), h⟩

theorem putT_length {tm : Tm} {d : Option Nat} {v : AV} : (putT tm d v).n = tm.n := by cases d <;> simp [putT, Tm.set_n]

theorem put_get {A : Act} {d : Option Nat} {V : Value} {t : Nat} (h : d ≠ some t) : (A.put d V).tmps[t]? = A.tmps[t]? := by
  cases d with
  | none => rfl
  | some d => simp only [Act.put]; rw [Array.getElem?_setIfInBounds_ne (fun e => h (by rw [e]))]

theorem put_get_same {A : Act} {V : Value} {t : Nat} (h : t < A.tmps.size) : (A.put (some t) V).tmps[t]? = some V := by
  simp only [Act.put]; rw [Array.getElem?_setIfInBounds_self_of_lt h]

theorem put_size {A : Act} {d : Option Nat} {V : Value} : (A.put d V).tmps.size = A.tmps.size := by cases d <;> simp [Act.put]

theorem putT_dens {env : Env} {tm : Tm} {vs : List Value} (h : AV.dens env tm.toL = some vs) {v : AV} {V : Value} (hv : v.den env = some V) (d : Option Nat) : ∃ us, AV.dens env (putT tm d v).toL = some us := by
  cases d with
  | none => exact ⟨vs, h⟩
  | some d => exact ⟨_, by simp only [putT, Tm.set_toL]; exact AV.dens_set h d hv⟩

/-- Operands of an operation, seen through temporaries that agree on them. -/
theorem evO_same {tm tm' : Tm} {x : Operand} (h : ∀ t, x = .tmp t → (tm.get? t) = (tm'.get? t)) : evO tm x = evO tm' x := by
  cases x with
  | tmp t => exact h t rfl
  | _ => rfl

theorem evParts_same {tm tm' : Tm} : ∀ {l : List (Nat × Operand)}, (∀ t, .tmp t ∈ l.map (·.2) → (tm.get? t) = (tm'.get? t)) → evParts tm l = evParts tm' l
  | [], _ => rfl
  | (i, x) :: l, h => by
    simp only [evParts]
    rw [evO_same (x := x) (fun t e => h t (by simp [e])), evParts_same (fun t ht => h t (by simp; exact .inr (by simpa using ht)))]

theorem aop_same {T : Tab} {ops : Array Oper} {tm tm' : Tm} {o : Oper} (h : ∀ t ∈ o.looksAt ops, (tm.get? t) = (tm'.get? t)) : aop T tm o.op = aop T tm' o.op := by
  have h' : ∀ t, .tmp t ∈ o.op.operands.toList → (tm.get? t) = (tm'.get? t) := fun t ht => h t (List.mem_append_left _ (List.mem_filterMap.2 ⟨.tmp t, ht, rfl⟩))
  cases hop : o.op <;> simp only [aop]
  case box t x =>
    rw [evO_same (x := x) (fun t e => h' t (by simp [hop, Op.operands, e]))]
  case buildSlice t n ps =>
    rw [evParts_same (l := ps.toList) (fun t ht => h' t (by simpa [hop, Op.operands] using ht))]
  case makeMap t r => cases r <;> rfl

end Go.Ex

namespace Go.Ex
open Go Go.RowKit

section
variable {C : Ctx} {ops : Array Oper} {env0 : Env} {st0 : St} {wb : World} {A0 : Act}

theorem quiet_facts {o : Op} (h : isQuiet o = true) : isLoud o = false ∧ isLate o = false ∧ (∀ cs b, o ≠ .select cs b) ∧ ∀ c, o ≠ .defer c := by
  refine ⟨by simp [isLoud, h], ?_, fun cs b e => (by subst e; cases h), isQuiet_nd h⟩
  cases o <;> first | rfl | cases h

theorem late_facts {o : Op} (h : isLate o = true) : isLoud o = false ∧ isQuiet o = false ∧ (∀ cs b, o ≠ .select cs b) ∧ ∀ c, o ≠ .defer c := by
  refine ⟨by simp [isLoud, h], ?_, fun cs b e => (by subst e; cases h), fun c e => (by subst e; cases h)⟩
  cases o <;> first | rfl | cases h

/-- A quiet operation is done by the executor. -/
theorem Lag.quietStep (chk : Checked ops) {env : Env} {D : Nat} {lds lds' : List LD} {tm : Tm} {st st' : St} {listed : Array Bool} {A : Act} {w : World} (h : Lag C ops env0 st0 wb A0 env D lds tm st listed A w) {i : Nat} {o : Oper} (hi : ops[i]? = some o) (hq : isQuiet o.op = true) (hnD : ¬ Dn D i)
    (hready : ∀ e ∈ o.after.toList, Region.binds .any e = true → Dn D e.on) (hw' : WRel C env st' w) (hs : Same st st') (hl : ∀ d ∈ lds, d ∈ lds') {v : AV} (hden : ∃ V, v.den env = some V)
    (hres : ∀ Ai : Act, TRel env tm Ai.tmps → (Region.wanted o (yielded ops Ai.tmps) = false ∧ v = undefA) ∨ (Region.wanted o (yielded ops Ai.tmps) = true ∧ RunOk C env st' lds' i o v Ai)) :
    Lag C ops env0 st0 wb A0 env (D ||| (1 <<< i)) lds' (putT tm o.dst v) st' listed A w := by
  obtain ⟨hnl, hnla, _, _⟩ := quiet_facts hq
  have hnL : ¬ Lst listed i := fun hL => hnD (h.quiet i o hi hq hL)
  obtain ⟨vs, hvs⟩ := h.tden
  obtain ⟨V, hV⟩ := hden
  have hdn : ∀ j, Dn (D ||| (1 <<< i)) j ↔ (Dn D j ∨ i = j) := fun j => testBit_or_bit D i j
  refine ⟨hw', ?_, h.defs, putT_dens hvs hV _, by rw [putT_length]; exact h.tlen, h.asz, h.lsz, ?_, ?_, ?_, h.shutL, ?_, h.t2, ?_, ?_, ?_, ?_⟩
  · exact ⟨h.keep.pre, h.keep.size, h.keep.block, fun q hq' => h.keep.keys q (by rw [← hs.heap]; exact hq')⟩
  · intro j p hj hp
    rw [hdn]
    refine ⟨fun hd => ?_, fun hL => .inl ((h.loud j p hj hp).2 hL)⟩
    rcases hd with hd | rfl
    · exact (h.loud j p hj hp).1 hd
    · rw [hi] at hj; cases hj; rw [hnl] at hp; cases hp
  · intro j p hj hp hL
    exact (hdn j).2 (.inl (h.quiet j p hj hp hL))
  · intro j p hj hp hd
    rcases (hdn j).1 hd with hd | rfl
    · exact h.late j p hj hp hd
    · rw [hi] at hj; cases hj; rw [hnla] at hp; cases hp
  · intro j p hj hd e he hb
    rcases (hdn j).1 hd with hd | rfl
    · exact (hdn _).2 (.inl (h.shutD j p hj hd e he hb))
    · rw [hi] at hj; cases hj; exact (hdn _).2 (.inl (hready e he hb))
  · -- t3
    intro t hno a ha
    rcases putT_get ha with ⟨hd, rfl⟩ | ⟨hd, ha⟩
    · exact absurd ((hdn i).2 (.inr rfl)) (hno i o hi hd)
    · exact h.t3 t (fun d p hp hdst hDd => hno d p hp hdst ((hdn d).2 (.inl hDd))) a ha
  · -- t4
    intro d p t hp hdst hLd hDd a ha
    have hdi : d ≠ i := fun e => by subst e; exact hnL hLd
    have hDd' : Dn D d := ((hdn d).1 hDd).resolve_right (fun e => hdi e.symm)
    rcases putT_get ha with ⟨hd, rfl⟩ | ⟨hd, ha⟩
    · exact (chk.dstNe d p i o t hp hi hdi hdst hd).elim
    · exact h.t4 d p t hp hdst hLd hDd' a ha
  · -- rep
    intro j p hj hp hDj hnLj
    by_cases hji : j = i
    · subst hji
      rw [hi] at hj; cases hj
      obtain ⟨Ah, hta, hsz, _, hah⟩ := h.hyb
      refine ⟨Ah, hsz, ?_, ?_⟩
      · intro t ht
        obtain ⟨g1, g2⟩ := h.opv chk hi hnD hsz hah t ht
        refine ⟨fun d q hq' hdst hb a ha => ?_, g2⟩
        rcases putT_get ha with ⟨hd, rfl⟩ | ⟨hd, ha⟩
        · exact absurd ht (chk.dstSelf j o t hi hd)
        · exact g1 d q hq' hdst hb a ha
      · rcases hres Ah hta with ⟨hwf, hv⟩ | ⟨hwt, hrun⟩
        · refine .inl ⟨hwf, fun t hd a ha => ?_⟩
          rcases putT_get ha with ⟨_, rfl⟩ | ⟨hd', _⟩
          · exact hv
          · exact absurd hd hd'
        · refine .inr ⟨hwt, v, fun t hd a ha => ?_, hrun⟩
          rcases putT_get ha with ⟨_, rfl⟩ | ⟨hd', _⟩
          · rfl
          · exact absurd hd hd'
    · have hDj' : Dn D j := ((hdn j).1 hDj).resolve_right (fun e => hji e.symm)
      obtain ⟨Aj, hsz, hv, hr⟩ := h.rep j p hj hp hDj' hnLj
      refine ⟨Aj, hsz, fun t ht => ?_, ?_⟩
      · obtain ⟨g1, g2⟩ := hv t ht
        refine ⟨fun d q hq' hdst hb a ha => ?_, g2⟩
        rcases putT_get ha with ⟨hd, rfl⟩ | ⟨hd, ha⟩
        · -- the temporary is the one that i writes: then i came before j
          have hdi : d = i := by
            by_cases hdi : d = i
            · exact hdi
            · exact (chk.dstNe d q i o t hq' hi hdi hdst hd).elim
          subst hdi
          exact absurd (before_ok h.shutD hj (h.shutD j p hj hDj') hb) hnD
        · exact g1 d q hq' hdst hb a ha
      · have hkeepd : ∀ t, p.dst = some t → ∀ a, (putT tm o.dst v).get? t = some a → (tm.get? t) = some a := fun t hd a ha => by
          rcases putT_get ha with ⟨hd', _⟩ | ⟨_, ha⟩
          · exact (chk.dstNe j p i o t hj hi hji hd hd').elim
          · exact ha
        rcases hr with ⟨hwf, hu⟩ | ⟨hwt, u, hu, hrun⟩
        · exact .inl ⟨hwf, fun t hd a ha => hu t hd a (hkeepd t hd a ha)⟩
        · refine .inr ⟨hwt, u, fun t hd a ha => hu t hd a (hkeepd t hd a ha), ?_⟩
          rcases hrun with hrun | ⟨t, xo, x, h1, h2, h3, h4⟩
          · exact .inl hrun
          · exact .inr ⟨t, xo, x, h1, h2, by rw [hs.heap]; exact h3, hl _ h4⟩
  · -- pend
    obtain ⟨kf, hp1, hp2⟩ := h.pend
    have hback : ∀ (l : Nat) (p : Oper), ops[l]? = some p → ¬ Dn (D ||| (1 <<< i)) l → ¬ Dn D l := fun l p _ hn hd => hn ((hdn l).2 (.inl hd))
    refine ⟨kf, fun l p hl' hlate hL hn => ?_, fun l l' p p' hl' hl'' h1 h2 h3 h4 h5 h6 hne => hp2 l l' p p' hl' hl'' h1 h2 h3 h4 (hback l p hl' h5) (hback l' p' hl'' h6) hne⟩
    obtain ⟨ao, nv, ob, g1, g2, g3, g4, g5, g6, g7⟩ := hp1 l p hl' hlate hL (hback l p hl' hn)
    have hli : l ≠ i := fun e => by subst e; exact hnL hL
    refine ⟨ao, nv, ob, ?_, fun t hd hlt => g2 t hd (by rwa [putT_length] at hlt), g3, g4, g5, fun q hq' => g6 q (by rw [← hs.heap]; exact hq'), g7⟩
    rw [← g1]
    refine aop_same (ops := ops) fun t ht => ?_
    cases hd : o.dst with
    | none => rfl
    | some d =>
      simp only [putT]
      by_cases hdt : d = t
      · subst hdt
        -- l looks at what i writes: i before l, or l before i
        rcases chk.order l p i o d hl' hi hli hd ht with hb | hb
        · exact absurd (before_ok h.shutL hl' (h.shutL l p hl' hL) hb) hnL
        · exact absurd (before_ok h.shutD hi hready hb) (hback l p hl' hn)
      · rw [Tm.get?_set_ne _ _ hdt]

theorem qval_run (hT : TabOk C) {env : Env} {w : World} {Q : Env → Out → Prop} {tm : Tm} {A : Act} {o : Oper} {st : St} {k : AV → St → Tr Out} (i : Nat) (lds : List LD) (h : (qval C.T tm st o.op k).sat C.S env Q) (hw : WRel C env st w) (ht : TRel env tm A.tmps) :
    ∃ v st', (k v st').sat C.S env Q ∧ WRel C env st' w ∧ Same st st' ∧ (∃ V, v.den env = some V) ∧ RunOk C env st' (ldOf tm i o.op v ++ lds) i o v A := by
  unfold qval at h
  split at h
  · rename_i v hv
    have hp := fun w' => pop_ok hT hw.facts ht hv w'
    exact ⟨v, st, h, hw, Same.refl _, (let ⟨V, hV, _⟩ := hp w; ⟨V, hV⟩), .inl hp⟩
  · split at h
    · rename_i v hv
      obtain ⟨V, hV, _⟩ := lop_ok hT hw ht hv
      refine ⟨v, st, h, hw, Same.refl _, ⟨V, hV⟩, .inr ?_⟩
      unfold lop at hv
      split at hv
      · rename_i t x hop
        split at hv
        · rename_i a ha
          exact ⟨t, x, a, hop, evO_ok ht ha, hv, by rw [hop]; simp [ldOf, ha]⟩
        · cases hv
      · cases hv
    · obtain ⟨v, st', h1, h2, h3, h4, h5⟩ := qrest_ok hT h hw ht
      exact ⟨v, st', h1, h2, h3, h4, .inl h5⟩

theorem quietPass_ok (hT : TabOk C) (chk : Checked ops) {Q : Env → Out → Prop} {k : Nat → List LD → Tm → St → Tr Out} {env : Env} {listed : Array Bool} {A : Act} {w : World} : ∀ (l : List Nat) {D : Nat} {lds : List LD} {tm : Tm} {st : St},
    (quietPass C.T ops k l D lds tm st).sat C.S env Q → Lag C ops env0 st0 wb A0 env D lds tm st listed A w →
    ∃ D' lds' tm' st', (k D' lds' tm' st').sat C.S env Q ∧ Lag C ops env0 st0 wb A0 env D' lds' tm' st' listed A w
  | [], D, lds, tm, st, h, hlag => ⟨D, lds, tm, st, h, hlag⟩
  | i :: l, D, lds, tm, st, h, hlag => by
    unfold quietPass at h
    split at h
    · exact quietPass_ok hT chk l h hlag
    · rename_i o hi
      split at h
      · exact quietPass_ok hT chk l h hlag
      · rename_i hc
        simp only [Bool.and_eq_true, Bool.not_eq_true'] at hc
        obtain ⟨hnD, hq, hrb⟩ := hc
        have hready := readyB_iff.1 hrb
        have hnD' : ¬ Dn D i := fun e => by rw [e] at hnD; cases hnD
        obtain ⟨Ah, hta, hsz, _, hah⟩ := hlag.hyb
        obtain ⟨st1, h1, hw1, hs1⟩ := guardOf_ok h hlag.wrel hta
        have huniq : ∀ Ai : Act, TRel env tm Ai.tmps → Ai.tmps = Ah.tmps := by
          rintro Ai ⟨vs, hvs, e⟩
          obtain ⟨us, hus, e'⟩ := hta
          rw [hvs] at hus; cases hus
          rw [e, e']
        by_cases hwant : Region.wanted o (yielded ops Ah.tmps) = true
        · simp only [hwant] at h1
          obtain ⟨v, st2, h2, hw2, hs2, hden, hrun⟩ := qval_run hT i lds h1 hw1 hta
          have hlag' : Lag C ops env0 st0 wb A0 env (D ||| (1 <<< i)) (ldOf tm i o.op v ++ lds) (putT tm o.dst v) st2 listed A w := by
            refine hlag.quietStep chk hi hq hnD' hready hw2 (hs1.trans hs2) (fun d hd => List.mem_append_right _ hd) hden ?_
            intro Ai hAi
            have e := huniq Ai hAi
            refine .inr ⟨by rw [e]; exact hwant, ?_⟩
            have hAe : Ai.eval = Ah.eval := funext fun x => by cases x <;> simp only [Act.eval, e]
            rcases hrun with hrun | ⟨t, xo, x, g1, g2, g3, g4⟩
            · exact .inl fun w' => by unfold PopOk; rw [hAe]; exact hrun w'
            · exact .inr ⟨t, xo, x, g1, by rw [hAe]; exact g2, g3, g4⟩
          exact quietPass_ok hT chk l h2 hlag'
        · have hwf : Region.wanted o (yielded ops Ah.tmps) = false := by simpa using hwant
          simp only [hwf] at h1
          have hlag' : Lag C ops env0 st0 wb A0 env (D ||| (1 <<< i)) lds (putT tm o.dst undefA) st1 listed A w := by
            refine hlag.quietStep chk hi hq hnD' hready hw1 hs1 (fun d hd => hd) ⟨undef, undefA_den env⟩ ?_
            intro Ai hAi
            exact .inl ⟨by rw [huniq Ai hAi]; exact hwf, rfl⟩
          exact quietPass_ok hT chk l h1 hlag'

end
end Go.Ex

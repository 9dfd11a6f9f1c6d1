/- A symbolic executor for Go code in the model, proved sound for any program: regions that draw their order, second part: the executor is sound. No condition. -/
import Derived.Test.YtefmckneohhijaaGreatDoorHExF
namespace Go.Ex
open Go Go.RowKit

section
variable {C : Ctx} {ops : Array Oper} {env0 : Env} {st0 : St} {wb : World} {A0 : Act}

theorem lookB_lt {C : Ctx} {env : Env} {st : St} {w : World} (hw : WRel C env st w) {id : Nat} {ao : AO} (h : lookB st.heap id = some ao) : id < st.nb := by
  obtain ⟨k, o, h1, _⟩ := hw.look h
  unfold addr at h1
  split at h1
  · rename_i hx
    have := (List.getElem?_eq_some_iff.1 hx).1
    rw [hw.len] at this; exact this
  · cases h1

theorem lopAt_cons {C : Ctx} (hT : TabOk C) {env : Env} {st : St} {w : World} (hw : WRel C env st w) {t : Nat} {x v : AV} (h : lopAt C.T st.heap t x = some v) (ao : AO) : lopAt C.T ((st.nb, ao) :: st.heap) t x = some v := by
  unfold lopAt at h ⊢
  split at h
  · rename_i ti id off hti
    split at h
    · rename_i cs e hl
      have hlt := lookB_lt hw hl
      have hne : st.nb.beq id = false := by
        cases hb : st.nb.beq id with
        | true => have := Nat.eq_of_beq_eq_true hb; omega
        | false => rfl
      have : lookB ((st.nb, ao) :: st.heap) id = some (.cells cs e) := by simp only [lookB, hne]; exact hl
      simp only [this]
      exact h
    · rename_i cs e sz id' hl
      have hlt := lookB_lt hw hl
      have hne : st.nb.beq id = false := by
        cases hb : st.nb.beq id with
        | true => have := Nat.eq_of_beq_eq_true hb; omega
        | false => rfl
      have : lookB ((st.nb, ao) :: st.heap) id = some (.pref cs e sz id') := by simp only [lookB, hne]; exact hl
      simp only [this]
      exact h
    · rename_i hl
      split at h
      · rename_i cs e hr
        obtain ⟨k, o, h1, _⟩ := hT.ro _ _ hr
        have h1' := addr_mono hw.pre h1
        have hlt : id < st.nb := by
          unfold addr at h1'
          split at h1'
          · rename_i hx
            have := (List.getElem?_eq_some_iff.1 hx).1
            rw [hw.len] at this; exact this
          · cases h1'
        have hne : st.nb.beq id = false := by
          cases hb : st.nb.beq id with
          | true => have := Nat.eq_of_beq_eq_true hb; omega
          | false => rfl
        have : lookB ((st.nb, ao) :: st.heap) id = none := by simp only [lookB, hne]; exact hl
        simp only [this]
        exact h
      · cases h
    · cases h
  · rename_i ti b off hti
    exact h
  · rename_i ti b off hti
    exact h
  · cases h

theorem RunOk.mono {env env' : Env} (hp : env <+: env') {st st' : St} {lds lds' : List LD} {i : Nat} {o : Oper} {v : AV} {Ai : Act} (h : RunOk C env st lds i o v Ai) (hl : ∀ t x, (⟨i, t, x, v⟩ : LD) ∈ lds → lopAt C.T st.heap t x = some v → lopAt C.T st'.heap t x = some v ∧ (⟨i, t, x, v⟩ : LD) ∈ lds') : RunOk C env' st' lds' i o v Ai := by
  rcases h with h | ⟨t, xo, x, h1, h2, h3, h4⟩
  · exact .inl fun w => let ⟨V, hV, hr⟩ := h w; ⟨V, AV.den_mono hp _ hV, hr⟩
  · obtain ⟨g1, g2⟩ := hl t x h4 h3
    exact .inr ⟨t, xo, x, h1, AV.den_mono hp _ h2, g1, g2⟩

/-- What a quiet or a late operation waits for has been done by the executor too. -/
theorem Lag.depsD (chk : Checked ops) {env : Env} {D : Nat} {lds : List LD} {tm : Tm} {st : St} {listed : Array Bool} {A : Act} {w : World} (h : Lag C ops env0 st0 wb A0 env D lds tm st listed A w) {i : Nat} {o : Oper} (hi : ops[i]? = some o) (hnl : isLoud o.op = false)
    (hL : ∀ e ∈ o.after.toList, Region.binds .any e = true → Lst listed e.on) : ∀ e ∈ o.after.toList, Region.binds .any e = true → Dn D e.on := by
  intro e he hb
  have hlt := chk.low i o hi e he hb
  have hisz := (Array.getElem?_eq_some_iff.1 hi).1
  have hp : ops[e.on]? = some ops[e.on] := Array.getElem?_eq_getElem (by omega)
  have hLe := hL e he hb
  rcases chk.noLate i o hi hnl e he hb _ hp with hla | ⟨c, q, hc, hlc, hb1, hb2⟩
  · by_cases hq : isQuiet ops[e.on].op = true
    · exact h.quiet _ _ hp hq hLe
    · refine (h.loud _ _ hp ?_).2 hLe
      simp only [isLoud, hla, Bool.not_false, Bool.and_true]
      simpa using hq
  · have hDc := (h.loud c q hc hlc).2 (before_ok h.shutL hi hL hb1)
    exact before_ok h.shutD hc (h.shutD c q hc hDc) hb2

/-- A block that the machine has made is taken in by the executor. -/
theorem Lag.flushStep (hT : TabOk C) (chk : Checked ops) {env : Env} {D : Nat} {lds : List LD} {tm : Tm} {st : St} {listed : Array Bool} {A : Act} {w : World} (h : Lag C ops env0 st0 wb A0 env D lds tm st listed A w) {i : Nat} {o : Oper} (hi : ops[i]? = some o) (hq : isLate o.op = true) (hnD : ¬ Dn D i)
    (hL : Lst listed i) (hready : ∀ e ∈ o.after.toList, Region.binds .any e = true → Dn D e.on) {ao : AO} {nv : NewV} (ha : aop C.T tm o.op = some (ao, nv)) :
    ∃ k, Lag C ops env0 st0 wb A0 (env ++ [[.a k]]) (D ||| (1 <<< i)) lds (putT tm o.dst (nv.av st.nb)) { st with nb := st.nb + 1, heap := (st.nb, ao) :: st.heap } listed A w := by
  obtain ⟨hnl, hnq, _, _⟩ := late_facts hq
  obtain ⟨kf, hp1, hp2⟩ := h.pend
  obtain ⟨ao', nv', ob, g1, g2, g3, g4, g5, g6, g7⟩ := hp1 i o hi hq hL hnD
  rw [ha] at g1; cases g1
  refine ⟨kf i, ?_⟩
  have hpre : env <+: env ++ [[.a (kf i)]] := List.prefix_append _ _
  have hdn : ∀ j, Dn (D ||| (1 <<< i)) j ↔ (Dn D j ∨ i = j) := fun j => testBit_or_bit D i j
  have hak : addr (env ++ [[.a (kf i)]]) st.nb = some (kf i) := by unfold addr; rw [← h.wrel.len]; simp
  have hsame : ∀ q ∈ st.heap, addr (env ++ [[.a (kf i)]]) q.1 = addr env q.1 := fun q hq => by
    obtain ⟨k, hk⟩ := h.wrel.addr_some hq
    rw [addr_mono hpre hk, hk]
  have hVden : (nv.av st.nb).den (env ++ [[.a (kf i)]]) = some (nv.val (kf i)) := by cases nv <;> simp only [NewV.av, NewV.val, AV.den, hak]
  obtain ⟨vs, hvs⟩ := h.tden
  have hw' : WRel C (env ++ [[.a (kf i)]]) { st with nb := st.nb + 1, heap := (st.nb, ao) :: st.heap } w :=
    (h.wrel.ext [.a (kf i)]).alloc h.wrel.len (fun p hp => by rw [hsame p hp]; exact g6 p hp) g4 h.wrel.below g3 (fun _ _ _ => rfl) (g7 _ hpre)
  refine ⟨hw', ?_, h.defs, putT_dens (AV.dens_mono hpre _ hvs) hVden _, by rw [putT_length]; exact h.tlen, h.asz, h.lsz, ?_, ?_, ?_, h.shutL, ?_, h.t2, ?_, ?_, ?_, ?_⟩
  · refine ⟨h.keep.pre.trans hpre, h.keep.size, h.keep.block, fun q hq' => ?_⟩
    rcases List.mem_cons.1 hq' with rfl | hq'
    · exact fun k hk => .inr (by rw [hak] at hk; cases hk; exact g5)
    · exact fun k hk => h.keep.keys q hq' k (by rw [← hsame q hq']; exact hk)
  · intro j p hj hp
    rw [hdn]
    refine ⟨fun hd => ?_, fun hL' => .inl ((h.loud j p hj hp).2 hL')⟩
    rcases hd with hd | rfl
    · exact (h.loud j p hj hp).1 hd
    · exact hL
  · intro j p hj hp hL'
    exact (hdn j).2 (.inl (h.quiet j p hj hp hL'))
  · intro j p hj hp hd
    rcases (hdn j).1 hd with hd | rfl
    · exact h.late j p hj hp hd
    · exact hL
  · intro j p hj hd e he hb
    rcases (hdn j).1 hd with hd | rfl
    · exact (hdn _).2 (.inl (h.shutD j p hj hd e he hb))
    · rw [hi] at hj; cases hj; exact (hdn _).2 (.inl (hready e he hb))
  · intro t hno a hta
    rcases putT_get hta with ⟨hd, rfl⟩ | ⟨hd, hta⟩
    · exact absurd ((hdn i).2 (.inr rfl)) (hno i o hi hd)
    · obtain ⟨V, hV, hden⟩ := h.t3 t (fun d p hp hdst hDd => hno d p hp hdst ((hdn d).2 (.inl hDd))) a hta
      exact ⟨V, hV, AV.den_mono hpre _ hden⟩
  · intro d p t hp hdst hLd hDd a hta
    have hlt : t < tm.n := by have := Tm.lt_of_get? hta; rwa [putT_length] at this
    rcases putT_get hta with ⟨hd, rfl⟩ | ⟨hd, hta⟩
    · exact ⟨_, g2 t hd hlt, hVden⟩
    · have hdi : d ≠ i := fun e => by subst e; rw [hi] at hp; cases hp; exact hd hdst
      have hDd' : Dn D d := ((hdn d).1 hDd).resolve_right (fun e => hdi e.symm)
      obtain ⟨V, hV, hden⟩ := h.t4 d p t hp hdst hLd hDd' a hta
      exact ⟨V, hV, AV.den_mono hpre _ hden⟩
  · intro j p hj hp hDj hnLj
    have hji : j ≠ i := fun e => by subst e; exact hnLj hL
    have hDj' : Dn D j := ((hdn j).1 hDj).resolve_right (fun e => hji e.symm)
    obtain ⟨Aj, hsz, hv, hr⟩ := h.rep j p hj hp hDj' hnLj
    refine ⟨Aj, hsz, fun t ht => ?_, ?_⟩
    · obtain ⟨f1, f2⟩ := hv t ht
      refine ⟨fun d q hq' hdst hb a hta => ?_, f2⟩
      rcases putT_get hta with ⟨hd, rfl⟩ | ⟨hd, hta⟩
      · have hdi : d = i := by
          by_cases hdi : d = i
          · exact hdi
          · exact (chk.dstNe d q i o t hq' hi hdi hdst hd).elim
        subst hdi
        exact absurd (before_ok h.shutD hj (h.shutD j p hj hDj') hb) hnD
      · obtain ⟨V, hV, hden⟩ := f1 d q hq' hdst hb a hta
        exact ⟨V, hV, AV.den_mono hpre _ hden⟩
    · have hkeepd : ∀ t, p.dst = some t → ∀ a, (putT tm o.dst (nv.av st.nb)).get? t = some a → (tm.get? t) = some a := fun t hd a hta => by
        rcases putT_get hta with ⟨hd', _⟩ | ⟨_, hta⟩
        · exact (chk.dstNe j p i o t hj hi hji hd hd').elim
        · exact hta
      rcases hr with ⟨hwf, hu⟩ | ⟨hwt, u, hu, hrun⟩
      · exact .inl ⟨hwf, fun t hd a hta => hu t hd a (hkeepd t hd a hta)⟩
      · exact .inr ⟨hwt, u, fun t hd a hta => hu t hd a (hkeepd t hd a hta), hrun.mono hpre fun t x hm hlo => ⟨lopAt_cons hT h.wrel hlo ao, hm⟩⟩
  · have hback : ∀ l, ¬ Dn (D ||| (1 <<< i)) l → ¬ Dn D l := fun l hn hd => hn ((hdn l).2 (.inl hd))
    refine ⟨kf, fun l p hl' hlate hLl hn => ?_, fun l l' p p' hl' hl'' h1 h2 h3 h4 h5 h6 hne => hp2 l l' p p' hl' hl'' h1 h2 h3 h4 (hback l h5) (hback l' h6) hne⟩
    have hli : l ≠ i := fun e => by subst e; exact hn ((hdn l).2 (.inr rfl))
    obtain ⟨ao2, nv2, ob2, f1, f2, f3, f4, f5, f6, f7⟩ := hp1 l p hl' hlate hLl (hback l hn)
    refine ⟨ao2, nv2, ob2, ?_, fun t hd hlt => f2 t hd (by rwa [putT_length] at hlt), f3, f4, f5, fun q hq' => ?_, fun env' hp' => f7 env' (hpre.trans hp')⟩
    · rw [← f1]
      refine aop_same (ops := ops) fun t ht => ?_
      cases hd : o.dst with
      | none => rfl
      | some d =>
        simp only [putT]
        by_cases hdt : d = t
        · subst hdt
          rcases chk.order l p i o d hl' hi hli hd ht with hb | hb
          · exact absurd (before_ok h.shutD hl' (h.depsD chk hl' (late_facts hlate).1 (h.shutL l p hl' hLl)) hb) hnD
          · exact absurd (before_ok h.shutD hi hready hb) (hback l hn)
        · rw [Tm.get?_set_ne _ _ hdt]
    · rcases List.mem_cons.1 hq' with rfl | hq'
      · rw [hak]; intro e
        injection e with e
        exact hp2 l i p o hl' hi hlate hq hLl hL (hback l hn) hnD hli (by first | exact e | exact e.symm)
      · rw [hsame q hq']; exact f6 q hq'

theorem flush_ok (hT : TabOk C) (chk : Checked ops) {Q : Env → Out → Prop} {mask : Nat} {k : Nat → Tm → St → Tr Out} {lds : List LD} {listed : Array Bool} {A : Act} {w : World} : ∀ (l : List Nat) {env : Env} {D : Nat} {tm : Tm} {st : St},
    (flushLate C.T ops mask k l D tm st).sat C.S env Q → Lag C ops env0 st0 wb A0 env D lds tm st listed A w → (∀ (i : Nat) (o : Oper), ops[i]? = some o → isLate o.op = true → mask.testBit i = true → Lst listed i) →
    ∃ env' D' tm' st', (k D' tm' st').sat C.S env' Q ∧ Lag C ops env0 st0 wb A0 env' D' lds tm' st' listed A w ∧ (∀ j, Dn D' j → Dn D j ∨ ∃ p, ops[j]? = some p ∧ isLate p.op = true) ∧ (∀ j, Dn D j → Dn D' j)
  | [], env, D, tm, st, h, hlag, _ => ⟨env, D, tm, st, h, hlag, fun j hj => .inl hj, fun j hj => hj⟩
  | i :: l, env, D, tm, st, h, hlag, hm => by
    unfold flushLate at h
    split at h
    · exact flush_ok hT chk l h hlag hm
    · rename_i o hi
      split at h
      · exact flush_ok hT chk l h hlag hm
      · rename_i hc
        simp only [Bool.and_eq_true, Bool.not_eq_true'] at hc
        obtain ⟨hnD, hlate, hmask⟩ := hc
        split at h
        · rename_i ao nv hr hg ha
          have hnD' : ¬ Dn D i := fun e => by rw [e] at hnD; cases hnD
          obtain ⟨k', hlag'⟩ := hlag.flushStep hT chk hi hlate hnD' (hm i o hi hlate hmask) (readyB_iff.1 hr) ha
          obtain ⟨env', D', tm', st', h1, h2, h3, h4⟩ := flush_ok hT chk l (h k') hlag' hm
          refine ⟨env', D', tm', st', h1, h2, fun j hj => ?_, fun j hj => h4 j ((testBit_or_bit D i j).2 (.inl hj))⟩
          rcases h3 j hj with hj | hj
          · rcases (testBit_or_bit D i j).1 hj with hj | rfl
            · exact .inl hj
            · exact .inr ⟨o, hi, hlate⟩
          · exact .inr hj
        · exact h.elim

end
end Go.Ex

namespace Go.Ex
open Go Go.RowKit

section
variable {C : Ctx} {ops : Array Oper} {env0 : Env} {st0 : St} {wb : World} {A0 : Act}

theorem RunOk.run {C : Ctx} (hT : TabOk C) {env : Env} {st : St} {w : World} (hw : WRel C env st w) {lds : List LD} {i : Nat} {o : Oper} {v : AV} {Ai : Act} (h : RunOk C env st lds i o v Ai) : PopOk C env Ai o v w := by
  rcases h with h | ⟨t, xo, x, h1, h2, h3, _⟩
  · exact h w
  · obtain ⟨V, hV, hrun⟩ := lopAt_ok hT hw h2 h3
    exact ⟨V, hV, by simp [execOp, h1, hrun]⟩

theorem lst_set {listed : Array Bool} {i : Nat} (hi : i < listed.size) (j : Nat) : Lst (listed.setIfInBounds i true) j ↔ (Lst listed j ∨ i = j) := by
  unfold Lst
  simp only [Array.getD_eq_getD_getElem?, Array.getElem?_setIfInBounds]
  by_cases h : i = j
  · subst h; simp [hi]
  · simp [h]

/-- The machine does what the executor has done already. -/
theorem Lag.listStep (chk : Checked ops) {env : Env} {D : Nat} {lds : List LD} {tm : Tm} {st : St} {listed : Array Bool} {A : Act} {w : World} (h : Lag C ops env0 st0 wb A0 env D lds tm st listed A w) {i : Nat} {o : Oper} (hi : ops[i]? = some o) (hq : isQuiet o.op = true) (hD : Dn D i)
    (hL : ∀ e ∈ o.after.toList, Region.binds .any e = true → Lst listed e.on) {V : Value} (hV : ∀ t, o.dst = some t → ∀ a, (tm.get? t) = some a → a.den env = some V) :
    Lag C ops env0 st0 wb A0 env D lds tm st (listed.setIfInBounds i true) (A.put o.dst V) w := by
  obtain ⟨hnl, hnla, _, _⟩ := quiet_facts hq
  have hilt : i < listed.size := by rw [h.lsz]; exact (Array.getElem?_eq_some_iff.1 hi).1
  have hls : ∀ j, Lst (listed.setIfInBounds i true) j ↔ (Lst listed j ∨ i = j) := lst_set hilt
  refine ⟨h.wrel, h.keep, (put_defers _ _ _).trans h.defs, h.tden, h.tlen, put_size.trans h.asz, by simp [h.lsz], ?_, ?_, ?_, ?_, h.shutD, ?_, h.t3, ?_, ?_, ?_⟩
  · intro j p hj hp
    rw [hls, h.loud j p hj hp]
    refine ⟨.inl, fun hx => hx.resolve_right fun e => ?_⟩
    subst e; rw [hi] at hj; cases hj; rw [hnl] at hp; cases hp
  · intro j p hj hp hx
    rcases (hls j).1 hx with hx | rfl
    · exact h.quiet j p hj hp hx
    · exact hD
  · intro j p hj hp hd
    exact (hls j).2 (.inl (h.late j p hj hp hd))
  · intro j p hj hx e he hb
    rcases (hls j).1 hx with hx | rfl
    · exact (hls _).2 (.inl (h.shutL j p hj hx e he hb))
    · rw [hi] at hj; cases hj; exact (hls _).2 (.inl (hL e he hb))
  · intro t hno
    have hd : o.dst ≠ some t := fun e => hno i o hi e ((hls i).2 (.inr rfl))
    rw [put_get hd]
    exact h.t2 t fun d p hp hdst hx => hno d p hp hdst ((hls d).2 (.inl hx))
  · intro d p t hp hdst hx hDd a ha
    by_cases hdi : d = i
    · subst hdi
      rw [hi] at hp; cases hp
      have hlt : t < A.tmps.size := by rw [h.asz, ← h.tlen]; exact Tm.lt_of_get? ha
      exact ⟨V, by rw [hdst, put_get_same hlt], hV t hdst a ha⟩
    · have hLd : Lst listed d := ((hls d).1 hx).resolve_right (fun e => hdi e.symm)
      have hne : o.dst ≠ some t := fun e => chk.dstNe d p i o t hp hi hdi hdst e
      rw [put_get hne]
      exact h.t4 d p t hp hdst hLd hDd a ha
  · intro j p hj hp hDj hnx
    exact h.rep j p hj hp hDj fun hx => hnx ((hls j).2 (.inl hx))
  · obtain ⟨kf, hp1, hp2⟩ := h.pend
    have hli : ∀ (l : Nat) (p : Oper), ops[l]? = some p → isLate p.op = true → Lst (listed.setIfInBounds i true) l → Lst listed l ∧ l ≠ i := fun l p hl hlate hx => by
      have : l ≠ i := fun e => by subst e; rw [hi] at hl; cases hl; rw [hnla] at hlate; cases hlate
      exact ⟨((hls l).1 hx).resolve_right (fun e => this e.symm), this⟩
    refine ⟨kf, fun l p hl hlate hx hn => ?_, fun l l' p p' hl' hl'' h1 h2 h3 h4 h5 h6 hne => hp2 l l' p p' hl' hl'' h1 h2 (hli l p hl' h1 h3).1 (hli l' p' hl'' h2 h4).1 h5 h6 hne⟩
    obtain ⟨hLl, hne⟩ := hli l p hl hlate hx
    obtain ⟨ao, nv, ob, g1, g2, g3, g4, g5, g6, g7⟩ := hp1 l p hl hlate hLl hn
    refine ⟨ao, nv, ob, g1, fun t hd hlt => ?_, g3, g4, g5, g6, g7⟩
    rw [put_get fun e => chk.dstNe l p i o t hl hi hne hd e]
    exact g2 t hd hlt

/-- The machine makes a block. -/
theorem Lag.makeStep (chk : Checked ops) {env : Env} {D : Nat} {lds : List LD} {tm : Tm} {st : St} {listed : Array Bool} {A : Act} {w : World} (h : Lag C ops env0 st0 wb A0 env D lds tm st listed A w) {i : Nat} {o : Oper} (hi : ops[i]? = some o) (hq : isLate o.op = true) (hnD : ¬ Dn D i) (hnL : ¬ Lst listed i)
    (hL : ∀ e ∈ o.after.toList, Region.binds .any e = true → Lst listed e.on) {ao : AO} {nv : NewV} (ha : aop C.T tm o.op = some (ao, nv)) {ob : Obj} (hob : ∀ env', env <+: env' → ORel env' ao ob) :
    Lag C ops env0 st0 wb A0 env D lds tm st (listed.setIfInBounds i true) (A.put o.dst (nv.val w.heap.size)) (w.alloc ob) := by
  obtain ⟨hnl, hnq, _, _⟩ := late_facts hq
  have hilt : i < listed.size := by rw [h.lsz]; exact (Array.getElem?_eq_some_iff.1 hi).1
  have hls : ∀ j, Lst (listed.setIfInBounds i true) j ↔ (Lst listed j ∨ i = j) := lst_set hilt
  have hheap : ∀ k, k < w.heap.size → (w.alloc ob).heap[k]? = w.heap[k]? := fun k hk => Below.heap_alloc _ _ _ hk
  have hknown : ∀ q ∈ st.heap, ∀ k, addr env q.1 = some k → k < w.heap.size := fun q hq' k hk => by
    obtain ⟨k', o', h1, _, h3, _⟩ := h.wrel.heap q hq'
    rw [hk] at h1; cases h1
    exact (Array.getElem?_eq_some_iff.1 h3).1
  refine ⟨?_, ?_, (put_defers _ _ _).trans h.defs, h.tden, h.tlen, put_size.trans h.asz, by simp [h.lsz], ?_, ?_, ?_, ?_, h.shutD, ?_, h.t3, ?_, ?_, ?_⟩
  · exact h.wrel.world (h.wrel.below.alloc h.wrel.below.size ob) fun k ⟨q, hq', hk⟩ => hheap k (hknown q hq' k hk)
  · have hsz := h.keep.size
    exact ⟨h.keep.pre, Nat.le_trans hsz (by simp), fun k hk hn => (hheap k (by omega)).trans (h.keep.block k hk hn), h.keep.keys⟩
  · intro j p hj hp
    rw [hls, h.loud j p hj hp]
    refine ⟨.inl, fun hx => hx.resolve_right fun e => ?_⟩
    subst e; rw [hi] at hj; cases hj; rw [hnl] at hp; cases hp
  · intro j p hj hp hx
    rcases (hls j).1 hx with hx | rfl
    · exact h.quiet j p hj hp hx
    · rw [hi] at hj; cases hj; rw [hnq] at hp; cases hp
  · intro j p hj hp hd
    exact (hls j).2 (.inl (h.late j p hj hp hd))
  · intro j p hj hx e he hb
    rcases (hls j).1 hx with hx | rfl
    · exact (hls _).2 (.inl (h.shutL j p hj hx e he hb))
    · rw [hi] at hj; cases hj; exact (hls _).2 (.inl (hL e he hb))
  · intro t hno
    have hd : o.dst ≠ some t := fun e => hno i o hi e ((hls i).2 (.inr rfl))
    rw [put_get hd]
    exact h.t2 t fun d p hp hdst hx => hno d p hp hdst ((hls d).2 (.inl hx))
  · intro d p t hp hdst hx hDd a ha'
    have hdi : d ≠ i := fun e => by subst e; exact hnD hDd
    have hLd : Lst listed d := ((hls d).1 hx).resolve_right (fun e => hdi e.symm)
    have hne : o.dst ≠ some t := fun e => chk.dstNe d p i o t hp hi hdi hdst e
    rw [put_get hne]
    exact h.t4 d p t hp hdst hLd hDd a ha'
  · intro j p hj hp hDj hnx
    exact h.rep j p hj hp hDj fun hx => hnx ((hls j).2 (.inl hx))
  · obtain ⟨kf, hp1, hp2⟩ := h.pend
    have hold : ∀ (l : Nat) (p : Oper), ops[l]? = some p → isLate p.op = true → Lst listed l → ¬ Dn D l → kf l < w.heap.size := fun l p hl hlate hLl hn => by
      obtain ⟨ao, nv, ob, g1, g2, g3, g4, g5, g6, g7⟩ := hp1 l p hl hlate hLl hn
      exact (Array.getElem?_eq_some_iff.1 g3).1
    refine ⟨fun j => if j = i then w.heap.size else kf j, fun l p hl hlate hx hn => ?_, fun l l' p p' hl' hl'' h1 h2 h3 h4 h5 h6 hne => ?_⟩
    · by_cases hli : l = i
      · subst hli
        rw [hi] at hl; cases hl
        simp only [if_true]
        refine ⟨ao, nv, ob, ha, fun t hd hlt => ?_, ?_, h.wrel.below.size, h.keep.size, fun q hq' e => ?_, hob⟩
        · rw [hd, put_get_same (by rw [h.asz, ← h.tlen]; exact hlt)]
        · show (w.heap.push ob)[w.heap.size]? = some ob
          simp
        · have := hknown q hq' _ e
          omega
      · simp only [if_neg hli]
        have hLl : Lst listed l := ((hls l).1 hx).resolve_right (fun e => hli e.symm)
        have hk := hold l p hl hlate hLl hn
        obtain ⟨ao, nv, ob, g1, g2, g3, g4, g5, g6, g7⟩ := hp1 l p hl hlate hLl hn
        refine ⟨ao, nv, ob, g1, fun t hd hlt => ?_, (hheap _ hk).trans g3, g4, g5, g6, g7⟩
        rw [put_get fun e => chk.dstNe l p i o t hl hi hli hd e]
        exact g2 t hd hlt
    · by_cases hli : l = i <;> by_cases hli' : l' = i
      · exact absurd (hli.trans hli'.symm) hne
      · have := hold l' p' hl'' h2 (((hls l').1 h4).resolve_right (fun e => hli' e.symm)) h6
        simp only [if_pos hli, if_neg hli']; omega
      · have := hold l p hl' h1 (((hls l).1 h3).resolve_right (fun e => hli e.symm)) h5
        simp only [if_neg hli, if_pos hli']; omega
      · simp only [if_neg hli, if_neg hli']
        exact hp2 l l' p p' hl' hl'' h1 h2 (((hls l).1 h3).resolve_right (fun e => hli e.symm)) (((hls l').1 h4).resolve_right (fun e => hli' e.symm)) h5 h6 hne

theorem ldsOk_ok {T : Tab} {b : Nat} {heap : List (Nat × AO)} : ∀ {l : List LD}, ldsOk T b heap l = true → ∀ d ∈ l, b.testBit d.i = true ∨ lopAt T heap d.t d.x = some d.v
  | [], _, d, hd => by cases hd
  | x :: l, h, d, hd => by
    simp only [ldsOk, Bool.and_eq_true, Bool.or_eq_true] at h
    rcases List.mem_cons.1 hd with rfl | hd
    · rcases h.1 with h1 | h1
      · exact .inl h1
      · split at h1
        · rename_i v hv
          rw [hv, AV.eqb_eq _ _ h1]; exact .inr rfl
        · cases h1
    · exact ldsOk_ok h.2 d hd

/-- Both do the same operation. -/
theorem Lag.loudStep (chk : Checked ops) (h0 : WRel C env0 st0 wb) {env env' : Env} {D : Nat} {lds : List LD} {tm : Tm} {st st' : St} {listed : Array Bool} {A : Act} {w w' : World} (h : Lag C ops env0 st0 wb A0 env D lds tm st listed A w) {c : Nat} {o : Oper} (hc : ops[c]? = some o) (hq : isLoud o.op = true) (hnD : ¬ Dn D c)
    (hD : ∀ e ∈ o.after.toList, Region.binds .any e = true → Dn D e.on) (hL : ∀ e ∈ o.after.toList, Region.binds .any e = true → Lst listed e.on) (hw' : WRel C env' st' w') (hkeep : Keep env st w env' st' w') {v : AV} {V : Value} (hV : v.den env' = some V)
    (hlds : ∀ d ∈ lds, lopAt C.T st.heap d.t d.x = some d.v → Bt ops c d.i ∨ lopAt C.T st'.heap d.t d.x = some d.v) :
    Lag C ops env0 st0 wb A0 env' (D ||| (1 <<< c)) lds (putT tm o.dst v) st' (listed.setIfInBounds c true) (A.put o.dst V) w' := by
  have hnL : ¬ Lst listed c := fun e => hnD ((h.loud c o hc hq).2 e)
  have hclt : c < listed.size := by rw [h.lsz]; exact (Array.getElem?_eq_some_iff.1 hc).1
  have hls : ∀ j, Lst (listed.setIfInBounds c true) j ↔ (Lst listed j ∨ c = j) := lst_set hclt
  have hdn : ∀ j, Dn (D ||| (1 <<< c)) j ↔ (Dn D j ∨ c = j) := fun j => testBit_or_bit D c j
  have hpre := hkeep.pre
  have hnq : isQuiet o.op = false := by simp only [isLoud, Bool.and_eq_true, Bool.not_eq_true'] at hq; exact hq.1
  have hnla : isLate o.op = false := by simp only [isLoud, Bool.and_eq_true, Bool.not_eq_true'] at hq; exact hq.2
  obtain ⟨vs, hvs⟩ := h.tden
  refine ⟨hw', Keep.trans h0 h.wrel h.keep hkeep, (put_defers _ _ _).trans h.defs, putT_dens (AV.dens_mono hpre _ hvs) hV _, by rw [putT_length]; exact h.tlen, put_size.trans h.asz, by simp [h.lsz], ?_, ?_, ?_, ?_, ?_, ?_, ?_, ?_, ?_, ?_⟩
  · intro j p hj hp
    rw [hls, hdn, h.loud j p hj hp]
  · intro j p hj hp hx
    rcases (hls j).1 hx with hx | rfl
    · exact (hdn j).2 (.inl (h.quiet j p hj hp hx))
    · exact (hdn _).2 (.inr rfl)
  · intro j p hj hp hd
    rcases (hdn j).1 hd with hd | rfl
    · exact (hls j).2 (.inl (h.late j p hj hp hd))
    · exact (hls _).2 (.inr rfl)
  · intro j p hj hx e he hb
    rcases (hls j).1 hx with hx | rfl
    · exact (hls _).2 (.inl (h.shutL j p hj hx e he hb))
    · rw [hc] at hj; cases hj; exact (hls _).2 (.inl (hL e he hb))
  · intro j p hj hx e he hb
    rcases (hdn j).1 hx with hx | rfl
    · exact (hdn _).2 (.inl (h.shutD j p hj hx e he hb))
    · rw [hc] at hj; cases hj; exact (hdn _).2 (.inl (hD e he hb))
  · intro t hno
    have hd : o.dst ≠ some t := fun e => hno c o hc e ((hls c).2 (.inr rfl))
    rw [put_get hd]
    exact h.t2 t fun d p hp hdst hx => hno d p hp hdst ((hls d).2 (.inl hx))
  · intro t hno a ha
    rcases putT_get ha with ⟨hd, rfl⟩ | ⟨hd, ha⟩
    · exact absurd ((hdn c).2 (.inr rfl)) (hno c o hc hd)
    · obtain ⟨W, hW, hden⟩ := h.t3 t (fun d p hp hdst hDd => hno d p hp hdst ((hdn d).2 (.inl hDd))) a ha
      exact ⟨W, hW, AV.den_mono hpre _ hden⟩
  · intro d p t hp hdst hx hDd a ha
    by_cases hdi : d = c
    · subst hdi
      rw [hc] at hp; cases hp
      rcases putT_get ha with ⟨hd, rfl⟩ | ⟨hd, ha⟩
      · have hlt : t < A.tmps.size := by rw [h.asz, ← h.tlen, ← putT_length (d := o.dst) (v := a)]; exact Tm.lt_of_get? ha
        exact ⟨V, by rw [hd, put_get_same hlt], hV⟩
      · exact absurd hdst hd
    · have hLd : Lst listed d := ((hls d).1 hx).resolve_right (fun e => hdi e.symm)
      have hDd' : Dn D d := ((hdn d).1 hDd).resolve_right (fun e => hdi e.symm)
      have hne : o.dst ≠ some t := fun e => chk.dstNe d p c o t hp hc hdi hdst e
      rcases putT_get ha with ⟨hd, rfl⟩ | ⟨hd, ha⟩
      · exact absurd hd hne
      · obtain ⟨W, hW, hden⟩ := h.t4 d p t hp hdst hLd hDd' a ha
        exact ⟨W, by rw [put_get hne]; exact hW, AV.den_mono hpre _ hden⟩
  · intro j p hj hp hDj hnx
    have hjc : j ≠ c := fun e => hnx ((hls j).2 (.inr e.symm))
    have hDj' : Dn D j := ((hdn j).1 hDj).resolve_right (fun e => hjc e.symm)
    have hnLj : ¬ Lst listed j := fun hx => hnx ((hls j).2 (.inl hx))
    obtain ⟨Aj, hsz, hv, hr⟩ := h.rep j p hj hp hDj' hnLj
    refine ⟨Aj, hsz, fun t ht => ?_, ?_⟩
    · obtain ⟨g1, g2⟩ := hv t ht
      refine ⟨fun d q hq' hdst hb a ha => ?_, g2⟩
      rcases putT_get ha with ⟨hd, rfl⟩ | ⟨hd, ha⟩
      · have hdi : d = c := by
          by_cases hdi : d = c
          · exact hdi
          · exact (chk.dstNe d q c o t hq' hc hdi hdst hd).elim
        subst hdi
        exact absurd (before_ok h.shutD hj (h.shutD j p hj hDj') hb) hnD
      · obtain ⟨W, hW, hden⟩ := g1 d q hq' hdst hb a ha
        exact ⟨W, hW, AV.den_mono hpre _ hden⟩
    · have hkeepd : ∀ t, p.dst = some t → ∀ a, (putT tm o.dst v).get? t = some a → (tm.get? t) = some a := fun t hd a ha => by
        rcases putT_get ha with ⟨hd', _⟩ | ⟨_, ha⟩
        · exact (chk.dstNe j p c o t hj hc hjc hd hd').elim
        · exact ha
      rcases hr with ⟨hwf, hu⟩ | ⟨hwt, u, hu, hrun⟩
      · exact .inl ⟨hwf, fun t hd a ha => hu t hd a (hkeepd t hd a ha)⟩
      · refine .inr ⟨hwt, u, fun t hd a ha => hu t hd a (hkeepd t hd a ha), hrun.mono hpre fun t x hm hlo => ⟨?_, hm⟩⟩
        rcases hlds _ hm hlo with hb | hlo
        · exact absurd (before_ok h.shutL hc hL hb) hnLj
        · exact hlo
  · obtain ⟨kf, hp1, hp2⟩ := h.pend
    have hli : ∀ (l : Nat) (p : Oper), ops[l]? = some p → isLate p.op = true → Lst (listed.setIfInBounds c true) l → Lst listed l ∧ l ≠ c := fun l p hl hlate hx => by
      have : l ≠ c := fun e => by subst e; rw [hc] at hl; cases hl; rw [hnla] at hlate; cases hlate
      exact ⟨((hls l).1 hx).resolve_right (fun e => this e.symm), this⟩
    have hback : ∀ l, ¬ Dn (D ||| (1 <<< c)) l → ¬ Dn D l := fun l hn hd => hn ((hdn l).2 (.inl hd))
    refine ⟨kf, fun l p hl' hlate hx hn => ?_, fun l l' p p' hl' hl'' h1 h2 h3 h4 h5 h6 hne => hp2 l l' p p' hl' hl'' h1 h2 (hli l p hl' h1 h3).1 (hli l' p' hl'' h2 h4).1 (hback l h5) (hback l' h6) hne⟩
    obtain ⟨hLl, hne⟩ := hli l p hl' hlate hx
    obtain ⟨ao, nv, ob, g1, g2, g3, g4, g5, g6, g7⟩ := hp1 l p hl' hlate hLl (hback l hn)
    have hklt := (Array.getElem?_eq_some_iff.1 g3).1
    refine ⟨ao, nv, ob, ?_, fun t hd hlt => ?_, ?_, g4, g5, fun q hq' e => ?_, fun env2 hp' => g7 env2 (hpre.trans hp')⟩
    · rw [← g1]
      refine aop_same (ops := ops) fun t ht => ?_
      cases hd : o.dst with
      | none => rfl
      | some d =>
        simp only [putT]
        by_cases hdt : d = t
        · subst hdt
          rcases chk.order l p c o d hl' hc hne hd ht with hb | hb
          · exact absurd (before_ok h.shutL hl' (h.shutL l p hl' hLl) hb) hnL
          · exact absurd (before_ok h.shutD hc hD hb) (hback l hn)
        · rw [Tm.get?_set_ne _ _ hdt]
    · rw [put_get fun e => chk.dstNe l p c o t hl' hc hne hd e]
      exact g2 t hd (by rwa [putT_length] at hlt)
    · rw [hkeep.block _ hklt g6]; exact g3
    · rcases hkeep.keys q hq' _ e with ⟨q0, hq0, e0⟩ | hnew
      · exact g6 q0 hq0 e0
      · omega

end
end Go.Ex

namespace Go.Ex
open Go Go.RowKit

theorem satB_ok {ops : Array Oper} {D : Nat} : ∀ {l : List Nat}, satB ops D l = true → ∀ i ∈ l, ∀ o, ops[i]? = some o → isQuiet o.op = true → readyB D o.after.toList = true → Dn D i
  | [], _, i, hi, _, _, _, _ => by cases hi
  | x :: l, h, i, hi, o, ho, hq, hr => by
    simp only [satB, Bool.and_eq_true] at h
    rcases List.mem_cons.1 hi with rfl | hi
    · have h1 := h.1
      simp only [ho, hq, hr, Bool.and_self, Bool.not_true, Bool.or_false] at h1
      exact h1
    · exact satB_ok h.2 i hi o ho hq hr

theorem lateB_ok {T : Tab} {ops : Array Oper} {tm : Tm} {D : Nat} : ∀ {l : List Nat}, lateB T ops tm D l = true → ∀ i ∈ l, ∀ o, ops[i]? = some o → isLate o.op = true → readyB D o.after.toList = true → ¬ Dn D i → ∃ ao nv, aop T tm o.op = some (ao, nv)
  | [], _, i, hi, _, _, _, _, _ => by cases hi
  | x :: l, h, i, hi, o, ho, hq, hr, hn => by
    simp only [lateB, Bool.and_eq_true] at h
    rcases List.mem_cons.1 hi with rfl | hi
    · have h1 := h.1
      have hn' : D.testBit i = false := by simpa using hn
      simp only [ho, hq, hr, hn', Bool.and_self, Bool.not_true, Bool.false_or] at h1
      obtain ⟨⟨ao, nv⟩, e⟩ := Option.isSome_iff_exists.1 h1
      exact ⟨ao, nv, e⟩
    · exact lateB_ok h.2 i hi o ho hq hr hn

theorem nextLoud_some {ops : Array Oper} {D : Nat} {c : Nat} : ∀ {l : List Nat}, l.Pairwise (· < ·) → nextLoud ops D l = some c → (∃ o, ops[c]? = some o ∧ isLoud o.op = true ∧ ¬ Dn D c) ∧ c ∈ l ∧ ∀ j ∈ l, j < c → ∀ p, ops[j]? = some p → isLoud p.op = true → Dn D j
  | [], _, h => by cases h
  | x :: l, hp, h => by
    obtain ⟨hx, hp'⟩ := List.pairwise_cons.1 hp
    simp only [nextLoud] at h
    split at h
    · rename_i hn
      obtain ⟨h1, h2, h3⟩ := nextLoud_some hp' h
      refine ⟨h1, List.mem_cons_of_mem _ h2, fun j hj hlt p hj' hl => ?_⟩
      rcases List.mem_cons.1 hj with rfl | hj
      · rw [hn] at hj'; cases hj'
      · exact h3 j hj hlt p hj' hl
    · rename_i o ho
      split at h
      · rename_i hc
        cases h
        simp only [Bool.and_eq_true, Bool.not_eq_true'] at hc
        refine ⟨⟨o, ho, hc.2, fun e => absurd (hc.1.symm.trans e) (by decide)⟩, List.mem_cons_self .., fun j hj hlt => ?_⟩
        rcases List.mem_cons.1 hj with rfl | hj
        · omega
        · have := hx j hj; omega
      · rename_i hc
        obtain ⟨h1, h2, h3⟩ := nextLoud_some hp' h
        refine ⟨h1, List.mem_cons_of_mem _ h2, fun j hj hlt p hj' hl => ?_⟩
        rcases List.mem_cons.1 hj with rfl | hj
        · rw [ho] at hj'; cases hj'
          simp only [hl, Bool.and_true, Bool.not_eq_true', Bool.not_eq_false] at hc
          exact hc
        · exact h3 j hj hlt p hj' hl

theorem nextLoud_none {ops : Array Oper} {D : Nat} : ∀ {l : List Nat}, nextLoud ops D l = none → ∀ j ∈ l, ∀ p, ops[j]? = some p → isLoud p.op = true → Dn D j
  | [], _, j, hj, _, _, _ => by cases hj
  | x :: l, h, j, hj, p, hp, hl => by
    simp only [nextLoud] at h
    split at h
    · rename_i hn
      rcases List.mem_cons.1 hj with rfl | hj
      · rw [hn] at hp; cases hp
      · exact nextLoud_none h j hj p hp hl
    · rename_i o ho
      split at h
      · cases h
      · rename_i hc
        rcases List.mem_cons.1 hj with rfl | hj
        · rw [ho] at hp; cases hp
          simp only [hl, Bool.and_true, Bool.not_eq_true', Bool.not_eq_false] at hc
          exact hc
        · exact nextLoud_none h j hj p hp hl

theorem allDone_ok {D : Nat} : ∀ {l : List Nat}, allDone D l = true → ∀ i ∈ l, Dn D i
  | [], _, i, hi => by cases hi
  | x :: l, h, i, hi => by
    simp only [allDone, Bool.and_eq_true] at h
    rcases List.mem_cons.1 hi with rfl | hi
    · exact h.1
    · exact allDone_ok h.2 i hi

theorem countP_drop {p q : Nat → Bool} {i : Nat} (hp : p i = true) (hq : q i = false) (h : ∀ j, q j = true → p j = true) : ∀ {l : List Nat}, i ∈ l → l.countP q + 1 ≤ l.countP p
  | [], hi => by cases hi
  | a :: l, hi => by
    by_cases ha : a = i
    · subst ha
      rw [List.countP_cons_of_pos hp, List.countP_cons_of_neg (by simp [hq])]
      have := List.countP_mono_left (l := l) (p := q) (q := p) (fun x _ => h x)
      omega
    · have hi' : i ∈ l := (List.mem_cons.1 hi).resolve_left (fun e => ha e.symm)
      have ih := countP_drop hp hq h hi'
      by_cases hqa : q a = true
      · rw [List.countP_cons_of_pos hqa, List.countP_cons_of_pos (h a hqa)]; omega
      · rw [List.countP_cons_of_neg hqa]
        by_cases hpa : p a = true
        · rw [List.countP_cons_of_pos hpa]; omega
        · rw [List.countP_cons_of_neg hpa]; omega

def cnt (ops : Array Oper) (listed : Array Bool) : Nat := (List.range ops.size).countP fun i => !listed.getD i false

theorem cnt_set {ops : Array Oper} {listed : Array Bool} {i : Nat} (hsz : listed.size = ops.size) (hi : i < ops.size) (hn : ¬ Lst listed i) : cnt ops (listed.setIfInBounds i true) + 1 ≤ cnt ops listed := by
  have hls := lst_set (listed := listed) (i := i) (by omega)
  refine countP_drop (i := i) ?_ ?_ ?_ (List.mem_range.2 hi)
  · have hn : ¬ listed.getD i false = true := hn
    cases hb : listed.getD i false with
    | false => rfl
    | true => exact absurd hb hn
  · have := (hls i).2 (.inr rfl)
    simpa using this
  · intro j hj
    simp only [Bool.not_eq_true'] at hj ⊢
    cases hb : listed.getD j false with
    | false => rfl
    | true =>
      have : (listed.setIfInBounds i true).getD j false = true := (hls j).2 (.inl hb)
      rw [hj] at this; cases this

theorem mem_ready {ops : Array Oper} {listed : Array Bool} (hsz : listed.size = ops.size) {i : Nat} : i ∈ Region.ready .any ops listed ↔ ∃ o, ops[i]? = some o ∧ ¬ Lst listed i ∧ ∀ e ∈ o.after.toList, Region.binds .any e = true → Lst listed e.on := by
  unfold Region.ready
  simp only [List.mem_filter, List.mem_range, Bool.and_eq_true, Bool.not_eq_true']
  constructor
  · rintro ⟨hlt, h1, h2⟩
    refine ⟨ops[i], Array.getElem?_eq_getElem hlt, fun hL => ?_, fun e he hb => ?_⟩
    · have e1 : listed.getD i true = listed.getD i false := by simp [Array.getD, show i < listed.size by omega]
      have hL : listed.getD i false = true := hL
      rw [← e1, h1] at hL; cases hL
    · rw [Array.getElem?_eq_getElem hlt] at h2
      simp only [Option.map_some, Option.getD_some, Array.all_eq_true', Bool.or_eq_true, Bool.not_eq_true'] at h2
      rcases h2 e (by simpa using he) with h3 | h3
      · rw [hb] at h3; cases h3
      · exact h3
  · rintro ⟨o, ho, h1, h2⟩
    obtain ⟨hlt, he⟩ := Array.getElem?_eq_some_iff.1 ho
    refine ⟨hlt, ?_, ?_⟩
    · have e1 : listed.getD i true = listed.getD i false := by simp [Array.getD, show i < listed.size by omega]
      rw [e1]
      have h1 : ¬ listed.getD i false = true := h1
      cases hb : listed.getD i false with
      | false => rfl
      | true => exact absurd hb h1
    · rw [ho]
      simp only [Option.map_some, Option.getD_some, Array.all_eq_true', Bool.or_eq_true, Bool.not_eq_true']
      intro e he
      cases hb : Region.binds .any e
      · exact .inl rfl
      · exact .inr (h2 e (by simpa using he) hb)

section
variable {C : Ctx} {ops : Array Oper} {env0 : Env} {st0 : St} {wb : World} {A0 : Act}

theorem all_listed (chk : Checked ops) {listed : Array Bool} (hsz : listed.size = ops.size) (h : Region.ready .any ops listed = []) : ∀ (i : Nat) (o : Oper), ops[i]? = some o → Lst listed i := by
  intro i
  induction i using Nat.strongRecOn with
  | _ i ih =>
    intro o ho
    by_cases hL : Lst listed i
    · exact hL
    · have : i ∈ Region.ready .any ops listed := (mem_ready hsz).2 ⟨o, ho, hL, fun e he hb => by
        have hlt := chk.low i o ho e he hb
        have hisz := (Array.getElem?_eq_some_iff.1 ho).1
        exact ih e.on hlt _ (Array.getElem?_eq_getElem (by omega))⟩
      rw [h] at this; cases this

/-- All listed and all done: the executor's temporaries are the machine's. -/
theorem Lag.final {env : Env} {D : Nat} {lds : List LD} {tm : Tm} {st : St} {listed : Array Bool} {A : Act} {w : World} (h : Lag C ops env0 st0 wb A0 env D lds tm st listed A w) (hL : ∀ (i : Nat) (o : Oper), ops[i]? = some o → Lst listed i) (hD : ∀ (i : Nat) (o : Oper), ops[i]? = some o → Dn D i) : TRel env tm A.tmps := by
  obtain ⟨Ah, ⟨vs, hvs, he⟩, hsz, _, hah⟩ := h.hyb
  refine ⟨vs, hvs, ?_⟩
  rw [← he]
  apply Array.ext_getElem?
  intro t
  cases ha : (tm.get? t) with
  | none => rw [getElem?_none_of ha h.tlen h.asz, getElem?_none_of ha h.tlen hsz]
  | some a =>
    obtain ⟨V, hV, hden⟩ := hah t a ha
    rw [hV]
    by_cases hw : ∃ (d : Nat) (p : Oper), ops[d]? = some p ∧ p.dst = some t
    · obtain ⟨d, p, hp, hdst⟩ := hw
      obtain ⟨V', hV', hden'⟩ := h.t4 d p t hp hdst (hL d p hp) (hD d p hp) a ha
      rw [hden] at hden'; cases hden'; exact hV'
    · obtain ⟨V', hV', hden'⟩ := h.t3 t (fun d p hp hdst _ => hw ⟨d, p, hp, hdst⟩) a ha
      rw [hden] at hden'; cases hden'
      rw [h.t2 t (fun d p hp hdst _ => hw ⟨d, p, hp, hdst⟩)]; exact hV'

theorem poison_get : ∀ {l : List Oper} {tm : Tm} {t : Nat} {a : AV}, (poison l tm).get? t = some a → a = poisonA ∨ (tm.get? t = some a ∧ ∀ p ∈ l, p.dst ≠ some t)
  | [], tm, t, a, h => .inr ⟨h, fun p hp => by cases hp⟩
  | o :: l, tm, t, a, h => by
    rcases poison_get (l := l) h with he | ⟨h1, h2⟩
    · exact .inl he
    · rcases putT_get h1 with ⟨_, rfl⟩ | ⟨h3, h4⟩
      · exact .inl rfl
      · refine .inr ⟨h4, fun p hp => ?_⟩
        rcases List.mem_cons.1 hp with rfl | hp
        · exact h3
        · exact h2 p hp

theorem poison_wt {env : Env} {tm : Tm} {tmps0 tmps : Array Value} {l : List Oper} (ht : TRel env tm tmps0) (h : ∀ t, (∀ p ∈ l, p.dst ≠ some t) → tmps[t]? = tmps0[t]?) : WT env (poison l tm) tmps := by
  intro t a hta
  rcases poison_get hta with he | ⟨h1, h2⟩
  · exact .inl he
  · rcases WT.of ht t a h1 with he | ⟨V, hV, hv⟩
    · exact .inl he
    · exact .inr ⟨V, hV, by rw [h t h2]; exact hv⟩

theorem drawLoop_ok (hT : TabOk C) (chk : Checked ops) (h0 : WRel C env0 st0 wb) {rec : Task → Tr Out} (hS : Sound C rec) {Q : Env → Out → Prop} {mk : List DI} (hmk : MRel env0 mk A0.defers) {tmP : Tm} (hP : ∀ (tmps : Array Value), (∀ t, (∀ p ∈ ops.toList, p.dst ≠ some t) → tmps[t]? = A0.tmps[t]?) → WT env0 tmP tmps) {r : Option Nat} {n : Nat} : ∀ (fuel m : Nat) {env : Env} {D : Nat} {lds : List LD} {tm : Tm} {st : St} {listed : Array Bool} {A : Act} {w : World},
    (drawLoop C.T rec ops (befs ops.toList []) (List.range ops.size) (fun v _ st => .ret (.code (.pan v) tmP mk st)) (fun tm st => .ret (.code .normal tm mk st)) m D lds tm st).sat C.S env Q →
    Lag C ops env0 st0 wb A0 env D lds tm st listed A w → cnt ops listed ≤ fuel → wpAnyIn (FW r) n C.P .any ops (PostC C Q env0 st0 wb) fuel listed A w := by
  -- the end
  have hend : ∀ (m : Nat) {env : Env} {D : Nat} {lds : List LD} {tm : Tm} {st : St} {listed : Array Bool} {A : Act} {w : World},
      (drawLoop C.T rec ops (befs ops.toList []) (List.range ops.size) (fun v _ st => .ret (.code (.pan v) tmP mk st)) (fun tm st => .ret (.code .normal tm mk st)) m D lds tm st).sat C.S env Q →
      Lag C ops env0 st0 wb A0 env D lds tm st listed A w → (∀ (i : Nat) (o : Oper), ops[i]? = some o → Lst listed i) → PostC C Q env0 st0 wb .normal A w := by
    intro m env D lds tm st listed A w h hlag hall
    cases m with
    | zero => exact h.elim
    | succ m =>
      unfold drawLoop at h
      split at h
      · exact h.elim
      · split at h
        · rename_i c hc
          obtain ⟨⟨o, ho, hl, hnD⟩, _, _⟩ := nextLoud_some List.pairwise_lt_range hc
          exact absurd ((hlag.loud c o ho hl).2 (hall c o ho)) hnD
        · obtain ⟨env', D', tm', st', hs, hlag', _, _⟩ := flush_ok hT chk _ h hlag (fun i o hi _ _ => hall i o hi)
          split at hs
          · rename_i hdone
            have hD : ∀ (i : Nat) (o : Oper), ops[i]? = some o → Dn D' i := fun i o hi => allDone_ok hdone i (List.mem_range.2 (Array.getElem?_eq_some_iff.1 hi).1)
            exact PostC.ret hs hlag'.wrel hlag'.keep trivial (TP.of (hlag'.final hall hD)) (by rw [hlag'.defs]; exact hmk.mono hlag'.keep.pre)
          · exact hs.elim
  intro fuel
  induction fuel with
  | zero =>
    intro m env D lds tm st listed A w h hlag hc
    have hall : ∀ (i : Nat) (o : Oper), ops[i]? = some o → Lst listed i := fun i o hi => by
      by_cases hL : Lst listed i
      · exact hL
      · have := cnt_set hlag.lsz (Array.getElem?_eq_some_iff.1 hi).1 hL
        omega
    refine ⟨?_, hend m h hlag hall⟩
    apply List.eq_nil_iff_forall_not_mem.2
    intro i hi
    obtain ⟨o, ho, hnL, _⟩ := (mem_ready hlag.lsz).1 hi
    exact hnL (hall i o ho)
  | succ fuel ih =>
    intro m env D lds tm st listed A w h hlag hc
    refine ⟨fun hr => hend m h hlag (all_listed chk hlag.lsz hr), fun i hi => ?_⟩
    obtain ⟨o, ho, hnL, hL⟩ := (mem_ready hlag.lsz).1 hi
    have hilt := (Array.getElem?_eq_some_iff.1 ho).1
    have hcnt : cnt ops (listed.setIfInBounds i true) ≤ fuel := by
      have := cnt_set hlag.lsz hilt hnL
      omega
    unfold wpOpIn
    simp only [ho]
    obtain ⟨Ah, hta, hsz, hdef, hah⟩ := hlag.hyb
    -- what is done at this point of the executor
    have hm : ∃ m', m = m' + 1 := by
      cases m with
      | zero => exact h.elim
      | succ m => exact ⟨m, rfl⟩
    obtain ⟨m', rfl⟩ := hm
    have hkeeph := h
    unfold drawLoop at h
    split at h
    · exact h.elim
    · rename_i hsb
      simp only [Bool.and_eq_true] at hsb
      obtain ⟨hsat, hlate⟩ := hsb
      by_cases hq : isQuiet o.op = true
      · -- quiet
        obtain ⟨hnl, hnla, hns, hnd⟩ := quiet_facts hq
        have hdeps := hlag.depsD chk ho hnl hL
        have hD : Dn D i := satB_ok hsat i (List.mem_range.2 hilt) o ho hq (readyB_iff.2 hdeps)
        obtain ⟨Ai, hsz', hv, hr⟩ := hlag.rep i o ho hq hD hnL
        have hsee := hlag.see chk ho hdeps hL hnL hsz' hv
        rw [wanted_same hsee]
        rcases hr with ⟨hwf, hu⟩ | ⟨hwt, v, hu, hrun⟩
        · simp only [hwf, Bool.false_eq_true, if_false]
          refine ⟨fun _ _ => trivial, ih (m' + 1) hkeeph (hlag.listStep chk ho hq hD hL fun t hd a ha => ?_) hcnt⟩
          rw [hu t hd a ha]; rfl
        · simp only [hwt, if_true]
          obtain ⟨V, hV, hrun⟩ := hrun.run hT hlag.wrel
          refine wpIn_value (C := C) hnd (V := V) (w' := w) (by rw [exec_same hns hsee]; exact hrun) (ih (m' + 1) hkeeph (hlag.listStep chk ho hq hD hL fun t hd a ha => ?_) hcnt)
          rw [hu t hd a ha]; exact hV
      · by_cases hla : isLate o.op = true
        · -- late
          obtain ⟨hnl, hnq, hns, hnd⟩ := late_facts hla
          have hdeps := hlag.depsD chk ho hnl hL
          have hnD : ¬ Dn D i := fun e => hnL (hlag.late i o ho hla e)
          obtain ⟨ao, nv, ha⟩ := lateB_ok hlate i (List.mem_range.2 hilt) o ho hla (readyB_iff.2 hdeps) hnD
          have hg := chk.lateGuard i o ho hla
          have hw : Region.wanted o (yielded ops A.tmps) = true := by unfold Region.wanted; rw [hg]
          simp only [hw, if_true]
          have hsee := hlag.see chk ho hdeps hL hnL hsz (hlag.opv chk ho hnD hsz hah)
          obtain ⟨ob, V, hrun, hob, hV⟩ := aop_ok hT hta ha w
          have hV' : V = nv.val w.heap.size := by subst hV; cases nv <;> rfl
          subst hV'
          exact wpIn_value (C := C) hnd (by rw [exec_same hns hsee]; exact hrun) (ih (m' + 1) hkeeph (hlag.makeStep chk ho hla hnD hnL hL ha hob) hcnt)
        · -- loud
          have hl : isLoud o.op = true := by
            simp only [isLoud, Bool.and_eq_true, Bool.not_eq_true']
            exact ⟨by simpa using hq, by simpa using hla⟩
          have hnD : ¬ Dn D i := fun e => hnL ((hlag.loud i o ho hl).1 e)
          split at h
          · rename_i c hc'
            obtain ⟨⟨oc, hoc, hlc, hnDc⟩, _, hlow⟩ := nextLoud_some List.pairwise_lt_range hc'
            have hic : c = i := by
              rcases Nat.lt_trichotomy c i with hlt | he | hlt
              · have hb := chk.loud i o c oc ho hoc hl hlc hlt
                exact absurd ((hlag.loud c oc hoc hlc).2 (before_ok hlag.shutL ho hL hb)) hnDc
              · exact he
              · exact absurd (hlow i (List.mem_range.2 hilt) hlt o ho hl) hnD
            subst hic
            obtain ⟨env1, D1, tm1, st1, hs, hlag1, hadd, _⟩ := flush_ok hT chk _ h hlag (fun l p hl' _ hb => before_ok hlag.shutL ho hL hb)
            have hnD1 : ¬ Dn D1 c := fun e => by
              rcases hadd c e with e | ⟨p, hp, hlp⟩
              · exact hnD e
              · rw [ho] at hp; cases hp; exact hla hlp
            simp only [ho] at hs
            split at hs
            · exact hs.elim
            · rename_i hrb
              have hdeps := readyB_iff.1 hrb
              obtain ⟨Ah1, hta1, hsz1, hdef1, hah1⟩ := hlag1.hyb
              have hsee := hlag1.see chk ho hdeps hL hnL hsz1 (hlag1.opv chk ho hnD1 hsz1 hah1)
              obtain ⟨st2, hs2, hw2, hsame2⟩ := guardOf_ok hs hlag1.wrel hta1
              rw [wanted_same hsee]
              by_cases hwant : Region.wanted o (yielded ops Ah1.tmps) = true
              · simp only [hwant, if_true] at hs2 ⊢
                have hns : ∀ cs b, o.op ≠ .select cs b := fun cs b e => by
                  rw [e] at hs2
                  unfold opStep at hs2
                  simp only [aop, sop] at hs2
                  exact hs2.elim
                refine opStep_ok hT hS (exec_same hns hsee) hs2 hw2 hta1 ?_ ?_
                · intro env3 v st3 w3 V hpre3 hs3 hw3 hk3 hV3
                  split at hs3
                  · exact hs3.elim
                  · rename_i hlds
                    have hk3' : Keep env1 st1 w env3 st3 w3 := Keep.trans hlag1.wrel hw2 (hsame2.keep hlag1.wrel) hk3
                    have hlag3 := hlag1.loudStep chk h0 ho hl hnD1 hdeps hL hw3 hk3' hV3 (fun d hd _ => ldsOk_ok hlds d hd)
                    obtain ⟨D4, lds4, tm4, st4, hs4, hlag4⟩ := quietPass_ok hT chk _ hs3 hlag3
                    exact ih m' hs4 hlag4 hcnt
                · intro env3 v st3 w3 V hpre3 hs3 hw3 hk3 hV3
                  have hk3' : Keep env1 st1 w env3 st3 w3 := Keep.trans hlag1.wrel hw2 (hsame2.keep hlag1.wrel) hk3
                  have hk := Keep.trans h0 hlag1.wrel hlag1.keep hk3'
                  exact PostC.ret hs3 hw3 hk ⟨V, hV3, rfl⟩ ⟨fun hx => (by cases hx), (hP _ fun t ht => hlag1.t2 t fun d p hp hdst _ => ht p (by simpa using Array.mem_of_getElem? hp) hdst).mono hk.pre⟩ (by rw [hlag1.defs]; exact hmk.mono hk.pre)
              · have hwf : Region.wanted o (yielded ops Ah1.tmps) = false := by simpa using hwant
                simp only [hwf, Bool.false_eq_true, if_false] at hs2 ⊢
                refine ⟨fun _ _ => trivial, ?_⟩
                have hlag3 := hlag1.loudStep chk h0 ho hl hnD1 hdeps hL hw2 (hsame2.keep hlag1.wrel) (undefA_den env1) (fun d hd hx => .inr (by rw [hsame2.heap]; exact hx))
                obtain ⟨D4, lds4, tm4, st4, hs4, hlag4⟩ := quietPass_ok hT chk _ hs2 hlag3
                exact ih m' hs4 hlag4 hcnt
          · rename_i hn
            exact absurd (nextLoud_none hn i (List.mem_range.2 hilt) o ho hl) hnD

end

theorem drawOk_all {C : Ctx} (hT : TabOk C) : DrawOk C := by
  intro rec hS id ops mk tm st env Q h r n A w ht hm hw
  unfold drawRun at h
  simp only at h
  split at h
  · exact h.elim
  · rename_i hchk
    have chk := checked_of hchk
    obtain ⟨vs, hvs, he⟩ := ht
    have hwb : WRel C env st { w with drawn := w.drawn + 1 } := hw.world hw.below.drew fun _ _ => rfl
    have htl : tm.n = A.tmps.size := by rw [he, ← Tm.toL_length]; simpa using (AV.dens_length hvs).symm
    have hnl : ∀ j, ¬ Lst (Array.replicate ops.size false) j := fun j e => by
      unfold Lst at e
      simp only [Array.getD_eq_getD_getElem?, Array.getElem?_replicate] at e
      split at e <;> cases e
    have hnd : ∀ j, ¬ Dn 0 j := fun j e => by simp [Dn] at e
    have hlag0 : Lag C ops env st { w with drawn := w.drawn + 1 } A env 0 [] tm st (Array.replicate ops.size false) A { w with drawn := w.drawn + 1 } := by
      refine ⟨hwb, Keep.refl hwb, rfl, ⟨vs, hvs⟩, htl, rfl, by simp, ?_, ?_, ?_, ?_, ?_, ?_, ?_, ?_, ?_, ?_⟩
      · exact fun i o _ _ => ⟨fun e => absurd e (hnd i), fun e => absurd e (hnl i)⟩
      · exact fun i o _ _ e => absurd e (hnl i)
      · exact fun i o _ _ e => absurd e (hnd i)
      · exact fun i o _ e => absurd e (hnl i)
      · exact fun i o _ e => absurd e (hnd i)
      · exact fun t _ => rfl
      · intro t _ a ha
        rw [Tm.get?_eq] at ha
        obtain ⟨V, hV, hd⟩ := AV.dens_get hvs ha
        exact ⟨V, by rw [he]; simpa using hV, hd⟩
      · exact fun d p t _ _ e => absurd e (hnl d)
      · exact fun i o _ _ e => absurd e (hnd i)
      · exact ⟨fun _ => 0, fun l p _ _ e => absurd e (hnl l), fun l l' p p' _ _ _ _ e => absurd e (hnl l)⟩
    obtain ⟨D', lds', tm', st', hs, hlag'⟩ := quietPass_ok hT chk _ h hlag0
    refine wpIn_mono (wpIn_region_any hT.mixed (drawLoop_ok hT chk hwb hS hm (fun tmps htm => poison_wt ⟨vs, hvs, he⟩ htm) ops.size _ hs hlag' ?_)) ?_
    · unfold cnt
      refine Nat.le_trans (List.countP_le_length) (by simp)
    · rintro e A' w' ⟨env', xe, tm', mk', st', h1, h2, h3, h4, h5, h6⟩
      exact ⟨env', xe, tm', mk', st', h1, h2, ⟨h3.pre, h3.size, h3.block, h3.keys⟩, h4, h5, h6⟩

theorem exec_sound {C : Ctx} (hT : TabOk C) (hSp : SpecsOk C) : ∀ n, Sound C (exec C.T n) := exec_ok hT hSp (drawOk_all hT)

end Go.Ex

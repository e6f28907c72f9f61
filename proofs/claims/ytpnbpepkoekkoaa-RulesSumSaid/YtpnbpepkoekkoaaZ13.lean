/- Contracts and plain laws on the way to the statement: part 13. -/
import Derived.Test.YtpnbpepkoekkoaaZ12
import Derived.Test.YtpnbpepkoekkoaaZ8
import Derived.Test.YtpnbpepkoekkoaaZ5
import Derived.Test.YtpnbpepkoekkoaaZ1
set_option linter.unusedVariables false
set_option linter.unusedSimpArgs false
section
namespace Go.Proofs.Ytpnbpepkoekkoaa
open Go Go.RowKit
set_option maxRecDepth 100000 in
set_option maxHeartbeats 4000000 in
theorem cloned_nil (ia : Option Addr) (ic : Nat) (W : World) : Calls Try.prog 48 #[.slice ia 0 ic] W (ClP .nil [] W) := by
 have hc := clone_row ia ic .nil [] W (Nat.zero_le _) (Or.inl rfl) trivial trivial
 simp only [Lt.len] at hc
 have HC := Lib.hid hc
 clear hc
 go_enter Try.func48, Try.ntmps48
 go_wp2_with (go_at_call 72; refine HC.out.mono ?_; rintro e w5 ⟨ao, c, rfl, h1, _, _, hb⟩)
 have H5 := Lib.hid hb
 clear hb h1
 go_loopw [8] (fun iv wr => iv = .int .i64 0 ∧ wr = w5) (fun _ _ => 0)
 case atStart => exact ⟨rfl, rfl⟩
 case round =>
  obtain ⟨rfl, rfl⟩ := hrel
  go_wp2_with fail
  go_ret
  exact ⟨ao, c, .nil, rfl, rfl, Or.inl rfl, trivial, trivial, fun b hb => by simp [Lt.own, Lt.len, Lt.blocks] at hb, by simp [Lt.own, Lt.len, Lt.blocks], H5.out⟩
set_option maxRecDepth 100000 in
set_option maxHeartbeats 8000000 in
theorem cloned_step (T : Lt) (hI : ∀ T' : Lt, T'.size < T.size → ∀ (ia : Option Addr) (ic : Nat) (ns : List Int) (W : World), T'.len ≤ 100000 → (T'.len = 0 ∨ ia = some ⟨blk ia, off ia, none⟩) → T'.At W (blk ia) (off ia) → NsAt W (T'.refsL (blk ia) (off ia)) ns → T'.small → Calls Try.prog 48 #[.slice ia T'.len ic] W (ClP T' ns W))
  (ia : Option Addr) (ic : Nat) (ns : List Int) (W : World) (hl : T.len ≤ 100000) (h0 : T.len ≠ 0) (hf : ia = some ⟨blk ia, off ia, none⟩) (hA : T.At W (blk ia) (off ia)) (hN : NsAt W (T.refsL (blk ia) (off ia)) ns) (hs : T.small) :
  Calls Try.prog 48 #[.slice ia T.len ic] W (ClP T ns W) := by
 have hc := clone_row ia ic T ns W hl (Or.inr hf) hA hN
 have HC := Lib.hid hc; have HI := Lib.hid hI; have HA := Lib.hid hA; have HS := Lib.hid hs
 clear hc hI hA hN hs hf
 generalize hn : T.len = n at *
 go_enter Try.func48, Try.ntmps48
 change Code.wp Try.prog (withLast 2 code48 part48n2) _ _ _
 conv => arg 2; whnf
 go_wp2_with (go_at_call 72; refine HC.out.mono ?_; rintro e w5 ⟨ao, c, rfl, h1, h2, h3, hb⟩)
 conv => arg 2; whnf
 go_wp2_with (go_at_call 72; refine HC.out.mono ?_; rintro e w5 ⟨ao, c, rfl, h1, h2, h3, hb⟩)
 obtain ⟨q1, q2, q3⟩ := h1.resolve_left h0
 have hlo := cl_loop T ns W n (blk ao) c hn hl HI.out w5 ⟨rfl, rfl, Nat.le_refl _, rfl, trivial, trivial, by simpa using h2, by simpa using h3, by simp [Lt.blocks], fun b hb => by
  simp only [Lt.blocks, List.mem_singleton] at hb; subst hb; exact ⟨q2, q3⟩, HA.out.blocks_lt, HS.out, hb⟩
 rw [q1]
 exact hlo _ _ _ _ _ _ _ _ _ _ _ _ _ _ _ _ _ _ _ _ _ _ _ _ _ _ _ _ _ _ _
theorem cloned_any : ∀ (s : Nat) (T : Lt), T.size ≤ s → ∀ (ia : Option Addr) (ic : Nat) (ns : List Int) (W : World), T.len ≤ 100000 → (T.len = 0 ∨ ia = some ⟨blk ia, off ia, none⟩) → T.At W (blk ia) (off ia) → NsAt W (T.refsL (blk ia) (off ia)) ns → T.small → Calls Try.prog 48 #[.slice ia T.len ic] W (ClP T ns W) := by
 intro s
 induction s with
 | zero =>
  intro T hs ia ic ns W hl hf hA hN hsm
  cases T with
  | cons => simp [Lt.size] at hs
  | nil =>
   cases ns with
   | nil => exact cloned_nil ia ic W
   | cons => exact hN.elim
 | succ s ih =>
  intro T hs ia ic ns W hl hf hA hN hsm
  by_cases h0 : T.len = 0
  ·obtain rfl := Lt.len_zero h0
   cases ns with
   | nil => exact cloned_nil ia ic W
   | cons => exact hN.elim
  ·exact cloned_step T (fun T' hlt => ih T' (by omega)) ia ic ns W hl h0 (hf.resolve_left h0) hA hN hsm
end Go.Proofs.Ytpnbpepkoekkoaa
end
section
namespace Go.Proofs.Ytpnbpepkoekkoaa
open Go Go.RowKit
def phOwn (ps : List Ph) : List Nat := ps.flatMap fun p => p.its.own p.ia
theorem Lt.own_mem {T : Lt} {ao : Option Addr} {o : Nat} {r : RefL} (h : r ∈ T.refsL (blk ao) o) : r.b ∈ T.own ao := by
 have hl : T.len ≠ 0 := fun e => by rw [Lt.len_zero e] at h; cases h
 unfold Lt.own
 rcases Lt.refsL_mem h with ⟨e, _⟩ | e
 ·simp [hl, e]
 ·simp [e]
theorem Lt.own_sep {T : Lt} {ao : Option Addr} (h : (T.own ao).Nodup) (hl : T.len ≠ 0) : T.Sep (blk ao) := by
 unfold Lt.own at h; rw [if_neg hl] at h; exact h
theorem Ph.Its.kept {w w' : World} {p : Ph} (h : p.Its w) (hk : ∀ c ∈ p.its.own p.ia, ∀ q v, w.cell? ⟨c, q, none⟩ = some v → w'.cell? ⟨c, q, none⟩ = some v) : p.Its w' := by
 refine ⟨h.1, h.2.1, ?_⟩
 by_cases hl : p.its.len = 0
 ·rw [Lt.len_zero hl]; trivial
 ·exact h.2.2.kept (fun q v _ => hk _ (by unfold Lt.own; simp [hl]) q v) (fun c hc => hk c (by unfold Lt.own; simp [hc]))
theorem phAt_kept {w w' : World} {b : Nat} : ∀ {o : Nat} {ps : List Ph}, phAt w b o ps → (∀ q v, o ≤ q → w.cell? ⟨b, q, none⟩ = some v → w'.cell? ⟨b, q, none⟩ = some v) → (∀ c ∈ phOwn ps, ∀ q v, w.cell? ⟨c, q, none⟩ = some v → w'.cell? ⟨c, q, none⟩ = some v) → phAt w' b o ps
 | _, [], _, _, _ => trivial
 | o, p :: r, ⟨⟨h1, h2, h3⟩, h⟩, hk, hc => ⟨⟨hk _ _ (Nat.le_refl _) h1, hk _ _ (by omega) h2, h3.kept fun c hcm => hc c (by simp [phOwn, hcm])⟩, phAt_kept h (fun q v hq => hk q v (by omega)) fun c hcm => hc c (by unfold phOwn at *; simp [hcm])⟩
theorem danAt_kept {w w' : World} {b : Nat} : ∀ {o : Nat} {ds : List Dan}, danAt w b o ds → (∀ q v, o ≤ q → w.cell? ⟨b, q, none⟩ = some v → w'.cell? ⟨b, q, none⟩ = some v) → danAt w' b o ds
 | _, [], _, _ => trivial
 | o, d :: r, ⟨⟨h1, h2, h3, h4⟩, h⟩, hk => ⟨⟨hk _ _ (Nat.le_refl _) h1, hk _ _ (by omega) h2, hk _ _ (by omega) h3, hk _ _ (by omega) h4⟩, danAt_kept h fun q v hq => hk q v (by omega)⟩
theorem phRefs_own {ps : List Ph} {r : RefL} (h : r ∈ phRefs ps) : r.b ∈ phOwn ps := by
 induction ps with
 | nil => cases h
 | cons p ps ih =>
  simp only [phRefs, List.mem_append] at h
  unfold phOwn at ih ⊢
  rw [List.flatMap_cons, List.mem_append]
  rcases h with h | h
  ·exact Or.inl (Lt.own_mem h)
  ·exact Or.inr (ih h)
theorem danRefs_mem {b : Nat} : ∀ {o : Nat} {ds : List Dan} {r : RefL}, r ∈ danRefs b o ds → r.b = b ∧ o ≤ r.o ∧ ds ≠ [] ∧ ((r.o - o) % 6 = 0 ∨ (r.o - o) % 6 = 2)
 | _, [], _, h => by cases h
 | o, d :: ds, r, h => by
  simp only [danRefs, List.mem_cons] at h
  rcases h with rfl | rfl | h
  ·exact ⟨rfl, Nat.le_refl _, by simp, Or.inl (by simp)⟩
  ·exact ⟨rfl, by simp only; omega, by simp, Or.inr (by simp only; omega)⟩
  ·obtain ⟨h1, h2, _, h3⟩ := danRefs_mem h
   exact ⟨h1, by omega, by simp, by omega⟩
theorem ph_set {w : World} {v : Value} {b : Nat} : ∀ {o : Nat} {ps : List Ph} {x : RefL}, b ∉ phOwn ps → (phOwn ps).Nodup → x ∈ phRefs ps → phAt w b o ps → phAt (w.setCell ⟨x.b, x.o + 1, none⟩ v) b o ps
 | _, [], _, _, _, h, _ => by cases h
 | o, p :: r, x, hb, hn, h, ⟨⟨h1, h2, h3⟩, hr⟩ => by
  have hxo := phRefs_own h
  have hbx : b ≠ x.b := fun e => hb (e ▸ hxo)
  have mk : ∀ {c : Nat}, c ≠ x.b → ∀ q u, w.cell? ⟨c, q, none⟩ = some u → (w.setCell ⟨x.b, x.o + 1, none⟩ v).cell? ⟨c, q, none⟩ = some u := fun hc q u hq => cell_set_ne hq (addr_ne (Or.inl fun e => hc e.symm))
  unfold phOwn at hb hn
  rw [List.flatMap_cons] at hb hn
  rw [List.mem_append, not_or] at hb
  obtain ⟨n1, n2, n3⟩ := List.nodup_append.1 hn
  simp only [phRefs, List.mem_append] at h
  refine ⟨⟨mk hbx _ _ h1, mk hbx _ _ h2, ?_⟩, ?_⟩
  ·rcases h with h | h
   ·have hl : p.its.len ≠ 0 := fun e => by unfold Ph.refsL at h; rw [Lt.len_zero e] at h; cases h
    exact ⟨h3.1, h3.2.1, Lt.at_set (Lt.own_sep n1 hl) h h3.2.2⟩
   ·exact h3.kept fun c hc q u => mk (fun e => n3 _ hc _ (phRefs_own h) e) q u
  ·rcases h with h | h
   ·exact phAt_kept hr (fun q u _ => mk hbx q u) fun c hc q u => mk (fun e => n3 _ (Lt.own_mem h) _ hc e.symm) q u
   ·exact ph_set hb.2 n2 h hr
theorem dan_set {w : World} {v : Value} {b : Nat} : ∀ {o : Nat} {ds : List Dan} {x : RefL}, x ∈ danRefs b o ds → danAt w b o ds → danAt (w.setCell ⟨x.b, x.o + 1, none⟩ v) b o ds
 | _, [], _, h, _ => by cases h
 | o, d :: ds, x, h, ⟨⟨h1, h2, h3, h4⟩, hr⟩ => by
  obtain ⟨e, hle, _, hm⟩ := danRefs_mem h
  refine ⟨⟨cell_set_ne h1 (addr_ne (by omega)), cell_set_ne h2 (addr_ne (by omega)), cell_set_ne h3 (addr_ne (by omega)), cell_set_ne h4 (addr_ne (by omega))⟩, ?_⟩
  simp only [danRefs, List.mem_cons] at h
  rcases h with rfl | rfl | h
  ·exact danAt_kept hr fun q u hq hc => cell_set_ne hc (addr_ne (by simp only; omega))
  ·exact danAt_kept hr fun q u hq hc => cell_set_ne hc (addr_ne (by simp only; omega))
  ·exact dan_set h hr
theorem phRefs_apart : ∀ {ps : List Ph}, (phOwn ps).Nodup → PlacesApart (phRefs ps)
 | [], _ => List.Pairwise.nil
 | p :: r, hn => by
  unfold phOwn at hn
  rw [List.flatMap_cons] at hn
  obtain ⟨n1, n2, n3⟩ := List.nodup_append.1 hn
  refine List.pairwise_append.2 ⟨?_, phRefs_apart n2, fun x hx y hy => addr_ne (Or.inl fun e => n3 _ (Lt.own_mem hx) _ (phRefs_own hy) e)⟩
  unfold Ph.refsL
  by_cases hl : p.its.len = 0
  ·rw [Lt.len_zero hl]; exact List.Pairwise.nil
  ·exact Lt.refsL_apart (Lt.own_sep n1 hl) _
theorem danRefs_apart (b : Nat) : ∀ (o : Nat) (ds : List Dan), PlacesApart (danRefs b o ds)
 | _, [] => List.Pairwise.nil
 | o, d :: ds => by
  refine List.pairwise_cons.2 ⟨fun y hy => ?_, List.pairwise_cons.2 ⟨fun y hy => ?_, danRefs_apart b (o + 6) ds⟩⟩
  ·rcases List.mem_cons.1 hy with rfl | hy
   ·exact addr_ne (by simp only; omega)
   ·have := danRefs_mem hy; exact addr_ne (by simp only; omega)
  ·have := danRefs_mem hy; exact addr_ne (by simp only; omega)
structure Ls.Sep (s : Ls) : Prop where
 own : (phOwn s.phrases).Nodup
 fa : blk s.fa ∉ phOwn s.phrases
 da : s.dances ≠ [] → blk s.da ∉ phOwn s.phrases
 fd : s.dances ≠ [] → s.phrases ≠ [] → blk s.fa ≠ blk s.da
theorem Ls.Sep.apart {s : Ls} (h : s.Sep) : PlacesApart s.refs :=
 List.pairwise_append.2 ⟨phRefs_apart h.own, danRefs_apart _ _ _, fun x hx y hy => addr_ne (Or.inl fun e => by
  obtain ⟨e2, _, e3, _⟩ := danRefs_mem hy
  exact h.da e3 (by rw [← e2, ← e]; exact phRefs_own hx))⟩
theorem Ls.Sep.set {s : Ls} (h : s.Sep) {w : World} {v : Value} {x : RefL} (hx : x ∈ s.refs) (h1 : phAt w (blk s.fa) (off s.fa) s.phrases) (h2 : danAt w (blk s.da) (off s.da) s.dances) :
  phAt (w.setCell ⟨x.b, x.o + 1, none⟩ v) (blk s.fa) (off s.fa) s.phrases ∧ danAt (w.setCell ⟨x.b, x.o + 1, none⟩ v) (blk s.da) (off s.da) s.dances := by
 rcases List.mem_append.1 hx with hx | hx
 ·refine ⟨ph_set h.fa h.own hx h1, ?_⟩
  by_cases hd : s.dances = []
  ·rw [hd]; trivial
  ·exact danAt_kept h2 fun q u _ hc => cell_set_ne hc (addr_ne (Or.inl fun e => h.da hd (e ▸ phRefs_own hx)))
 ·obtain ⟨e2, _, e3, _⟩ := danRefs_mem hx
  refine ⟨?_, dan_set hx h2⟩
  by_cases hp : s.phrases = []
  ·rw [hp]; trivial
  ·exact phAt_kept h1 (fun q u _ hc => cell_set_ne hc (addr_ne (Or.inl (fun e => h.fd e3 hp (by rw [← e2, e]))))) (fun c hc q u hq => cell_set_ne hq (addr_ne (Or.inl (fun e => h.da e3 (by rw [← e2, e]; exact hc)))))
def NmAt (w : World) (xs : List RefL) : Prop := ∀ x ∈ xs, w.cell? ⟨x.b, x.o, none⟩ = some (sv x.nm)
theorem movNm {w : World} {b : Nat} : ∀ {o : Nat} {ms : List Mov}, movAt w b o ms → NmAt w (movRefs b o ms)
 | _, [], _, _, h => by cases h
 | o, m :: r, ⟨⟨_, _, _, _, _, _, h6, _⟩, h⟩, x, hx => by
  rcases List.mem_cons.1 hx with rfl | hx
  ·exact h6
  ·exact movNm h x hx
theorem Lt.nm {w : World} : ∀ {T : Lt} {b o : Nat}, T.At w b o → NmAt w (T.refsL b o)
 | .nil, _, _, _, _, h => by cases h
 | .cons k n un ia ic its ma mc ms r, b, o, ⟨⟨_, _, h2, _, _⟩, ⟨_, _, m3⟩, ⟨_, _, i3⟩, hr⟩, x, hx => by
  simp only [Lt.refsL, List.mem_cons, List.mem_append] at hx
  rcases hx with rfl | hx | hx | hx
  ·exact h2
  ·exact movNm m3 x hx
  ·exact Lt.nm i3 x hx
  ·exact Lt.nm hr x hx
theorem phNm {w : World} {b : Nat} : ∀ {o : Nat} {ps : List Ph}, phAt w b o ps → NmAt w (phRefs ps)
 | _, [], _, _, h => by cases h
 | o, p :: r, ⟨⟨_, _, h3⟩, h⟩, x, hx => by
  simp only [phRefs, List.mem_append] at hx
  rcases hx with hx | hx
  ·exact Lt.nm h3.2.2 x hx
  ·exact phNm h x hx
theorem danNm {w : World} {b : Nat} : ∀ {o : Nat} {ds : List Dan}, danAt w b o ds → NmAt w (danRefs b o ds)
 | _, [], _, _, h => by cases h
 | o, d :: r, ⟨⟨h1, h2, _⟩, h⟩, x, hx => by
  simp only [danRefs, List.mem_cons] at hx
  rcases hx with rfl | rfl | hx
  ·exact h1
  ·exact h2
  ·exact danNm h x hx
theorem score_nm {w : World} {s : Ls} (h1 : phAt w (blk s.fa) (off s.fa) s.phrases) (h2 : danAt w (blk s.da) (off s.da) s.dances) : NmAt w s.refs := fun x hx => by
 rcases List.mem_append.1 hx with hx | hx
 ·exact phNm h1 x hx
 ·exact danNm h2 x hx
end Go.Proofs.Ytpnbpepkoekkoaa
end
section
namespace Go.Proofs.Ytpnbpepkoekkoaa
open Go Go.RowKit
theorem phAt_app (w : World) (b : Nat) : ∀ (A B : List Ph) (o : Nat), phAt w b o (A ++ B) ↔ phAt w b o A ∧ phAt w b (o + 2 * A.length) B
 | [], B, o => by simp [phAt]
 | p :: A, B, o => by
  simp only [List.cons_append, phAt, List.length_cons, phAt_app w b A B (o + 2), show o + 2 + 2 * A.length = o + 2 * (A.length + 1) by omega, and_assoc]
theorem phRefs_app : ∀ A B : List Ph, phRefs (A ++ B) = phRefs A ++ phRefs B
 | [], B => rfl
 | p :: A, B => by simp [phRefs, phRefs_app A B]
theorem phAt_kept2 {w w' : World} {b : Nat} : ∀ {o : Nat} {ps : List Ph}, phAt w b o ps → (∀ q v, o ≤ q → q < o + 2 * ps.length → w.cell? ⟨b, q, none⟩ = some v → w'.cell? ⟨b, q, none⟩ = some v) → (∀ c ∈ phOwn ps, ∀ q v, w.cell? ⟨c, q, none⟩ = some v → w'.cell? ⟨c, q, none⟩ = some v) → phAt w' b o ps
 | _, [], _, _, _ => trivial
 | o, p :: r, ⟨⟨h1, h2, h3⟩, h⟩, hk, hc => by
  simp only [List.length_cons] at hk
  exact ⟨⟨hk _ _ (Nat.le_refl _) (by omega) h1, hk _ _ (by omega) (by omega) h2, h3.kept fun c hcm => hc c (by simp [phOwn, hcm])⟩, phAt_kept2 h (fun q v hq hq2 => hk q v (by omega) (by omega)) fun c hcm => hc c (by unfold phOwn at *; simp [hcm])⟩
structure PhS (ps : List Ph) (ns : List Int) (lo g i : Nat) (W0 : World) (A R : List Ph) (n1 n2 : List Int) (W : World) : Prop where
 strip : A.map Ph.strip ++ R.map Ph.strip = ps.map Ph.strip
 len : A.length = i
 nseq : n1 ++ n2 = ns
 atA : phAt W g 0 A
 nsA : NsAt W (phRefs A) n1
 atR : phAt W g (i * 2) R
 nsR : NsAt W (phRefs R) n2
 apart : (g :: phOwn A).Nodup
 own : ∀ b ∈ phOwn A, W0.heap.size ≤ b ∧ FreeB W b
 gf : lo ≤ g ∧ FreeB W g
 old : ∀ b ∈ phOwn R, b < lo
 small : ∀ p ∈ R, p.its.len ≤ 100000 ∧ p.its.small
 but : ButOne g W0 W
theorem ph_step {ps : List Ph} {ns : List Int} {lo g i : Nat} {W0 wr w5 w6 : World} {A r : List Ph} {p : Ph} {n1 n2 m1 m2 : List Int} {ao' : Option Addr} {co' : Nat}
  (h : PhS ps ns lo g i W0 A (p :: r) n1 n2 wr) (hn2 : n2 = m1 ++ m2) (k2 : NsAt wr (phRefs r) m2) (hg0 : g < W0.heap.size)
  (hb5 : Below wr.heap.size wr w5) (h6 : ClP p.its m1 w5 (.returned (.slice ao' p.its.len co')) w6) :
  ∃ A', PhS ps ns lo g (i + 1) W0 A' r (n1 ++ m1) m2 (w6.setCell ⟨g, i * 2 + 1, none⟩ (.slice ao' p.its.len co')) := by
 obtain ⟨ao, c, its', e, q1, q2, q3, q4, q5, q6, q7⟩ := h6
 injection e with e; injection e with e1 e2 e3
 subst e1 e3
 have hli := Lt.same_len q1
 have b6 : Below wr.heap.size wr w6 := hb5.trans (q7.mono hb5.size)
 obtain ⟨⟨r0, r1, x1, x2, x3⟩, hr⟩ := h.atR
 have hsz := h.but.size
 generalize hWn : w6.setCell ⟨g, i * 2 + 1, none⟩ (.slice ao' p.its.len co') = Wn
 have kg : ∀ q v, q ≠ i * 2 + 1 → wr.cell? ⟨g, q, none⟩ = some v → Wn.cell? ⟨g, q, none⟩ = some v := fun q v h4 hc => by
  rw [← hWn]; exact cell_set_ne (keep_cell b6 hc) (addr_ne (Or.inr fun e => h4 e.symm))
 have ko : ∀ b, b ≠ g → ∀ q v, w6.cell? ⟨b, q, none⟩ = some v → Wn.cell? ⟨b, q, none⟩ = some v := fun b hb q v hc => by
  rw [← hWn]; exact cell_set_ne hc (addr_ne (Or.inl fun e => hb e.symm))
 have c1 : Wn.cell? ⟨g, i * 2 + 1, none⟩ = some (.slice ao' p.its.len co') := by
  rw [← hWn]; exact World.cell?_setCell_same _ _ _ (keep_cell b6 r1)
 have kf : ∀ b, FreeB w6 b → FreeB Wn b := fun b hb => by rw [← hWn]; exact hb.set _ _
 have hgA : g ∉ phOwn A := (List.nodup_cons.1 h.apart).1
 have hAo : phAt Wn g 0 A := phAt_kept2 h.atA (fun q v _ hq => kg q v (by rw [h.len] at hq; omega)) (fun b hb q v hc => ko b (fun e => hgA (e ▸ hb)) q v (keep_cell b6 hc))
 have hNA : NsAt Wn (phRefs A) n1 := h.nsA.kept fun x hx v hc => ko _ (fun e => hgA (e ▸ phRefs_own hx)) _ _ (keep_cell b6 hc)
 have hin : ∀ b ∈ its'.own ao', b ≠ g := fun b hb => by have := (q5 b hb).1; have := hb5.size; omega
 have hIo : its'.At Wn (blk ao') (off ao') ∧ NsAt Wn (its'.refsL (blk ao') (off ao')) m1 := by
  by_cases hz : its'.len = 0
  ·have := Lt.len_zero hz
   subst this
   cases m1 with
   | nil => exact ⟨trivial, trivial⟩
   | cons => exact q4.elim
  ·have e0 : off ao' = 0 := by rw [q2.resolve_left (by omega)]; rfl
   have hbm : blk ao' ∈ its'.own ao' := by unfold Lt.own; simp [hz]
   rw [e0]
   refine ⟨q3.kept (fun q v _ hc => ko _ (hin _ hbm) _ _ hc) (fun b hb q v hc => ko _ (hin _ (by unfold Lt.own; simp [hb])) _ _ hc), q4.kept fun x hx v hc => ?_⟩
   rcases Lt.refsL_mem hx with ⟨e, _⟩ | e
   ·exact ko _ (by rw [e]; exact hin _ hbm) _ _ hc
   ·exact ko _ (hin _ (by unfold Lt.own; simp [e])) _ _ hc
 have hold : ∀ b ∈ phOwn r, b < lo := fun b hb => h.old b (by unfold phOwn at *; simp [hb])
 have hro : phAt Wn g (i * 2 + 2) r := phAt_kept hr (fun q v hq hc => kg q v (by omega) hc) (fun b hb q v hc => ko b (by have := hold b hb; have := h.gf.1; omega) q v (keep_cell b6 hc))
 have hrN : NsAt Wn (phRefs r) m2 := k2.kept fun x hx v hc => ko _ (by have := hold x.b (phRefs_own hx); have := h.gf.1; omega) _ _ (keep_cell b6 hc)
 have hoA : 0 + 2 * A.length = i * 2 := by rw [h.len]; omega
 have hlen : p.its.len = its'.len := hli.symm
 refine ⟨A ++ [⟨p.name, ao', co', its'⟩], ?_, by simp [h.len], by rw [← h.nseq, hn2]; simp, ?_, ?_, ?_, hrN, ?_, ?_, ⟨h.gf.1, kf _ (h.gf.2.below b6)⟩, hold, fun q hq => h.small q (List.mem_cons_of_mem _ hq), ?_⟩
 ·rw [← h.strip]; simp [Ph.strip, q1]
 ·rw [phAt_app, hoA]
  refine ⟨hAo, ⟨kg _ _ (by omega) r0, by unfold Ph.val; rw [← hlen]; exact c1, ?_, by rw [← hlen]; exact x2, hIo.1⟩, trivial⟩
  rcases q2 with q2 | q2
  ·left; show its'.len = 0; omega
  ·right
   have e0 : off ao' = 0 := by rw [q2]; rfl
   show ao' = some ⟨blk ao', off ao', none⟩
   rw [e0]; exact q2
 ·rw [phRefs_app]
  exact hNA.append (by simpa [phRefs, Ph.refsL] using hIo.2)
 ·rw [Nat.add_mul, Nat.one_mul]; exact hro
 ·have : phOwn (A ++ [⟨p.name, ao', co', its'⟩]) = phOwn A ++ its'.own ao' := by unfold phOwn; simp
  rw [this, ← List.cons_append]
  refine List.nodup_append.2 ⟨h.apart, q6, fun a ha b hb e => ?_⟩
  have h2 := (q5 b hb).1
  have := hb5.size
  rcases List.mem_cons.1 ha with rfl | ha
  ·have := h.gf.2.lt; omega
  ·have := (h.own a ha).2.lt; omega
 ·intro b hb
  have : phOwn (A ++ [⟨p.name, ao', co', its'⟩]) = phOwn A ++ its'.own ao' := by unfold phOwn; simp
  rw [this, List.mem_append] at hb
  rcases hb with hb | hb
  ·obtain ⟨h1, h2⟩ := h.own b hb
   exact ⟨h1, kf _ (h2.below b6)⟩
  ·obtain ⟨h1, h2⟩ := q5 b hb
   have := hb5.size
   exact ⟨by omega, kf _ h2⟩
 ·rw [← hWn]
  exact (h.but.trans (ButOne.of_below b6)).trans (ButOne.setCell (p := ⟨g, i * 2 + 1, none⟩) _)
end Go.Proofs.Ytpnbpepkoekkoaa
end
section
namespace Go.Proofs.Ytpnbpepkoekkoaa
open Go Go.RowKit
theorem Lt.strip_size : ∀ T : Lt, T.strip.size = T.size
 | .nil => rfl
 | .cons _ _ _ _ _ its _ _ _ r => by simp [Lt.strip, Its.size, Lt.size, its.strip_size, r.strip_size]
def Lt.movs : Lt → Nat
 | .nil => 0
 | .cons _ _ _ _ _ its _ _ ms r => ms.length + its.movs + r.movs
theorem Lt.small_of : ∀ T : Lt, T.size ≤ 100000 → T.movs ≤ 100000 → T.small
 | .nil, _, _ => trivial
 | .cons _ _ _ _ _ its _ _ ms r, h1, h2 => by
  simp only [Lt.size, Lt.movs] at h1 h2
  have := its.strip.len_le_size
  have e1 := its.strip_len
  have e2 := its.strip_size
  exact ⟨by omega, by omega, its.small_of (by omega) (by omega), r.small_of (by omega) (by omega)⟩
def Lt.mfit : Lt → Prop
 | .nil => True
 | .cons _ _ _ _ _ its _ _ ms r => ms.length ≤ 1000000000000000 ∧ its.mfit ∧ r.mfit
end Go.Proofs.Ytpnbpepkoekkoaa
end

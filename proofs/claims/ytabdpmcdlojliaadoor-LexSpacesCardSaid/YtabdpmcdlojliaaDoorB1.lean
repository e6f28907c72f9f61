/- The contract of lex.Lex: it returns the tokens of lexAt, or the place of its error. -/
import Derived.Test.YtabdpmcdlojliaaDoorA10
import Derived.Test.YtabdpmcdlojliaaDoorP3
import Derived.Deep.LoopGhost
import Derived.Deep.DeepFit
import Derived.Laws.EntriesVeiled
namespace Go.Proofs.YtabdpmcdlojliaaDoor
open Go.RowKit

def cellsOfT (t : Tok) : List Value := [.int .i64 t.kind, .string ⟨t.text.toArray⟩, .int .i64 t.num, .int .i64 t.pos]
def cellsOf (ts : List Tok) : List Value := ts.flatMap cellsOfT
theorem cellsOf_snoc (ts : List Tok) (t : Tok) : cellsOf (ts ++ [t]) = cellsOf ts ++ cellsOfT t := by unfold cellsOf; simp

def addToks (ts : List Tok) (x : Except Nat (List Tok)) : Except Nat (List Tok) := match x with | .ok us => .ok (ts ++ us) | .error e => .error e
theorem addToks_cons (ts : List Tok) (t : Tok) (x : Except Nat (List Tok)) : addToks ts (consT t x) = addToks (ts ++ [t]) x := by
  cases x <;> simp [addToks, consT]

theorem five_blocks (w : World) (o0 o1 o2 o3 o4 : Obj) : (((((w.alloc o0).alloc o1).alloc o2).alloc o3).alloc o4).heap[w.heap.size]? = some o0 ∧ (((((w.alloc o0).alloc o1).alloc o2).alloc o3).alloc o4).heap[w.heap.size + 1]? = some o1 ∧
    (((((w.alloc o0).alloc o1).alloc o2).alloc o3).alloc o4).heap[w.heap.size + 1 + 1]? = some o2 ∧ (((((w.alloc o0).alloc o1).alloc o2).alloc o3).alloc o4).heap[w.heap.size + 1 + 1 + 1]? = some o3 ∧
    (((((w.alloc o0).alloc o1).alloc o2).alloc o3).alloc o4).heap[w.heap.size + 1 + 1 + 1 + 1]? = some o4 ∧ (((((w.alloc o0).alloc o1).alloc o2).alloc o3).alloc o4).heap.size = w.heap.size + 5 ∧
    Below w.heap.size w (((((w.alloc o0).alloc o1).alloc o2).alloc o3).alloc o4) := by
  refine ⟨?_, ?_, ?_, ?_, ?_, by simp, (((((Below.refl _ w).alloc (Nat.le_refl _) _).alloc (by simp) _).alloc (by simp; omega) _).alloc (by simp; omega) _).alloc (by simp; omega) _⟩
  · rw [Below.heap_alloc _ _ _ (by simp <;> omega), Below.heap_alloc _ _ _ (by simp <;> omega), Below.heap_alloc _ _ _ (by simp <;> omega), Below.heap_alloc _ _ _ (by simp)]; exact heap_alloc_new w o0
  · rw [Below.heap_alloc _ _ _ (by simp <;> omega), Below.heap_alloc _ _ _ (by simp <;> omega), Below.heap_alloc _ _ _ (by simp)]; have := heap_alloc_new (w.alloc o0) o1; simpa using this
  · rw [Below.heap_alloc _ _ _ (by simp <;> omega), Below.heap_alloc _ _ _ (by simp)]; have := heap_alloc_new ((w.alloc o0).alloc o1) o2; simpa using this
  · rw [Below.heap_alloc _ _ _ (by simp)]; have := heap_alloc_new (((w.alloc o0).alloc o1).alloc o2) o3; simpa using this
  · have := heap_alloc_new ((((w.alloc o0).alloc o1).alloc o2).alloc o3) o4; simpa using this

theorem own_slice {w : World} {base : Nat} {e : TypeId} {size : Nat} {v : Value} {n : Nat} {xs : List Value} (h : w.ownsRow base e size v n xs) : ∃ ao l c, v = .slice ao l c := by
  rcases h.2 with ⟨rfl, _⟩ | ⟨g, cap, cur, rfl, _⟩ <;> exact ⟨_, _, _, rfl⟩
theorem ownsRow_mono {w : World} {base base' : Nat} {e : TypeId} {size : Nat} {v : Value} {n : Nat} {xs : List Value} (h : w.ownsRow base e size v n xs) (hb : base' ≤ base) : w.ownsRow base' e size v n xs := by
  refine ⟨h.1, ?_⟩
  rcases h.2 with h2 | ⟨g, cap, cur, e1, e2, r⟩
  · exact Or.inl h2
  · exact Or.inr ⟨g, cap, cur, e1, Nat.le_trans hb e2, r⟩

/-- What holds at the head of each round. -/
def LexInv (src : ByteArray) (S : Nat) (W wr : World) (k : Nat) : Prop := ∃ (a : Nat) (ts : List Tok) (v : Value), k = src.size - a ∧ a ≤ src.size ∧ ts.length ≤ a ∧
  wr.heap[S]? = some (.cells #[.string src, .int .i64 a, v] 49 (0, 0)) ∧ wr.ownsRow (S + 1) 35 4 v ts.length (cellsOf ts) ∧ Below S W wr ∧ lexAt 0 src.data.toList = addToks ts (lexAt a (src.data.toList.drop a))

/-- What Lex hands back. -/
def LexPost (r : Except Nat (List Tok)) (w : World) (e : Ending) (w' : World) : Prop :=
  (∃ ts v, r = .ok ts ∧ e = .returned (.tuple #[v, .int .i64 0, .int .i64 0]) ∧ w'.ownsRow w.heap.size 35 4 v ts.length (cellsOf ts) ∧ Below w.heap.size w w') ∨
  (∃ p : Nat, r = .error p ∧ e = .returned (.tuple #[.slice none 0 0, .int .i64 p, .int .i64 30]) ∧ Below w.heap.size w w')

set_option maxRecDepth 100000 in
set_option maxHeartbeats 2000000 in
theorem lex_any (src : ByteArray) (w : World) (hE : Env w) (hs : src.size ≤ 65536) :
    Calls Tryd.prog 12 #[.string src] w (LexPost (lexAt 0 src.data.toList) w) := by
  have hmf : ∀ (fn : Fn) (first cap : Array Value) (w : World), (Instr.makeFunc fn first cap).run Tryd.prog w = .ok (.func fn first cap) w := fun _ _ _ _ => rfl
  have HE := Lib.hid hE; clear hE
  go_enter_defers Tryd.func12, Tryd.ntmps12
  go_wp2_with fail
  have h5 := five_blocks w (.cells #[.slice none 0 0] 23) (.cells #[.int .i64 0] 3) (.cells #[.int .i64 0] 24)
    (.cells #[.func (.func 25) #[] #[], .func (.func 26) #[] #[], .func (.func 27) #[] #[], .func (.func 28) #[] #[], .func (.func 29) #[] #[], .func (.func 25) #[] #[]] 46)
    (.cells #[.string src, .int .i64 0, .slice none 0 0] 49)
  generalize ((((w.alloc (.cells #[.slice none 0 0] 23)).alloc (.cells #[.int .i64 0] 3)).alloc (.cells #[.int .i64 0] 24)).alloc
    (.cells #[.func (.func 25) #[] #[], .func (.func 26) #[] #[], .func (.func 27) #[] #[], .func (.func 28) #[] #[], .func (.func 29) #[] #[], .func (.func 25) #[] #[]] 46)).alloc
    (.cells #[.string src, .int .i64 0, .slice none 0 0] 49) = W at *
  obtain ⟨g0, g1, g2, g3, g4, gz, gB⟩ := h5
  have G0 := Lib.hid g0; have G1 := Lib.hid g1; have G2 := Lib.hid g2; have G3 := Lib.hid g3; have G4 := Lib.hid g4; have GZ := Lib.hid gz; have GB := Lib.hid gB
  clear g0 g1 g2 g3 g4 gz gB hmf
  go_loopg [] src.size (fun k wr => LexInv src (w.heap.size + 1 + 1 + 1 + 1) W wr k)
  case atStart =>
    refine ⟨0, [], .slice none 0 0, by simp, Nat.zero_le _, Nat.le_refl _, G4.out, World.ownsRow_nil _ _ _ _, Below.refl _ _, ?_⟩
    cases h : lexAt 0 (src.data.toList.drop 0) <;> simp [addToks] <;> simpa using h
  case round =>
    obtain ⟨a, ts, v, hk, ha, hts, hS, hO, hB, hL⟩ := hrel
    have HS := Lib.hid hS; have HO := Lib.hid hO; have HB := Lib.hid hB; have HL := Lib.hid hL; have HK := Lib.hid hk
    clear hS hO hB hL hk
    have g3 := (HB.out.block _ (by omega)).trans G3.out
    have c0 := cell_of_block HS.out 0 (by simp)
    have c1 := cell_of_block HS.out 1 (by simp)
    have c2 := cell_of_block HS.out 2 (by simp)
    have s0 := cell_of_block g3 0 (by simp)
    have s1 := cell_of_block g3 1 (by simp)
    have s2 := cell_of_block g3 2 (by simp)
    have s3 := cell_of_block g3 3 (by simp)
    have s4 := cell_of_block g3 4 (by simp)
    have s5 := cell_of_block g3 5 (by simp)
    simp at c0 c1 c2 s0 s1 s2 s3 s4 s5
    clear g3
    have hzr : w.heap.size + 5 ≤ wr.heap.size := by have := HB.out.size; have := GZ.out; omega
    by_cases hlt : a < src.size
    · have hcl := cls_bounds src[a].toNat
      have hgb := Lib.hid (getElem_byte src a hlt)
      have hdr := Lib.hid (drop_cons (getElem_byte src a hlt))
      by_cases h1 : isSpace src[a] = true
      · have hf : wr.cell? ⟨w.heap.size + 1 + 1 + 1, (cls src[a].toNat).toNat, none⟩ = some (.func (.func 26) #[] #[]) := by
          have e : cls src[a].toNat = 1 := by unfold isSpace cl at h1; simpa using h1
          rw [e]; exact s1
        have H1 := Lib.hid h1
        clear s0 s1 s2 s3 s4 s5 h1
        go_wp2_with (first | (go_at_call 30; refine (class_any _ _).mono ?_; rintro e w' ⟨rfl, rfl⟩) | (go_at_call 26; refine (space_any (w.heap.size + 1 + 1 + 1 + 1) (w.heap.size + 1 + 1 + 1 + 1 + 1) a ts.length src v (cellsOf ts) _ HS.out HO.out (by omega) (by omega) hs (by omega)).mono ?_; rintro e w2 ⟨rfl, h1, h2, h3⟩; have J1 := Lib.hid h1; have J2 := Lib.hid h2; have J3 := Lib.hid h3; clear h1 h2 h3))
        have hrl := runText_len isSpace src a
        have hle := runText_le isSpace src a
        have hpos : 1 ≤ runLen isSpace (src.data.toList.drop a) := by rw [hdr.out, runLen_cons_pos H1.out]; omega
        go_roundg (src.size - (a + (runText isSpace src a).length))
        case measure => rw [HK.out]; omega
        case rel =>
          refine ⟨a + (runText isSpace src a).length, ts, v, rfl, by omega, by omega, J1.out, J2.out, HB.out.trans J3.out, ?_⟩
          rw [HL.out, lexAt_spaces (src.data.toList.drop a) a, ← hrl, List.drop_drop]
      by_cases h2 : isLetter src[a] = true
      · have hf : wr.cell? ⟨w.heap.size + 1 + 1 + 1, (cls src[a].toNat).toNat, none⟩ = some (.func (.func 27) #[] #[]) := by
          have e : cls src[a].toNat = 2 := by unfold isLetter cl at h2; simpa using h2
          rw [e]; exact s2
        have H1 := Lib.hid h2
        clear s0 s1 s2 s3 s4 s5 h1 h2
        have hrl := runText_len isPart src a
        have hle := runText_le isPart src a
        have hpos : 1 ≤ runLen isPart (src.data.toList.drop a) := by rw [hdr.out, runLen_cons_pos (isPart_letter H1.out)]; omega
        have HR := Lib.hid hrl; clear hrl
        by_cases hok : nameOk (runText isPart src a) = true
        · have HOK := Lib.hid hok; clear hok
          go_wp2_with (first | (go_at_call 30; refine (class_any _ _).mono ?_; rintro e w' ⟨rfl, rfl⟩) | (go_at_call 27; refine (name_ok (w.heap.size + 1 + 1 + 1 + 1) (w.heap.size + 1 + 1 + 1 + 1 + 1) a ts.length src v (cellsOf ts) _ HS.out HO.out (by omega) (by omega) hs (by omega) (by omega) HOK.out).mono ?_; rintro e w2 ⟨rfl, v2, h1, h2, h3⟩; have J1 := Lib.hid h1; have J2 := Lib.hid h2; have J3 := Lib.hid h3; clear h1 h2 h3))
          go_roundg (src.size - (a + (runText isPart src a).length))
          case measure => rw [HK.out, HR.out]; omega
          case rel =>
            refine ⟨a + (runText isPart src a).length, ts ++ [⟨1, runText isPart src a, 0, a⟩], v2, rfl, by omega, by rw [List.length_append, HR.out]; simp; omega, J1.out, by rw [cellsOf_snoc, List.length_append]; exact J2.out, HB.out.trans J3.out, ?_⟩
            have hn := HOK.out
            unfold runText at hn ⊢
            rw [hdr.out] at hn
            rw [HL.out, hdr.out, lexAt_name H1.out hn, addToks_cons, ← hdr.out, List.drop_drop, List.length_take, Nat.min_eq_left (runLen_le _ _)]
        · have hok' : nameOk (runText isPart src a) = false := by simpa using hok
          have HOK := Lib.hid hok'; clear hok hok'
          go_wp2_with (first | (go_at_call 30; refine (class_any _ _).mono ?_; rintro e w' ⟨rfl, rfl⟩) | (go_at_call 27; refine (name_bad (w.heap.size + 1 + 1 + 1 + 1) a src v _ HS.out (by omega) hs (by omega) HOK.out).mono ?_; rintro e w2 ⟨rfl, h3⟩; have J3 := Lib.hid h3; clear h3; unfold placePanic))
          have hn := HOK.out
          unfold runText at hn
          rw [hdr.out] at hn
          refine door_err _ w.heap.size a _ w2 (.slice none 0 0) (.int .i64 0) (.int .i64 0) rfl rfl rfl ((J3.out.block _ (by omega)).trans ((HB.out.block _ (by omega)).trans G0.out)) ((J3.out.block _ (by omega)).trans ((HB.out.block _ (by omega)).trans G1.out)) ((J3.out.block _ (by omega)).trans ((HB.out.block _ (by omega)).trans G2.out)) ?_
          intro w3 hb3
          refine Or.inr ⟨a, ?_, rfl, ((GB.out.trans (HB.out.mono (by omega))).trans (J3.out.mono (by omega))).trans hb3⟩
          rw [HL.out, hdr.out, lexAt_name_bad H1.out hn]; rfl
      by_cases h3 : isDigit src[a] = true
      · have hf : wr.cell? ⟨w.heap.size + 1 + 1 + 1, (cls src[a].toNat).toNat, none⟩ = some (.func (.func 28) #[] #[]) := by
          have e : cls src[a].toNat = 3 := by unfold isDigit cl at h3; simpa using h3
          rw [e]; exact s3
        have H1 := Lib.hid h3
        clear s0 s1 s2 s3 s4 s5 h1 h2 h3
        have hrl := runText_len isDigit src a
        have hle := runText_le isDigit src a
        have hpos : 1 ≤ runLen isDigit (src.data.toList.drop a) := by rw [hdr.out, runLen_cons_pos H1.out]; omega
        have hne := Lib.hid (show runText isDigit src a ≠ [] from fun e => by rw [e] at hrl; simp at hrl; omega)
        have HR := Lib.hid hrl; clear hrl
        have HEr := Lib.hid (HE.out.below ((GB.out.trans (HB.out.mono (by omega)))))
        by_cases hok : numOk (runText isDigit src a) = true
        · have HOK := Lib.hid hok; clear hok
          go_wp2_with (first | (go_at_call 30; refine (class_any _ _).mono ?_; rintro e w' ⟨rfl, rfl⟩) | (go_at_call 28; refine (number_ok (w.heap.size + 1 + 1 + 1 + 1) (w.heap.size + 1 + 1 + 1 + 1 + 1) a ts.length src v (cellsOf ts) _ HEr.out HS.out HO.out (by omega) (by omega) hs (by omega) (by omega) hne.out HOK.out).mono ?_; rintro e w2 ⟨rfl, v2, h1, h2, h3⟩; have J1 := Lib.hid h1; have J2 := Lib.hid h2; have J3 := Lib.hid h3; clear h1 h2 h3))
          go_roundg (src.size - (a + (runText isDigit src a).length))
          case measure => rw [HK.out, HR.out]; omega
          case rel =>
            refine ⟨a + (runText isDigit src a).length, ts ++ [⟨2, [], value (runText isDigit src a), a⟩], v2, rfl, by omega, by rw [List.length_append, HR.out]; simp; omega, J1.out, by rw [cellsOf_snoc, List.length_append]; exact J2.out, HB.out.trans J3.out, ?_⟩
            have hn := HOK.out
            unfold runText at hn ⊢
            rw [hdr.out] at hn
            rw [HL.out, hdr.out, lexAt_number H1.out hn, addToks_cons, ← hdr.out, List.drop_drop, List.length_take, Nat.min_eq_left (runLen_le _ _)]
        · have hok' : numOk (runText isDigit src a) = false := by simpa using hok
          have HOK := Lib.hid hok'; clear hok hok'
          go_wp2_with (first | (go_at_call 30; refine (class_any _ _).mono ?_; rintro e w' ⟨rfl, rfl⟩) | (go_at_call 28; refine (number_bad (w.heap.size + 1 + 1 + 1 + 1) a src v _ HEr.out HS.out (by omega) hs (by omega) hne.out HOK.out).mono ?_; rintro e w2 ⟨rfl, h3⟩; have J3 := Lib.hid h3; clear h3; unfold placePanic))
          have hn := HOK.out
          unfold runText at hn
          rw [hdr.out] at hn
          refine door_err _ w.heap.size a _ w2 (.slice none 0 0) (.int .i64 0) (.int .i64 0) rfl rfl rfl ((J3.out.block _ (by omega)).trans ((HB.out.block _ (by omega)).trans G0.out)) ((J3.out.block _ (by omega)).trans ((HB.out.block _ (by omega)).trans G1.out)) ((J3.out.block _ (by omega)).trans ((HB.out.block _ (by omega)).trans G2.out)) ?_
          intro w3 hb3
          refine Or.inr ⟨a, ?_, rfl, ((GB.out.trans (HB.out.mono (by omega))).trans (J3.out.mono (by omega))).trans hb3⟩
          rw [HL.out, hdr.out, lexAt_number_bad H1.out hn]; rfl
      by_cases h4 : isSign src[a] = true
      · have hf : wr.cell? ⟨w.heap.size + 1 + 1 + 1, (cls src[a].toNat).toNat, none⟩ = some (.func (.func 29) #[] #[]) := by
          have e : cls src[a].toNat = 4 := by unfold isSign cl at h4; simpa using h4
          rw [e]; exact s4
        have H1 := Lib.hid h4
        clear s0 s1 s2 s3 s4 s5 h1 h2 h3 h4
        by_cases hc : (src.data.toList.drop a).take 2 = [47, 47]
        · have HC := Lib.hid hc; clear hc
          have hle := runLen_le (· != 10) (src.data.toList.drop a)
          have hpos : 1 ≤ runLen (· != 10) (src.data.toList.drop a) := by
            have h47 : src[a] = 47 := by have := HC.out; rw [hdr.out] at this; exact cl_sign_47 rfl this
            rw [hdr.out, runLen_cons_pos (by rw [h47]; decide)]; omega
          have hlen : (src.data.toList.drop a).length = src.size - a := by simp
          have HLN := Lib.hid hlen; clear hlen
          go_wp2_with (first | (go_at_call 30; refine (class_any _ _).mono ?_; rintro e w' ⟨rfl, rfl⟩) | (go_at_call 29; refine (sign_comment (w.heap.size + 1 + 1 + 1 + 1) (w.heap.size + 1 + 1 + 1 + 1 + 1) a ts.length src v (cellsOf ts) _ HS.out HO.out (by omega) (by omega) hs hlt HC.out).mono ?_; rintro e w2 ⟨rfl, h1, h2, h3⟩; have J1 := Lib.hid h1; have J2 := Lib.hid h2; have J3 := Lib.hid h3; clear h1 h2 h3))
          go_roundg (src.size - (a + runLen (· != 10) (src.data.toList.drop a)))
          case measure => rw [HK.out]; omega
          case rel =>
            refine ⟨a + runLen (· != 10) (src.data.toList.drop a), ts, v, rfl, by have := HLN.out; omega, by omega, J1.out, J2.out, HB.out.trans J3.out, ?_⟩
            have hn := HC.out
            rw [hdr.out] at hn
            rw [HL.out, hdr.out, lexAt_comment H1.out hn, ← hdr.out, List.drop_drop]
        · have HC := Lib.hid hc; clear hc
          go_wp2_with (first | (go_at_call 30; refine (class_any _ _).mono ?_; rintro e w' ⟨rfl, rfl⟩) | (go_at_call 29; refine (sign_tok (w.heap.size + 1 + 1 + 1 + 1) (w.heap.size + 1 + 1 + 1 + 1 + 1) a ts.length src v (cellsOf ts) _ HS.out HO.out (by omega) (by omega) hs hlt (by omega) H1.out HC.out).mono ?_; rintro e w2 ⟨rfl, v2, h1, h2, h3⟩; have J1 := Lib.hid h1; have J2 := Lib.hid h2; have J3 := Lib.hid h3; clear h1 h2 h3))
          go_roundg (src.size - (a + 1))
          case measure => rw [HK.out]; omega
          case rel =>
            refine ⟨a + 1, ts ++ [⟨3, [src[a]], 0, a⟩], v2, rfl, by omega, by rw [List.length_append]; simp; omega, J1.out, by rw [cellsOf_snoc, List.length_append]; exact J2.out, HB.out.trans J3.out, ?_⟩
            have hn := HC.out
            rw [hdr.out] at hn
            rw [HL.out, hdr.out, lexAt_sign H1.out hn, addToks_cons]
      · have hf : wr.cell? ⟨w.heap.size + 1 + 1 + 1, (cls src[a].toNat).toNat, none⟩ = some (.func (.func 25) #[] #[]) := by
          have e : cls src[a].toNat = 0 ∨ cls src[a].toNat = 5 := by
            unfold isSpace cl at h1; unfold isLetter cl at h2; unfold isDigit cl at h3; unfold isSign cl at h4
            simp at h1 h2 h3 h4; omega
          rcases e with e | e
          · rw [e]; exact s0
          · rw [e]; exact s5
        have hn := Lib.hid (lexAt_wrong (a := a) (r := src.data.toList.drop (a + 1)) (by simpa using h1) (by simpa using h2) (by simpa using h3) (by simpa using h4))
        clear s0 s1 s2 s3 s4 s5 h1 h2 h3 h4
        go_wp2_with (first | (go_at_call 30; refine (class_any _ _).mono ?_; rintro e w' ⟨rfl, rfl⟩) | (go_at_call 25; refine (wrong_any (w.heap.size + 1 + 1 + 1 + 1) a src v _ HS.out).mono ?_; rintro e w2 ⟨rfl, hw⟩; have J3 := Lib.hid (hw ▸ Below.refl wr.heap.size wr : Below wr.heap.size wr w2); clear hw; unfold placePanic))
        refine door_err _ w.heap.size a _ w2 (.slice none 0 0) (.int .i64 0) (.int .i64 0) rfl rfl rfl ((J3.out.block _ (by omega)).trans ((HB.out.block _ (by omega)).trans G0.out)) ((J3.out.block _ (by omega)).trans ((HB.out.block _ (by omega)).trans G1.out)) ((J3.out.block _ (by omega)).trans ((HB.out.block _ (by omega)).trans G2.out)) ?_
        intro w3 hb3
        refine Or.inr ⟨a, ?_, rfl, ((GB.out.trans (HB.out.mono (by omega))).trans (J3.out.mono (by omega))).trans hb3⟩
        rw [HL.out, hdr.out, hn.out]; rfl
    · have hae : a = src.size := by omega
      obtain ⟨ao, vl, vc, rfl⟩ := own_slice HO.out
      have g0 := cell_of_block ((HB.out.block _ (by omega)).trans G0.out) 0 (by simp)
      have g1 := cell_of_block ((HB.out.block _ (by omega)).trans G1.out) 0 (by simp)
      have g2 := cell_of_block ((HB.out.block _ (by omega)).trans G2.out) 0 (by simp)
      have e0 := free_of_block ((HB.out.block _ (by omega)).trans G0.out) 0
      have e1 := free_of_block ((HB.out.block _ (by omega)).trans G1.out) 0
      have e2 := free_of_block ((HB.out.block _ (by omega)).trans G2.out) 0
      simp at g0 g1 g2
      have HAE := Lib.hid hae
      clear s0 s1 s2 s3 s4 s5 hae
      go_wp2_with fail
      have k0 := (HB.out.block _ (by omega)).trans G0.out
      have k1 := (HB.out.block _ (by omega)).trans G1.out
      have k2 := (HB.out.block _ (by omega)).trans G2.out
      refine door_ok _ w.heap.size _ _ (.slice ao vl vc) (.int .i64 0) (.int .i64 0) rfl rfl rfl ?_ ?_ ?_ ?_
      · simp [go_sem, g0]
      · simp [go_sem, g1]
      · simp [go_sem, g2]
      · refine Or.inl ⟨ts, _, ?_, rfl, ?_, ?_⟩
        · rw [HL.out, List.drop_eq_nil_of_le (by simp; have := HAE.out; omega), lexAt_nil]; simp [addToks]
        · exact ownsRow_mono (ownsRow_setCell_below (ownsRow_setCell_below (ownsRow_setCell_below HO.out (by show w.heap.size < _; omega) _) (by show w.heap.size + 1 < _; omega) _) (by show w.heap.size + 1 + 1 < _; omega) _) (by omega)
        · exact (((GB.out.trans (HB.out.mono (by omega))).setCell (Nat.le_refl _) _).setCell (by show w.heap.size ≤ w.heap.size + 1; omega) _).setCell (by show w.heap.size ≤ w.heap.size + 1 + 1; omega) _
end Go.Proofs.YtabdpmcdlojliaaDoor

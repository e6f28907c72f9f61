/- Contracts and plain laws on the way to the statement: part 34. -/
import Derived.Test.YtbkemlgfdklpfaaGreatDoorV33
import Derived.Test.YtbkemlgfdklpfaaGreatDoorV1
import Derived.Deep.MidRow
import Derived.Laws.StructEq
import Derived.Test.YtbkemlgfdklpfaaGreatDoorV4
set_option autoImplicit true
set_option relaxedAutoImplicit true
set_option linter.unusedVariables false
set_option linter.unusedSimpArgs false
set_option maxRecDepth 100000
set_option maxHeartbeats 16000000
namespace Go.Proofs.YtbkemlgfdklpfaaGreatDoor
open Go.Value (int)
open Go.IntKind (i64)
section
open Go.RowKit
def SP(A B C:Int)(g:Nat)(W:World):World→Prop:=λw2=>w2.cell? ⟨g,0,none⟩=some (int i64 A)∧w2.cell? ⟨g,1,none⟩=some (int i64 B)∧w2.cell? ⟨g,2,none⟩=some (int i64 C)∧Below g W w2∧g<w2.heap.size
theorem ET(A B C x y z:Int)(g:Nat)(W w:World)(hl:∀w,Calls Tryz.prog 61 #[.agg #[int i64 A,int i64 B,int i64 C]] w λe w'=>e=.returned (.agg #[int i64 x,int i64 y,int i64 z])∧Below w.heap.size w w')
  (h:w.cell? ⟨g,0,none⟩=some (int i64 A)∧w.cell? ⟨g,1,none⟩=some (int i64 B)∧w.cell? ⟨g,2,none⟩=some (int i64 C)∧Below g W w∧g<w.heap.size) :
  Calls Tryz.prog 61 #[.agg #[int i64 A,int i64 B,int i64 C]] w λe w'=>e=.returned (.agg #[int i64 x,int i64 y,int i64 z])∧(w'.cell? ⟨g,0,none⟩=some (int i64 A)∧w'.cell? ⟨g,1,none⟩=some (int i64 B)∧w'.cell? ⟨g,2,none⟩=some (int i64 C)∧Below g W w'∧g<w'.heap.size) :=
 (hl w).mono λ_ _ ⟨he,hx⟩=>⟨he,(hx.cell (p:=⟨g,0,none⟩) h.2.2.2.2).trans h.1,(hx.cell (p:=⟨g,1,none⟩) h.2.2.2.2).trans h.2.1,(hx.cell (p:=⟨g,2,none⟩) h.2.2.2.2).trans h.2.2.1,h.2.2.2.1.trans (hx.mono (Nat.le_of_lt h.2.2.2.2)),Nat.lt_of_lt_of_le h.2.2.2.2 hx.size⟩
theorem FS(A B C:Int)(hA:1≤C)(h1:-1073741824≤A∧A≤1073741824)(h2:-1073741824≤B∧B≤1073741824)(h3:C≤1073741824):∃(x y z:Int) (bc:Bool),(∀w,Calls Tryz.prog 61 #[.agg #[int i64 A,int i64 B,int i64 C]] w λe w'=>e=.returned (.agg #[int i64 x,int i64 y,int i64 z])∧Below w.heap.size w w') ∧
  (∀w,(binOp .neq 34 (.agg #[int i64 x,int i64 y,int i64 z]) (.agg #[int i64 A,int i64 B,int i64 C])).run Tryz.prog w=.ok (.bool bc) w)∧bc=!decide (Nat.gcd (Nat.gcd A.natAbs B.natAbs) C.natAbs=1):=by
 refine ⟨A.tdiv (D9 A B C),B.tdiv (D9 A B C),C / D9 A B C,_,λw=>I8 A B C w (by omega) (by omega) (by omega),λw=>QU _ _ _ _ _ _ w,?_⟩;rw [Pf hA]
theorem Ll(A B C:Int)(hC:1≤C)(hF:C≤32768)(ho:A<B)(h0:¬A < -C)(h1:¬C<B)(h:A*A+B*B=C*C)(w:World):Calls Tryz.prog 50 #[.agg #[int i64 A,int i64 B,int i64 C]] w λe w'=>e=.returned (int i64 (D6 (EC A B C) 140))∧Below w.heap.size w w':=by
 have pa:=CA (a:=A) (by omega) (by omega);have pb:=CA (a:=B) (by omega) (by omega);have pc:=CA (a:=C) (by omega) (by omega);have HT:=qh (Kb hC hF (by omega) (by omega) (by omega) (by omega) h);obtain ⟨x,y,z,bc,hB,hq,hD⟩:=FS A B C hC (by omega) (by omega) (by omega);have HL:=qh hB;clear hB;have HB:=qh hD;clear hD
 skip
 have f1:decide (C<1)=false:=by simpa using by omega
 have f2:decide (32768<C)=false:=by simpa using by omega
 have m1:min A B=A:=by omega
 have m2:max A B=B:=by omega
 have m3:IntKind.i64.wrap (-C)=-C:=IntWalk.i64_in _ (by omega);have f3:decide (A < -C)=false:=by simpa using h0
 have f4:decide (C<B)=false:=by simpa using h1
 have hK:IntKind.i64.wrap (A*A)=A*A:=IntWalk.i64_in _ (by omega);have hL:IntKind.i64.wrap (B*B)=B*B:=IntWalk.i64_in _ (by omega);have hM:IntKind.i64.wrap (C*C)=C*C:=IntWalk.i64_in _ (by omega);have hN:IntKind.i64.wrap (A*A+B*B)=A*A+B*B:=IntWalk.i64_in _ (by omega);have f5:(A*A+B*B != C*C)=false:=by simpa using h
 have hG:(if B<A then B else A)=A:=if_neg (by omega);have hH:(if A<B then B else A)=B:=if_pos ho;have hI:IntKind.i64.wrap (-C)=-C:=IntWalk.i64_in _ (by omega);clear h h0 h1 pa pb pc;go_enter Tryz.func50,Tryz.ntmps50;go_wp2_with fail;have hS:SP A B C w.heap.size w (w.alloc (.cells #[int i64 A,int i64 B,int i64 C] 34)):=⟨Aa (heap_alloc_new w _) 0 rfl,Aa (heap_alloc_new w _) 1 rfl,Aa (heap_alloc_new w _) 2 rfl,(Below.refl _ _).alloc (qn _) _,by simp⟩;generalize w.alloc (.cells #[int i64 A,int i64 B,int i64 C] 34)=w0 at *;obtain ⟨c0,c1,c2,c3,c4⟩:=hS;have hE:=c3.drew;go_region_held3 (λw2=>w2.cell? ⟨w.heap.size,0,none⟩=some (int i64 A)∧w2.cell? ⟨w.heap.size,1,none⟩=some (int i64 B)∧w2.cell? ⟨w.heap.size,2,none⟩=some (int i64 C)∧Below w.heap.size w w2∧w.heap.size<w2.heap.size) (first|assumption|exact ⟨c0,c1,c2,hE,c4⟩|(refine ⟨?_,?_,?_,?_,?_⟩<;>first|assumption|go_keep))
  (first|(go_at_call 61;refine (ET A B C x y z w.heap.size w _ HL.out (by assumption)).mono ?_;rintro e w3 ⟨rfl,hd⟩))
 all_goals
  rename_i hA;have hJ:=qh hA.2.2.2.1;clear hA c0 c1 c2 c3 c4 hE;cases bc
 all_goals
  go_wp2_with fail;go_ret;exact ⟨AK (by rw [HT.out];simpa [D6] using HB.out),hJ.out⟩
theorem Lj(A B C:Int)(hC:1≤C)(hF:C≤32768)(ho:A=B)(h0:¬A < -C)(h1:¬C<A)(h:A*A+B*B=C*C)(w:World):Calls Tryz.prog 50 #[.agg #[int i64 A,int i64 B,int i64 C]] w λe w'=>e=.returned (int i64 (D6 (EC A B C) 140))∧Below w.heap.size w w':=by
 have pa:=CA (a:=A) (by omega) (by omega);have pb:=CA (a:=B) (by omega) (by omega);have pc:=CA (a:=C) (by omega) (by omega);have HT:=qh (Kb hC hF (by omega) (by omega) (by omega) (by omega) h);obtain ⟨x,y,z,bc,hB,hq,hD⟩:=FS A B C hC (by omega) (by omega) (by omega);have HL:=qh hB;clear hB;have HB:=qh hD;clear hD;subst ho;have f1:decide (C<1)=false:=by simpa using by omega
 have f2:decide (32768<C)=false:=by simpa using by omega
 have m1:min A A=A:=by omega
 have m2:max A A=A:=by omega
 have m3:IntKind.i64.wrap (-C)=-C:=IntWalk.i64_in _ (by omega);have f3:decide (A < -C)=false:=by simpa using h0
 have f4:decide (C<A)=false:=by simpa using h1
 have hI:IntKind.i64.wrap (A*A)=A*A:=IntWalk.i64_in _ (by omega);have hJ:IntKind.i64.wrap (A*A)=A*A:=IntWalk.i64_in _ (by omega);have hK:IntKind.i64.wrap (C*C)=C*C:=IntWalk.i64_in _ (by omega);have hL:IntKind.i64.wrap (A*A+A*A)=A*A+A*A:=IntWalk.i64_in _ (by omega);have f5:(A*A+A*A != C*C)=false:=by simpa using h
 have hG:IntKind.i64.wrap (-C)=-C:=IntWalk.i64_in _ (by omega);clear h h0 h1 pa pb pc;go_enter Tryz.func50,Tryz.ntmps50;go_wp2_with fail;have hS:SP A A C w.heap.size w (w.alloc (.cells #[int i64 A,int i64 A,int i64 C] 34)):=⟨Aa (heap_alloc_new w _) 0 rfl,Aa (heap_alloc_new w _) 1 rfl,Aa (heap_alloc_new w _) 2 rfl,(Below.refl _ _).alloc (qn _) _,by simp⟩;generalize w.alloc (.cells #[int i64 A,int i64 A,int i64 C] 34)=w0 at *;obtain ⟨c0,c1,c2,c3,c4⟩:=hS;have hE:=c3.drew;go_region_held3 (λw2=>w2.cell? ⟨w.heap.size,0,none⟩=some (int i64 A)∧w2.cell? ⟨w.heap.size,1,none⟩=some (int i64 A)∧w2.cell? ⟨w.heap.size,2,none⟩=some (int i64 C)∧Below w.heap.size w w2∧w.heap.size<w2.heap.size) (first|assumption|exact ⟨c0,c1,c2,hE,c4⟩|(refine ⟨?_,?_,?_,?_,?_⟩<;>first|assumption|go_keep))
  (first|(go_at_call 61;refine (ET A A C x y z w.heap.size w _ HL.out (by assumption)).mono ?_;rintro e w3 ⟨rfl,hd⟩))
 all_goals
  rename_i hA;have hH:=qh hA.2.2.2.1;clear hA c0 c1 c2 c3 c4 hE;cases bc
 all_goals
  go_wp2_with fail;go_ret;exact ⟨AK (by rw [HT.out];simpa [D6] using HB.out),hH.out⟩
theorem Lk(A B C:Int)(hC:1≤C)(hF:C≤32768)(ho:B<A)(h0:¬B < -C)(h1:¬C<A)(h:A*A+B*B=C*C)(w:World):Calls Tryz.prog 50 #[.agg #[int i64 A,int i64 B,int i64 C]] w λe w'=>e=.returned (int i64 (D6 (EC A B C) 140))∧Below w.heap.size w w':=by
 have pa:=CA (a:=A) (by omega) (by omega);have pb:=CA (a:=B) (by omega) (by omega);have pc:=CA (a:=C) (by omega) (by omega);have HT:=qh (Kb hC hF (by omega) (by omega) (by omega) (by omega) h);obtain ⟨x,y,z,bc,hB,hq,hD⟩:=FS A B C hC (by omega) (by omega) (by omega);have HL:=qh hB;clear hB;have HB:=qh hD;clear hD
 skip
 have f1:decide (C<1)=false:=by simpa using by omega
 have f2:decide (32768<C)=false:=by simpa using by omega
 have m1:min A B=B:=by omega
 have m2:max A B=A:=by omega
 have m3:IntKind.i64.wrap (-C)=-C:=IntWalk.i64_in _ (by omega);have f3:decide (B < -C)=false:=by simpa using h0
 have f4:decide (C<A)=false:=by simpa using h1
 have hK:IntKind.i64.wrap (A*A)=A*A:=IntWalk.i64_in _ (by omega);have hL:IntKind.i64.wrap (B*B)=B*B:=IntWalk.i64_in _ (by omega);have hM:IntKind.i64.wrap (C*C)=C*C:=IntWalk.i64_in _ (by omega);have hN:IntKind.i64.wrap (A*A+B*B)=A*A+B*B:=IntWalk.i64_in _ (by omega);have f5:(A*A+B*B != C*C)=false:=by simpa using h
 have hG:(if B<A then B else A)=B:=if_pos ho;have hH:(if A<B then B else A)=A:=if_neg (by omega);have hI:IntKind.i64.wrap (-C)=-C:=IntWalk.i64_in _ (by omega);clear h h0 h1 pa pb pc;go_enter Tryz.func50,Tryz.ntmps50;go_wp2_with fail;have hS:SP A B C w.heap.size w (w.alloc (.cells #[int i64 A,int i64 B,int i64 C] 34)):=⟨Aa (heap_alloc_new w _) 0 rfl,Aa (heap_alloc_new w _) 1 rfl,Aa (heap_alloc_new w _) 2 rfl,(Below.refl _ _).alloc (qn _) _,by simp⟩;generalize w.alloc (.cells #[int i64 A,int i64 B,int i64 C] 34)=w0 at *;obtain ⟨c0,c1,c2,c3,c4⟩:=hS;have hE:=c3.drew;go_region_held3 (λw2=>w2.cell? ⟨w.heap.size,0,none⟩=some (int i64 A)∧w2.cell? ⟨w.heap.size,1,none⟩=some (int i64 B)∧w2.cell? ⟨w.heap.size,2,none⟩=some (int i64 C)∧Below w.heap.size w w2∧w.heap.size<w2.heap.size) (first|assumption|exact ⟨c0,c1,c2,hE,c4⟩|(refine ⟨?_,?_,?_,?_,?_⟩<;>first|assumption|go_keep))
  (first|(go_at_call 61;refine (ET A B C x y z w.heap.size w _ HL.out (by assumption)).mono ?_;rintro e w3 ⟨rfl,hd⟩))
 all_goals
  rename_i hA;have hJ:=qh hA.2.2.2.1;clear hA c0 c1 c2 c3 c4 hE;cases bc
 all_goals
  go_wp2_with fail;go_ret;exact ⟨AK (by rw [HT.out];simpa [D6] using HB.out),hJ.out⟩
theorem Qq(A B C:Int)(w:World):Calls Tryz.prog 50 #[.agg #[int i64 A,int i64 B,int i64 C]] w λe w'=>e=.returned (int i64 (D6 (EC A B C) 140))∧Below w.heap.size w w':=by
 have bad:EC A B C=false→(Calls Tryz.prog 50 #[.agg #[int i64 A,int i64 B,int i64 C]] w λe w'=>e=.returned (int i64 140)∧Below w.heap.size w w')→Calls Tryz.prog 50 #[.agg #[int i64 A,int i64 B,int i64 C]] w λe w'=>e=.returned (int i64 (D6 (EC A B C) 140))∧Below w.heap.size w w' :=
  λh hc=>hc.mono λe w' ⟨he,hb⟩=>⟨by rw [he,h];rfl,hb⟩
 by_cases hc:C<1∨32768<C
 ·exact bad (Vb hc) (Sl A B C hc w)
 have hA:1≤C:=by omega
 have hB:C≤32768:=by omega
 clear hc;rcases Int.lt_trichotomy A B with ho|ho|ho
 ·by_cases h0:A < -C
  ·exact bad (Jm (by omega)) (Lf A B C hA hB ho h0 w)
  by_cases h1:C<B
  ·exact bad (Jm (by omega)) (Lc A B C hA hB ho h0 h1 w)
  by_cases h:A*A+B*B=C*C
  ·exact Ll A B C hA hB ho h0 h1 h w
  ·exact bad (Mr h) (Li A B C hA hB ho h0 h1 h w)
 ·by_cases h0:A < -C
  ·exact bad (Jm (by omega)) (Ld A B C hA hB ho h0 w)
  by_cases h1:C<A
  ·exact bad (Jm (by omega)) (La A B C hA hB ho h0 h1 w)
  by_cases h:A*A+B*B=C*C
  ·exact Lj A B C hA hB ho h0 h1 h w
  ·exact bad (Mr h) (Lg A B C hA hB ho h0 h1 h w)
 ·by_cases h0:B < -C
  ·exact bad (Jm (by omega)) (Le A B C hA hB ho h0 w)
  by_cases h1:C<A
  ·exact bad (Jm (by omega)) (Lb A B C hA hB ho h0 h1 w)
  by_cases h:A*A+B*B=C*C
  ·exact Lk A B C hA hB ho h0 h1 h w
  ·exact bad (Mr h) (Lh A B C hA hB ho h0 h1 h w)
def Av(s:Sgn):List Value:=[int i64 s.id,int i64 s.role,int i64 s.bar,int i64 s.mark,int i64 s.kind,int i64 s.side,int i64 s.dir,int i64 s.level,int i64 s.size,int i64 s.wth,int i64 s.fn,int i64 s.fd,int i64 s.tn,int i64 s.td]
theorem LR(s:Sgn)(roles:Int)(h:inB s.kind 1 9=true):Cm s.kind.toNat s.side s.dir s.level s.size s.wth roles=JD s roles:=by
 obtain ⟨h1,h2⟩:=AL.1 h;obtain ⟨k,hk⟩:∃k:Nat,s.kind=(k:Int):=⟨s.kind.toNat,by omega⟩;unfold JD Cm;rw [hk] at h1 h2 ⊢;have:k=1∨k=2∨k=3∨k=4∨k=5∨k=6∨k=7∨k=8∨k=9:=by omega
 rcases this with rfl|rfl|rfl|rfl|rfl|rfl|rfl|rfl|rfl<;>simp [Cl,Dr,Fi,Dt,Cn,C5,D7]
theorem O7(s:Sgn)(roles bars:Int):D4 s.role s.bar s.mark s.kind s.side s.dir s.level s.size s.wth s.fn s.fd s.tn s.td roles bars=EW s roles bars:=by
 unfold D4 EW
 cases h:inB s.kind 1 9 with
 | false=>simp
 | true=>rw [LR s roles h];rfl
theorem Ng{c:Clk}(h:C8 c=0):1≤c.bars∧c.bars≤4096:=by
 unfold C8 at h
 split at h
 ·split at h
  ·rename_i h1 h2
   unfold E8 C7 at h2;simp only [Bool.and_eq_true] at h2;exact AL.1 h2.1.1.1.1.1
  ·exact absurd h (by decide)
 ·exact absurd h (by decide)
theorem Sr{k:Wrk}(h:64<k.roles.length∨4096<k.signs.length):2=Dc k:=by
 unfold Dc F8;rcases h with h|h<;>simp [h]<;>(intro h1;omega)
theorem Sq{k:Wrk}(h1:k.roles.length≤64)(h2:k.signs.length≤4096)(h:¬C8 k.clock=0):C8 k.clock=Dc k:=by
 unfold Dc F8;rw [decide_eq_true h1,decide_eq_true h2];simp [h]
theorem Sp{k:Wrk}(h1:k.roles.length≤64)(h2:k.signs.length≤4096)(h:C8 k.clock=0)(hb:Gt k=false):190=Dc k:=by
 unfold Dc F8;rw [decide_eq_true h1,decide_eq_true h2];simp [h,hb]
theorem TW{k:Wrk}(h1:k.roles.length≤64)(h2:k.signs.length≤4096)(h:C8 k.clock=0)(hb:Gt k=true):0=Dc k:=by
 unfold Dc F8;rw [decide_eq_true h1,decide_eq_true h2];simp [h,hb]
theorem DK{k:Wrk}(h:CO k=false):Gt k=false:=by unfold Gt;rw [h];rfl
theorem FX{k:Wrk}(h:k.roles.all (Fv k.width k.depth)=false):Gt k=false:=by unfold Gt;rw [h];simp
theorem FY{k:Wrk}(h:BV k.roles.length k.clock.bars (-1) k.signs=false):Gt k=false:=by unfold Gt;rw [h];simp
theorem LI(wd dp ta tb tc bars:Int)(aR aT aP aX aS:Option Addr)(cR cT cP cX cS:Nat)(rs:List Rol)(ts:List Tmp)(ps:List Pau)(xs:List Con)(ss:List Sgn)(w:World)(hE:EnvK w)
  (hR:IsRow CT 4 w (.slice aR rs.length cR) rs) (hT:IsRow BS 3 w (.slice aT ts.length cT) ts) (hP:IsRow Cx 4 w (.slice aP ps.length cP) ps) (hX:IsRow Cw 4 w (.slice aX xs.length cX) xs) (hS:IsRow Av 14 w (.slice aS ss.length cS) ss) (hl:64<rs.length∨4096<ss.length):Calls Tryz.prog 17 #[.agg #[int i64 wd,int i64 dp,int i64 ta,int i64 tb,int i64 tc,.slice aR rs.length cR,int i64 bars,.slice aT ts.length cT,.slice aP ps.length cP,.slice aX xs.length cX,.slice aS ss.length cS]] w λe w'=>e=.returned (int i64 (Dc ⟨wd,dp,ta,tb,tc,rs,⟨bars,ts,ps,xs⟩,ss⟩))∧Below w.heap.size w w':=by
 have WL:=qh (Sr (k:=⟨wd,dp,ta,tb,tc,rs,⟨bars,ts,ps,xs⟩,ss⟩) hl);clear hE hR hT hP hX hS;generalize Dc ⟨wd,dp,ta,tb,tc,rs,⟨bars,ts,ps,xs⟩,ss⟩=ans at *;generalize rs.length=nR at *;generalize ts.length=nT at *;generalize ps.length=nP at *;generalize xs.length=nX at *;generalize ss.length=nS at *;by_cases h1:64<nR
 ·have f1:(64:Int)<(nR:Int):=by omega
  clear hl h1;go_enter Tryz.func17,Tryz.ntmps17;go_wp2_with fail;go_ret;exact ⟨AK WL.out,(Below.refl _ w).alloc (qn _) _⟩
 ·have f1:¬(64:Int)<(nR:Int):=by omega
  have f2:(4096:Int)<(nS:Int):=by omega
  clear hl h1;go_enter Tryz.func17,Tryz.ntmps17;go_wp2_with fail;go_ret;exact ⟨AK WL.out,(Below.refl _ w).alloc (qn _) _⟩
theorem atR{w:World}{b o i:Nat}{ts:List Rol}{t:Rol}(h:AtRow CT 4 w b o ts)(ht:ts[i]?=some t) :
  w.cell? ⟨b,o+i*4,none⟩=some (.string ⟨t.name.toArray⟩)∧w.cell? ⟨b,o+i*4+1,none⟩=some (int i64 t.x)∧w.cell? ⟨b,o+i*4+2,none⟩=some (int i64 t.y)∧w.cell? ⟨b,o+i*4+3,none⟩=some (int i64 t.face) :=
 ⟨h i t ht 0 _ rfl,h i t ht 1 _ rfl,h i t ht 2 _ rfl,h i t ht 3 _ rfl⟩
theorem atS{w:World}{b o i:Nat}{ts:List Sgn}{t:Sgn}(h:AtRow Av 14 w b o ts)(ht:ts[i]?=some t) :
  w.cell? ⟨b,o+i*14,none⟩=some (int i64 t.id)∧w.cell? ⟨b,o+i*14+1,none⟩=some (int i64 t.role)∧w.cell? ⟨b,o+i*14+2,none⟩=some (int i64 t.bar)∧w.cell? ⟨b,o+i*14+3,none⟩=some (int i64 t.mark)∧w.cell? ⟨b,o+i*14+4,none⟩=some (int i64 t.kind)∧w.cell? ⟨b,o+i*14+5,none⟩=some (int i64 t.side)∧w.cell? ⟨b,o+i*14+6,none⟩=some (int i64 t.dir)∧w.cell? ⟨b,o+i*14+7,none⟩=some (int i64 t.level)∧w.cell? ⟨b,o+i*14+8,none⟩=some (int i64 t.size)∧w.cell? ⟨b,o+i*14+9,none⟩=some (int i64 t.wth)∧w.cell? ⟨b,o+i*14+10,none⟩=some (int i64 t.fn)∧w.cell? ⟨b,o+i*14+11,none⟩=some (int i64 t.fd)∧w.cell? ⟨b,o+i*14+12,none⟩=some (int i64 t.tn)∧w.cell? ⟨b,o+i*14+13,none⟩=some (int i64 t.td) :=
 ⟨h i t ht 0 _ rfl,h i t ht 1 _ rfl,h i t ht 2 _ rfl,h i t ht 3 _ rfl,h i t ht 4 _ rfl,h i t ht 5 _ rfl,h i t ht 6 _ rfl,h i t ht 7 _ rfl,h i t ht 8 _ rfl,h i t ht 9 _ rfl,h i t ht 10 _ rfl,h i t ht 11 _ rfl,h i t ht 12 _ rfl,h i t ht 13 _ rfl⟩
theorem Kr(wd dp ta tb tc bars:Int)(aR aT aP aX aS:Option Addr)(cR cT cP cX cS:Nat)(rs:List Rol)(ts:List Tmp)(ps:List Pau)(xs:List Con)(ss:List Sgn)(w:World)(hE:EnvK w)
  (hR:IsRow CT 4 w (.slice aR rs.length cR) rs) (hT:IsRow BS 3 w (.slice aT ts.length cT) ts) (hP:IsRow Cx 4 w (.slice aP ps.length cP) ps) (hX:IsRow Cw 4 w (.slice aX xs.length cX) xs) (hS:IsRow Av 14 w (.slice aS ss.length cS) ss) (he:rs.length≤64) (hf:ss.length≤4096):Calls Tryz.prog 17 #[.agg #[int i64 wd,int i64 dp,int i64 ta,int i64 tb,int i64 tc,.slice aR rs.length cR,int i64 bars,.slice aT ts.length cT,.slice aP ps.length cP,.slice aX xs.length cX,.slice aS ss.length cS]] w λe w'=>e=.returned (int i64 (Dc ⟨wd,dp,ta,tb,tc,rs,⟨bars,ts,ps,xs⟩,ss⟩))∧Below w.heap.size w w':=by
 have hZ:=λ(w:World) h1 h2 h3=>Is bars aT aP aX cT cP cX ts ps xs w h1 h2 h3
 generalize hG:(⟨wd,dp,ta,tb,tc,rs,⟨bars,ts,ps,xs⟩,ss⟩:Wrk)=wk;have k1:wk.width=wd:=by rw [← hG]
 have k2:wk.depth=dp:=by rw [← hG]
 have k3:wk.ta=ta:=by rw [← hG]
 have k4:wk.tb=tb:=by rw [← hG]
 have k5:wk.tc=tc:=by rw [← hG]
 have k6:wk.roles=rs:=by rw [← hG]
 have k7:wk.clock=⟨bars,ts,ps,xs⟩:=by rw [← hG]
 have k8:wk.signs=ss:=by rw [← hG]
 have k9:wk.clock.bars=bars:=by rw [← hG]
 have hK:=λh hb=>Sp (k:=wk) (by rw [k6];exact he) (by rw [k8];exact hf) h hb
 have hD:=λh hb=>TW (k:=wk) (by rw [k6];exact he) (by rw [k8];exact hf) h hb
 have hL:=λh=>Sq (k:=wk) (by rw [k6];exact he) (by rw [k8];exact hf) h
 rw [← k7] at hZ;obtain ⟨clk,k10⟩:∃clk,wk.clock=clk:=⟨_,rfl⟩;rw [k10] at hZ hK hD hL k9;have K10:=qh k10;clear k10;have K1:=qh k1;have K2:=qh k2;have K3:=qh k3;have K4:=qh k4;have K5:=qh k5;have K6:=qh k6;have K8:=qh k8;have K9:=qh k9;have hA:=qh hK;have hO:=qh hD;have hQ:=qh hL;clear hG k1 k2 k3 k4 k5 k6 k7 k8 k9 hK hD hL;have HE:=qh hE;have HR:=qh hR;have HT:=qh hT;have HP:=qh hP;have HX:=qh hX;have HS:=qh hS;have hn:=qh hZ;clear hE hR hT hP hX hS hZ;generalize ho:rs.length=nR at *;generalize hp:ss.length=nS at *;generalize ts.length=nT at *;generalize ps.length=nP at *;generalize xs.length=nX at *;have NR:=qh ho;have NS:=qh hp;clear ho hp;have f1:¬(64:Int)<(nR:Int):=by omega
 have f2:¬(4096:Int)<(nS:Int):=by omega
 have b0:Below w.heap.size w (w.alloc (.cells #[int i64 wd,int i64 dp,int i64 ta,int i64 tb,int i64 tc,.slice aR nR cR,int i64 bars,.slice aT nT cT,.slice aP nP cP,.slice aX nX cX,.slice aS nS cS] 39)):=(Below.refl _ w).alloc (qn _) _;have g0:=heap_alloc_new w (.cells #[int i64 wd,int i64 dp,int i64 ta,int i64 tb,int i64 tc,.slice aR nR cR,int i64 bars,.slice aT nT cT,.slice aP nP cP,.slice aX nX cX,.slice aS nS cS] 39);have hg:w.heap.size<(w.alloc (.cells #[int i64 wd,int i64 dp,int i64 ta,int i64 tb,int i64 tc,.slice aR nR cR,int i64 bars,.slice aT nT cT,.slice aP nP cP,.slice aX nX cX,.slice aS nS cS] 39)).heap.size:=by simp
 go_enter Tryz.func17,Tryz.ntmps17;go_wp2_with fail;clear f1 f2;generalize w.alloc (.cells #[int i64 wd,int i64 dp,int i64 ta,int i64 tb,int i64 tc,.slice aR nR cR,int i64 bars,.slice aT nT cT,.slice aP nP cP,.slice aX nX cX,.slice aS nS cS] 39)=w0 at *;refine (hn.out w0 (HT.out.below b0 (qn _)) (HP.out.below b0 (qn _)) (HX.out.below b0 (qn _))).mono ?_;rintro e w1 ⟨rfl,ha⟩;have hU:=qh (b0.trans (ha.mono (by omega)));have G1:=qh ((ha.block _ hg).trans g0);have hh:w.heap.size<w1.heap.size:=Nat.lt_of_lt_of_le hg ha.size;clear b0 g0 hg ha HT HP HX hn;by_cases hc:C8 clk=0
 rotate_left
 ·have f1:(C8 clk != 0)=true:=by simpa using hc
  have HC:=qh hc;clear hc;go_wp2_with fail;go_ret;exact ⟨AK (hQ.out HC.out),hU.out⟩
 have HC:=qh hc;have hV:=Ng hc;rw [K9.out] at hV;rw [hc];clear hc hQ;have c0:w1.cell? ⟨w.heap.size,0,none⟩=some (int i64 wd):=Aa G1.out 0 rfl;have c1:w1.cell? ⟨w.heap.size,1,none⟩=some (int i64 dp):=Aa G1.out 1 rfl;have c2:w1.cell? ⟨w.heap.size,2,none⟩=some (int i64 ta):=Aa G1.out 2 rfl;have c3:w1.cell? ⟨w.heap.size,3,none⟩=some (int i64 tb):=Aa G1.out 3 rfl;have c4:w1.cell? ⟨w.heap.size,4,none⟩=some (int i64 tc):=Aa G1.out 4 rfl;have c5:w1.cell? ⟨w.heap.size,5,none⟩=some (.slice aR nR cR):=Aa G1.out 5 rfl;go_wp2_with fail;refine (AQ wd 1 1000 _).mono ?_;rintro e w' ⟨rfl,rfl⟩
 cases q1:inB wd 1 1000 with
 | false =>
  go_wp2_with fail;go_ret;exact ⟨AK (hA.out HC.out (DK (by unfold CO;simp [K1.out,K2.out,K3.out,K4.out,K5.out,K6.out,q1]))),hU.out⟩
 | true =>
  have Q1:=qh q1;clear q1;go_wp2_with fail;refine (AQ dp 1 1000 _).mono ?_;rintro e w' ⟨rfl,rfl⟩
  cases q2:inB dp 1 1000 with
  | false =>
   go_wp2_with fail;go_ret;exact ⟨AK (hA.out HC.out (DK (by unfold CO;simp [K1.out,K2.out,K3.out,K4.out,K5.out,K6.out,q2]))),hU.out⟩
  | true =>
   have Q2:=qh q2;clear q2;go_wp2_with fail;refine (Qq ta tb tc _).mono ?_;rintro e w2 ⟨rfl,hd⟩;have hN:=qh (hU.out.trans (hd.mono (by omega)));have G2:=qh ((hd.block _ hh).trans G1.out);have hq:w.heap.size<w2.heap.size:=Nat.lt_of_lt_of_le hh hd.size;clear c0 c1 c2 c3 c4 c5 hd hU G1 hh;have c2:w2.cell? ⟨w.heap.size,2,none⟩=some (int i64 ta):=Aa G2.out 2 rfl;have c3:w2.cell? ⟨w.heap.size,3,none⟩=some (int i64 tb):=Aa G2.out 3 rfl;have c5:w2.cell? ⟨w.heap.size,5,none⟩=some (.slice aR nR cR):=Aa G2.out 5 rfl
   cases q3:EC ta tb tc with
   | false =>
    have f3:(D6 false 140 != 0)=true:=rfl;go_wp2_with fail;go_ret;exact ⟨AK (hA.out HC.out (DK (by unfold CO;simp [K1.out,K2.out,K3.out,K4.out,K5.out,K6.out,q3]))),hN.out⟩
   | true =>
    have f3:(D6 true 140 != 0)=false:=rfl;have Q3:=qh q3;clear q3
    cases q4:decide (ta<0) with
    | true =>
     have Q4:=qh (of_decide_eq_true q4);go_wp2_with fail;go_ret;exact ⟨AK (hA.out HC.out (DK (by unfold CO;simp [K1.out,K2.out,K3.out,K4.out,K5.out,K6.out,show ¬0≤ta from by have:=Q4.out;omega]))),hN.out⟩
    | false =>
     have Q4:=qh (of_decide_eq_false q4)
     cases q5:decide (tb<0) with
     | true =>
      have Q5:=qh (of_decide_eq_true q5);go_wp2_with fail;go_ret;exact ⟨AK (hA.out HC.out (DK (by unfold CO;simp [K1.out,K2.out,K3.out,K4.out,K5.out,K6.out,show ¬0≤tb from by have:=Q5.out;omega]))),hN.out⟩
     | false =>
      have Q5:=qh (of_decide_eq_false q5)
      cases q6:((nR:Int)==0) with
      | true =>
       have Q6:=qh q6;go_wp2_with fail;go_ret;exact ⟨AK (hA.out HC.out (DK (by unfold CO;have h0:rs=[]:=List.length_eq_zero_iff.1 (by rw [NR.out];have:=Q6.out;simp at this;omega);simp [K1.out,K2.out,K3.out,K4.out,K5.out,K6.out,h0]))),hN.out⟩
      | false =>
       have Q6:=qh q6
       have hi:Hid (CO wk=true):=qh (by
        have h0:rs≠[]:=by
         intro h;have h1:=Q6.out;rw [← NR.out,h] at h1;simp at h1
        have h4:0≤ta:=by have:=Q4.out;omega
        have h5:0≤tb:=by have:=Q5.out;omega
        unfold CO;simp [K1.out,K2.out,K3.out,K4.out,K5.out,K6.out,Q1.out,Q2.out,Q3.out,h4,h5,h0])
       go_wp2_with fail;clear f3 q4 q5 q6 Q1 Q2 Q3 Q4 Q5 Q6 c2 c3 c5;go_loopw [62] (λiv wr=>∃k:Nat,k≤nR∧iv=int i64 k∧Hid (rs.all (Fv wd dp)=(rs.drop k).all (Fv wd dp))∧w.heap.size<wr.heap.size∧Hid (wr.heap[w.heap.size]?=some (.cells #[int i64 wd,int i64 dp,int i64 ta,int i64 tb,int i64 tc,.slice aR nR cR,int i64 bars,.slice aT nT cT,.slice aP nP cP,.slice aX nX cX,.slice aS nS cS] 39 (0,0)))∧Hid (Below w.heap.size w wr)) (λiv _=>nR-(intOf iv).toNat)
       case atStart=>exact ⟨0,Nat.zero_le _,rfl,qh rfl,hq,G2,hN⟩
       case round =>
        clear hN G2 hq;obtain ⟨k,hk,rfl,hB,hW,hJ,hC⟩:=hrel;by_cases hj:k<nR
        ·obtain ⟨t,ht⟩:∃t,rs[k]?=some t:=⟨_,qg (by rw [NR.out];exact hj)⟩
         obtain ⟨bp,op,hl,hF,hM⟩:=HR.out.block ht;subst hl;obtain ⟨p0,p1,p2,p3⟩:=atR (hF.below hC.out hM) ht;have hu:bp<wr.heap.size:=by have:=hC.out.size;omega
         clear hF;have hH:=qh ht;clear ht;have hm:(k:Int)<(nR:Int):=by omega
         have x0:=(Below.heap_alloc wr (.cells #[.string ⟨t.name.toArray⟩,int i64 t.x,int i64 t.y,int i64 t.face] 73) w.heap.size hW).trans hJ.out;have x2:=heap_alloc_new wr (.cells #[.string ⟨t.name.toArray⟩,int i64 t.x,int i64 t.y,int i64 t.face] 73);have x3:Below w.heap.size w (wr.alloc (.cells #[.string ⟨t.name.toArray⟩,int i64 t.x,int i64 t.y,int i64 t.face] 73)):=hC.out.alloc (by omega) _;have x4:w.heap.size<(wr.alloc (.cells #[.string ⟨t.name.toArray⟩,int i64 t.x,int i64 t.y,int i64 t.face] 73)).heap.size:=by simp;omega
         have l1:(wr.alloc (.cells #[.string ⟨t.name.toArray⟩,int i64 t.x,int i64 t.y,int i64 t.face] 73)).cell? ⟨wr.heap.size,1,none⟩=some (int i64 t.x):=Aa x2 1 rfl;have c0:(wr.alloc (.cells #[.string ⟨t.name.toArray⟩,int i64 t.x,int i64 t.y,int i64 t.face] 73)).cell? ⟨w.heap.size,0,none⟩=some (int i64 wd):=Aa x0 0 rfl;have X0:=qh x0;have X2:=qh x2;have hI:=qh x3;clear x0 x2 x3;go_wp2_with fail;generalize wr.alloc (.cells #[.string ⟨t.name.toArray⟩,int i64 t.x,int i64 t.y,int i64 t.face] 73)=w5 at *;generalize wr.heap.size=gw at *;clear p0 p1 p2 p3;have c1:w5.cell? ⟨w.heap.size,1,none⟩=some (int i64 dp):=Aa X0.out 1 rfl;have l2:w5.cell? ⟨gw,2,none⟩=some (int i64 t.y):=Aa X2.out 2 rfl;have l3:w5.cell? ⟨gw,3,none⟩=some (int i64 t.face):=Aa X2.out 3 rfl;clear X2 hJ hC;refine (AQ t.x 0 wd _).mono ?_;rintro e w' ⟨rfl,rfl⟩
         cases q0:inB t.x 0 wd with
         | false =>
          go_wp2_with fail;go_ret;exact ⟨AK (hA.out HC.out (FX (by rw [K6.out,K1.out,K2.out,hB.out,Ck hH.out];simp [Fv,q0]))),hI.out⟩
         | true =>
          have Q0:=qh q0;clear q0;go_wp2_with fail;refine (AQ t.y 0 dp _).mono ?_;rintro e w' ⟨rfl,rfl⟩
          cases q1:inB t.y 0 dp with
          | false =>
           go_wp2_with fail;go_ret;exact ⟨AK (hA.out HC.out (FX (by rw [K6.out,K1.out,K2.out,hB.out,Ck hH.out];simp [Fv,q1]))),hI.out⟩
          | true =>
           have Q1:=qh q1;clear q1;go_wp2_with fail;refine (AQ t.face 0 7 _).mono ?_;rintro e w' ⟨rfl,rfl⟩
           cases q2:inB t.face 0 7 with
           | false =>
            go_wp2_with fail;go_ret;exact ⟨AK (hA.out HC.out (FX (by rw [K6.out,K1.out,K2.out,hB.out,Ck hH.out];simp [Fv,q2]))),hI.out⟩
           | true =>
            have Q2:=qh q2;clear q2;go_wp2_with fail;go_roundw
            case rel=>exact ⟨k+1,by omega,by go_num,qh (by rw [hB.out,Ck hH.out];simp [Fv,Q0.out,Q1.out,Q2.out]),x4,X0,hI⟩
            case measure=>simp [intOf];omega
        ·obtain rfl:nR=k:=by omega
         have hr:¬(nR:Int)<(nR:Int):=by omega
         have RM:Hid (rs.all (Fv wd dp)=true):=qh (by rw [hB.out,List.drop_of_length_le (by rw [NR.out];exact qn _)];rfl);clear hB;have c10:wr.cell? ⟨w.heap.size,10,none⟩=some (.slice aS nS cS):=Aa hJ.out 10 rfl;go_wp2_with fail;clear c10 hr;go_loopw [6,90] (λlv iv wr=>∃(k:Nat) (last:Int),k≤nS∧iv=int i64 k∧lv=int i64 last∧Hid (BV nR bars (-1) ss=BV nR bars last (ss.drop k))∧w.heap.size<wr.heap.size∧Hid (wr.heap[w.heap.size]?=some (.cells #[int i64 wd,int i64 dp,int i64 ta,int i64 tb,int i64 tc,.slice aR nR cR,int i64 bars,.slice aT nT cT,.slice aP nP cP,.slice aX nX cX,.slice aS nS cS] 39 (0,0)))∧Hid (Below w.heap.size w wr)) (λ_ iv _=>nS-(intOf iv).toNat)
         case atStart=>exact ⟨0,-1,Nat.zero_le _,rfl,rfl,qh rfl,hW,hJ,hC⟩
         case round =>
          clear hW hJ hC;obtain ⟨k,last,hk,rfl,rfl,hB,hW,hJ,hC⟩:=hrel;by_cases hj:k<nS
          ·obtain ⟨t,ht⟩:∃t,ss[k]?=some t:=⟨_,qg (by rw [NS.out];exact hj)⟩
           obtain ⟨bp,op,hl,hF,hM⟩:=HS.out.block ht;subst hl;obtain ⟨p0,p1,p2,p3,p4,p5,p6,p7,p8,p9,p10,p11,p12,p13⟩:=atS (hF.below hC.out hM) ht;have hu:bp<wr.heap.size:=by have:=hC.out.size;omega
           clear hF;have hH:=qh ht;clear ht;have hm:(k:Int)<(nS:Int):=by omega
           have x0:=(Below.heap_alloc wr (.cells #[int i64 t.id,int i64 t.role,int i64 t.bar,int i64 t.mark,int i64 t.kind,int i64 t.side,int i64 t.dir,int i64 t.level,int i64 t.size,int i64 t.wth,int i64 t.fn,int i64 t.fd,int i64 t.tn,int i64 t.td] 54) w.heap.size hW).trans hJ.out;have x2:=heap_alloc_new wr (.cells #[int i64 t.id,int i64 t.role,int i64 t.bar,int i64 t.mark,int i64 t.kind,int i64 t.side,int i64 t.dir,int i64 t.level,int i64 t.size,int i64 t.wth,int i64 t.fn,int i64 t.fd,int i64 t.tn,int i64 t.td] 54);have x3:Below w.heap.size w (wr.alloc (.cells #[int i64 t.id,int i64 t.role,int i64 t.bar,int i64 t.mark,int i64 t.kind,int i64 t.side,int i64 t.dir,int i64 t.level,int i64 t.size,int i64 t.wth,int i64 t.fn,int i64 t.fd,int i64 t.tn,int i64 t.td] 54)):=hC.out.alloc (by omega) _;have x4:w.heap.size<(wr.alloc (.cells #[int i64 t.id,int i64 t.role,int i64 t.bar,int i64 t.mark,int i64 t.kind,int i64 t.side,int i64 t.dir,int i64 t.level,int i64 t.size,int i64 t.wth,int i64 t.fn,int i64 t.fd,int i64 t.tn,int i64 t.td] 54)).heap.size:=by simp;omega
           have x5:wr.heap.size<(wr.alloc (.cells #[int i64 t.id,int i64 t.role,int i64 t.bar,int i64 t.mark,int i64 t.kind,int i64 t.side,int i64 t.dir,int i64 t.level,int i64 t.size,int i64 t.wth,int i64 t.fn,int i64 t.fd,int i64 t.tn,int i64 t.td] 54)).heap.size:=by simp
           have X0:=qh x0;have X2:=qh x2;have hI:=qh x3;have HK:=qh hk;have l0:(wr.alloc (.cells #[int i64 t.id,int i64 t.role,int i64 t.bar,int i64 t.mark,int i64 t.kind,int i64 t.side,int i64 t.dir,int i64 t.level,int i64 t.size,int i64 t.wth,int i64 t.fn,int i64 t.fd,int i64 t.tn,int i64 t.td] 54)).cell? ⟨wr.heap.size,0,none⟩=some (int i64 t.id):=Aa x2 0 rfl;clear x0 x2 x3 hk
           cases q0:decide (t.id≤last) with
           | true =>
            have Q0:=qh (of_decide_eq_true q0);have f0:t.id≤last:=Q0.out;clear q0;go_wp2_with fail;go_ret;exact ⟨AK (hA.out HC.out (FY (by rw [K6.out,K8.out,K10.out,K9.out,NR.out,hB.out,Ck hH.out];have:=Q0.out;simp [BV,Iq,show ¬last<t.id from by omega]))),hI.out⟩
           | false =>
            have Q0:=qh (of_decide_eq_false q0);have f0:¬t.id≤last:=Q0.out;clear q0
            cases q1:decide (1048576<t.id) with
            | true =>
             have Q1:=qh (of_decide_eq_true q1);have f1:1048576<t.id:=Q1.out;clear q1;go_wp2_with fail;go_ret;exact ⟨AK (hA.out HC.out (FY (by rw [K6.out,K8.out,K10.out,K9.out,NR.out,hB.out,Ck hH.out];have:=Q1.out;simp [BV,Iq,show ¬t.id≤1048576 from by omega]))),hI.out⟩
            | false =>
             have Q1:=qh (of_decide_eq_false q1);have f1:¬1048576<t.id:=Q1.out;clear q1;have c5:(wr.alloc (.cells #[int i64 t.id,int i64 t.role,int i64 t.bar,int i64 t.mark,int i64 t.kind,int i64 t.side,int i64 t.dir,int i64 t.level,int i64 t.size,int i64 t.wth,int i64 t.fn,int i64 t.fd,int i64 t.tn,int i64 t.td] 54)).cell? ⟨w.heap.size,5,none⟩=some (.slice aR nR cR):=Aa X0.out 5 rfl;have c6:(wr.alloc (.cells #[int i64 t.id,int i64 t.role,int i64 t.bar,int i64 t.mark,int i64 t.kind,int i64 t.side,int i64 t.dir,int i64 t.level,int i64 t.size,int i64 t.wth,int i64 t.fn,int i64 t.fd,int i64 t.tn,int i64 t.td] 54)).cell? ⟨w.heap.size,6,none⟩=some (int i64 bars):=Aa X0.out 6 rfl;go_wp2_with fail;generalize wr.alloc (.cells #[int i64 t.id,int i64 t.role,int i64 t.bar,int i64 t.mark,int i64 t.kind,int i64 t.side,int i64 t.dir,int i64 t.level,int i64 t.size,int i64 t.wth,int i64 t.fn,int i64 t.fd,int i64 t.tn,int i64 t.td] 54)=w5 at *;clear p0 p1 p2 p3 p4 p5 p6 p7 p8 p9 p10 p11 p12 p13 f0 f1 hJ hC c5 c6 l0;refine (O8 t.id t.role t.bar t.mark t.kind t.side t.dir t.level t.size t.wth t.fn t.fd t.tn t.td nR bars (by omega) (by omega) (by omega) (by omega) _ (HE.out.below hI.out)).mono ?_;rintro e w6 ⟨rfl,hY⟩;rw [O7];have hs:=qh (hI.out.trans (hY.mono (by omega)));have y0:=(hY.block _ x4).trans X0.out;have y2:=(hY.block _ x5).trans X2.out;have y4:w.heap.size<w6.heap.size:=Nat.lt_of_lt_of_le x4 hY.size;have Y0:=qh y0;have Y2:=qh y2;have l0:w6.cell? ⟨wr.heap.size,0,none⟩=some (int i64 t.id):=Aa y2 0 rfl;clear X0 X2 x5 hY y0 y2
             cases q2:EW t nR bars with
             | false =>
              go_wp2_with fail;go_ret;exact ⟨AK (hA.out HC.out (FY (by rw [K6.out,K8.out,K10.out,K9.out,NR.out,hB.out,Ck hH.out];simp [BV,Iq,q2]))),hs.out⟩
             | true =>
              have Q2:=qh q2;clear q2;go_wp2_with fail;have hk:=HK.out;go_roundw
              case rel=>exact ⟨k+1,t.id,by omega,by go_num,rfl,qh (by rw [hB.out,Ck hH.out];have h0:=Q0.out;have h1:=Q1.out;simp [BV,Iq,show last<t.id from by omega,show t.id≤1048576 from by omega,Q2.out]),y4,Y0,hs⟩
              case measure=>simp [intOf];omega
          ·obtain rfl:nS=k:=by omega
           have hr:¬(nS:Int)<(nS:Int):=by omega
           have SM:Hid (BV nR bars (-1) ss=true):=qh (by rw [hB.out,List.drop_of_length_le (by rw [NS.out];exact qn _)];rfl);clear hB;go_wp2_with fail;go_ret;exact ⟨AK (hO.out HC.out (by unfold Gt;rw [hi.out,K6.out,K8.out,K10.out,K9.out,K1.out,K2.out,NR.out,RM.out,SM.out];rfl)),hC.out⟩
theorem DN(wd dp ta tb tc bars:Int)(aR aT aP aX aS:Option Addr)(cR cT cP cX cS:Nat)(rs:List Rol)(ts:List Tmp)(ps:List Pau)(xs:List Con)(ss:List Sgn)(w:World)(hE:EnvK w)
  (hR:IsRow CT 4 w (.slice aR rs.length cR) rs) (hT:IsRow BS 3 w (.slice aT ts.length cT) ts) (hP:IsRow Cx 4 w (.slice aP ps.length cP) ps) (hX:IsRow Cw 4 w (.slice aX xs.length cX) xs) (hS:IsRow Av 14 w (.slice aS ss.length cS) ss):Calls Tryz.prog 17 #[.agg #[int i64 wd,int i64 dp,int i64 ta,int i64 tb,int i64 tc,.slice aR rs.length cR,int i64 bars,.slice aT ts.length cT,.slice aP ps.length cP,.slice aX xs.length cX,.slice aS ss.length cS]] w λe w'=>e=.returned (int i64 (Dc ⟨wd,dp,ta,tb,tc,rs,⟨bars,ts,ps,xs⟩,ss⟩))∧Below w.heap.size w w':=by
 by_cases h:64<rs.length∨4096<ss.length
 ·exact LI wd dp ta tb tc bars aR aT aP aX aS cR cT cP cX cS rs ts ps xs ss w hE hR hT hP hX hS h
 ·exact Kr wd dp ta tb tc bars aR aT aP aX aS cR cT cP cX cS rs ts ps xs ss w hE hR hT hP hX hS (by omega) (by omega)
end
section
open Go Go.RowKit Go.Deep
theorem tkH{P:Program}{md:Region.Mode}{ops:Array Oper}{Q:Exit→Act→World→Prop}{i:Nat}{oi:Oper}{v:Value}{fuel:Nat}{listed:Array Bool}{a:Act}{w:World}(hi:ops[i]?=some oi)
  (hs:(Region.noSelect ops&&(Region.free md ops listed i&&((Region.ready md ops listed).contains i&&Region.wanted oi (yielded ops a.tmps))))=true)
  (hQ:∀c a w,Q (.panic c) (a.put oi.dst v) w→Q (.panic c) a w) (hy:∀V,(execOp a.eval oi).run P V=.ok (.value v) V)
  (h:wpAnyH P md ops Q (λ_=>True) fuel (listed.setIfInBounds i true) (a.put oi.dst v) w):wpAnyH P md ops Q (λ_=>True) (fuel+1) listed a w:=by
 simp only [Bool.and_eq_true] at hs;exact wpAnyH_take hi hs.1 hs.2.1 hs.2.2.1 hQ (Or.inl ⟨hs.2.2.2,λV _=>hy V⟩) trivial h
def M8 (l : List Oper) (i : Nat) : Oper := l.getD i { dst := none, op := .move (.tmp 0), type := 0, pos := "", after := #[], guard := none }
theorem AV(o:Oper)(l:List Oper):M8 (o::l) 0=o:=rfl
theorem AU(o:Oper)(l:List Oper)(i:Nat):M8 (o::l) (i+1)=M8 l i:=rfl
theorem Ey{P:Program}{md:Region.Mode}{l:List Oper}{Q:Exit→Act→World→Prop}(i:Nat){fuel:Nat}{listed:Array Bool}{a:Act}{w:World}(hr:Region.ready md l.toArray listed=[i])(hs:(decide (i<l.toArray.size)&&Region.wanted (M8 l i) (yielded l.toArray a.tmps))=true)
  (h:∀K':Act→World→Prop,Shut (∀a w,wpAnyH P md l.toArray Q (λ_=>True) fuel (listed.setIfInBounds i true) a w→K' a w)→Oper.wp P (M8 l i) a w K' Q):wpAnyH P md l.toArray Q (λ_=>True) (fuel+1) listed a w:=by
 rw [Bool.and_eq_true] at hs;have hi:i<l.toArray.size:=of_decide_eq_true hs.1;refine wpAnyH_ready hr (by simp) (AllReadyH.cons (o:=M8 l i) ?_ (λK hK=>by rw [if_pos hs.2];exact h K (λa w h=>hK.out a w trivial (λ_=>h))) AllReadyH.nil);unfold M8;simp at hi;simp [qg hi]
section
variable {α:Type}
structure RowS(val:α→Sgn)(g o N:Nat)(X:Nat→α)(w:World):Prop where
 at_:∀i,i<N→w.rangeAt g (o+i*14) (Av (val (X i)))
 free:FreeB w g
theorem RowS.there{val:α→Sgn}{g o N:Nat}{X:Nat→α}{w:World}(h:RowS val g o N X w){i:Nat}(hi:i<N):w.there g (o+i*14) 14:=λj hj =>
 ⟨(h.at_ i hi).isSome j (by simpa [Av] using hj),h.free.free _⟩
theorem FreeB.cells{w:World}{c:Nat}(h:FreeB w c)(b:Nat):∀(vs:List Value) (o:Nat),FreeB (w.setCells b o vs) c
 | [],_=>h
 | v::r,o=>by rw [World.setCells];exact (h.set ⟨b,o,none⟩ v).cells b r (o+1)
theorem ButOne.cells(g:Nat):∀(vs:List Value) (o:Nat) (w:World),ButOne g w (w.setCells g o vs)
 | [],_,_=>ButOne.refl _ _
 | v::r,o,w=>by rw [World.setCells];exact (ButOne.setCell (p:=⟨g,o,none⟩) v).trans (ButOne.cells g r (o+1) _)
theorem RowS.block{val:α→Sgn}{g o N:Nat}{X:Nat→α}{w w':World}(h:RowS val g o N X w)(e:w'.heap[g]?=w.heap[g]?):RowS val g o N X w':=by
 refine ⟨λi hi j v hv=>?_,?_⟩
 ·have:=h.at_ i hi j v hv
  unfold World.cell? at this ⊢;rw [e];exact this
 ·obtain ⟨c,t,q⟩:=h.free;exact ⟨c,t,e.trans q⟩
theorem RowS.lt{val:α→Sgn}{g o N:Nat}{X:Nat→α}{w:World}(h:RowS val g o N X w):g<w.heap.size:=h.free.lt
theorem RowS.below{val:α→Sgn}{g o N:Nat}{X:Nat→α}{w w':World}(h:RowS val g o N X w)(hb:Below w.heap.size w w'):RowS val g o N X w':=h.block (hb.block g h.lt)
theorem GS(s:Sgn):(Av s).length=14:=rfl
theorem RowS.put{val:α→Sgn}{g o N:Nat}{X:Nat→α}{w:World}(h:RowS val g o N X w){i j:Nat}(hi:i<N)(hj:j<N)(hA:i≠j) :
  RowS val g o N (swp X i j) ((w.setCells g (o+i*14) (Av (val (X j)))).setCells g (o+j*14) (Av (val (X i)))):=by
 refine ⟨λk hk=>?_,(h.free.cells g _ _).cells g _ _⟩;by_cases e1:k=j
 ·subst e1
  have e:swp X i k k=X i:=by unfold swp;rw [if_neg (λe=>hA e.symm),if_pos rfl]
  rw [e];exact World.rangeAt_setCells_same _ _ _ _ (World.there_setCells (h.there hj) _ _ _)
 ·by_cases e2:k=i
  ·subst e2
   have e:swp X k j k=X j:=by unfold swp;rw [if_pos rfl]
   rw [e];exact World.rangeAt_setCells_apart (World.rangeAt_setCells_same _ _ _ _ (h.there hi)) _ _ _ (by simp only [GS];omega)
  ·have e:swp X i j k=X k:=by unfold swp;rw [if_neg e2,if_neg e1]
   rw [e];exact World.rangeAt_setCells_apart (World.rangeAt_setCells_apart (h.at_ k hk) _ _ _ (by simp only [GS];omega)) _ _ _ (by simp only [GS];omega)
theorem RowS.put_but(val:α→Sgn)(g o:Nat)(X:Nat→α)(w:World)(i j:Nat):ButOne g w ((w.setCells g (o+i*14) (Av (val (X j)))).setCells g (o+j*14) (Av (val (X i)))):=(ButOne.cells g _ _ _).trans (ButOne.cells g _ _ _)
theorem En{w:World}{b o:Nat}(h:w.there b o 14)(s:Sgn):w.there b o (Av s).toArray.size:=h
theorem CU(s:Sgn):(Av s).toArray.all (·.oneCell')=true:=all_oneCell_toArray λv hv=>by
 simp only [Av,List.mem_cons,List.not_mem_nil,or_false] at hv;rcases hv with rfl|rfl|rfl|rfl|rfl|rfl|rfl|rfl|rfl|rfl|rfl|rfl|rfl|rfl<;>rfl
def Ub(val:α→Sgn)(g o N:Nat)(Y:Nat→α)(w:World)(e:Ending)(w':World):Prop:=e=.returned (.tuple #[])∧RowS val g o N Y w'∧ButOne g w w'
theorem Sg(val:α→Sgn)(g o cap N a b n:Nat)(X:Nat→α)(f:Nat)(w:World)(h1:a+n≤b)(h2:b+n≤N)(hN:N≤1000000)(hR:RowS val g o N X w) :
  Calls Tryz.prog 152 #[.slice (some ⟨g,o,none⟩) N cap,int i64 a,int i64 b,int i64 n,.func (.func f) #[] #[]] w (Ub val g o N (swr X a b n) w):=by
 have HR:=qh hR;clear hR;go_enter Tryz.func152,Tryz.ntmps152;go_wp2_with fail;go_loopw [10] (λiv wr=>∃i:Nat,iv=int i64 i∧i≤n∧Hid (RowS val g o N (swr X a b i) wr)∧Hid (ButOne g w wr)) (λiv _=>n+1-(intOf iv).toNat)
 case atStart=>exact ⟨0,rfl,Nat.zero_le _,qh (by rw [Qn];exact HR.out),qh (ButOne.refl _ _)⟩
 case round =>
  obtain ⟨i,rfl,hi,hr,hb⟩:=hrel;by_cases hG:i<n
  ·have hE:(i:Int)<(n:Int):=by omega
   obtain ⟨p,hp⟩:∃p:Nat,a+i=p:=⟨_,rfl⟩;obtain ⟨q,hq⟩:∃q:Nat,b+i=q:=⟨_,rfl⟩;have wa:IntKind.i64.wrap ((a:Int)+(i:Int))=(p:Int):=(IntWalk.i64_in _ (by omega)).trans (by omega);have wb:IntKind.i64.wrap ((b:Int)+(i:Int))=(q:Int):=(IntWalk.i64_in _ (by omega)).trans (by omega);have q1:(p:Int)<(N:Int):=by omega
   have q2:(q:Int)<(N:Int):=by omega
   have hB:=qh (hr.out.block (w':=wr.drew) rfl);have hF:=qh (hb.out.trans (ButOne.of_below ((Below.refl _ wr).drew)));have HA:=qh hB.out.at_;have ht:=λk (hk:k<N)=>hB.out.there hk
   have HT:=qh ht;have HP:=qh (show p<N∧q<N∧p≠q by omega);clear ht;go_wp2_with fail;clear hE;refine wp_region_held (S:=λ_=>True) (by kernel_rfl) ?_;change wpAnyH _ _ _ _ _ _ _ _ wr.drew;generalize wr.drew=W2 at *;refine tkH (i:=0) (oi:=_) (v:=.slice (some ⟨g,o,none⟩) N cap) rfl (by kernel_rfl) (λ_ _ _ h=>h) (λV=>by go_simp) ?_
   try simp only [Act.put,qz]
   refine tkH (i:=1) (oi:=_) (v:=int i64 (a:Nat)) rfl (by kernel_rfl) (λ_ _ _ h=>h) (λV=>by go_simp) ?_
   try simp only [Act.put,qz]
   refine tkH (i:=2) (oi:=_) (v:=int i64 (i:Nat)) rfl (by kernel_rfl) (λ_ _ _ h=>h) (λV=>by go_simp) ?_
   try simp only [Act.put,qz]
   refine tkH (i:=3) (oi:=_) (v:=int i64 (p:Nat)) rfl (by kernel_rfl) (λ_ _ _ h=>h) (λV=>by go_simp) ?_
   try simp only [Act.put,qz]
   refine tkH (i:=4) (oi:=_) (v:=.slice (some ⟨g,o,none⟩) N cap) rfl (by kernel_rfl) (λ_ _ _ h=>h) (λV=>by go_simp) ?_
   try simp only [Act.put,qz]
   refine tkH (i:=5) (oi:=_) (v:=int i64 (b:Nat)) rfl (by kernel_rfl) (λ_ _ _ h=>h) (λV=>by go_simp) ?_
   try simp only [Act.put,qz]
   refine tkH (i:=6) (oi:=_) (v:=int i64 (i:Nat)) rfl (by kernel_rfl) (λ_ _ _ h=>h) (λV=>by go_simp) ?_
   try simp only [Act.put,qz]
   refine tkH (i:=7) (oi:=_) (v:=int i64 (q:Nat)) rfl (by kernel_rfl) (λ_ _ _ h=>h) (λV=>by go_simp) ?_
   try simp only [Act.put,qz]
   refine tkH (i:=8) (oi:=_) (v:=.slice (some ⟨g,o,none⟩) N cap) rfl (by kernel_rfl) (λ_ _ _ h=>h) (λV=>by go_simp) ?_
   try simp only [Act.put,qz]
   refine tkH (i:=9) (oi:=_) (v:=int i64 (b:Nat)) rfl (by kernel_rfl) (λ_ _ _ h=>h) (λV=>by go_simp) ?_
   try simp only [Act.put,qz]
   refine tkH (i:=10) (oi:=_) (v:=int i64 (i:Nat)) rfl (by kernel_rfl) (λ_ _ _ h=>h) (λV=>by go_simp) ?_
   try simp only [Act.put,qz]
   refine tkH (i:=11) (oi:=_) (v:=int i64 (q:Nat)) rfl (by kernel_rfl) (λ_ _ _ h=>h) (λV=>by go_simp) ?_
   try simp only [Act.put,qz]
   refine tkH (i:=12) (oi:=_) (v:=.pointer (some ⟨g,o+q*14,none⟩)) rfl (by kernel_rfl) (λ_ _ _ h=>h) (λV=>by go_simp) ?_
   try simp only [Act.put,qz]
   refine tkH (i:=14) (oi:=_) (v:=.slice (some ⟨g,o,none⟩) N cap) rfl (by kernel_rfl) (λ_ _ _ h=>h) (λV=>by go_simp) ?_
   try simp only [Act.put,qz]
   refine tkH (i:=15) (oi:=_) (v:=int i64 (a:Nat)) rfl (by kernel_rfl) (λ_ _ _ h=>h) (λV=>by go_simp) ?_
   try simp only [Act.put,qz]
   refine tkH (i:=16) (oi:=_) (v:=int i64 (i:Nat)) rfl (by kernel_rfl) (λ_ _ _ h=>h) (λV=>by go_simp) ?_
   try simp only [Act.put,qz]
   refine tkH (i:=17) (oi:=_) (v:=int i64 (p:Nat)) rfl (by kernel_rfl) (λ_ _ _ h=>h) (λV=>by go_simp) ?_
   try simp only [Act.put,qz]
   refine tkH (i:=18) (oi:=_) (v:=.pointer (some ⟨g,o+p*14,none⟩)) rfl (by kernel_rfl) (λ_ _ _ h=>h) (λV=>by go_simp) ?_
   try simp only [Act.put,qz]
   refine wpAnyH_ready (rs:=[13,19]) (by kernel_rfl) (by simp) ?_;refine AllReadyH.cons (o:=_) rfl (λK1 hK=>?_) (AllReadyH.cons (o:=_) rfl (λK1 hK=>?_) AllReadyH.nil);rw [if_pos (by kernel_rfl)];refine wp_load_mid 54 _ rfl g _ rfl _ _ (HA.out q (by omega)) Tryz.underlying54 rfl (by kernel_rfl) ?_;refine hK.out _ _ trivial (λ_=>?_);clear hK K1
   try simp only [Act.put,qz]
   refine Ey 19 (by kernel_rfl) (by kernel_rfl) (λK1 hK=>?_);simp only [AU,AV];refine wp_load_mid 54 _ rfl g _ rfl _ _ (HA.out p (by omega)) Tryz.underlying54 rfl (by kernel_rfl) ?_;refine hK.out _ _ ?_;clear hK K1
   try simp only [Act.put,qz]
   rotate_left
   rw [if_pos (by kernel_rfl)];refine wp_load_mid 54 _ rfl g _ rfl _ _ (HA.out p (by omega)) Tryz.underlying54 rfl (by kernel_rfl) ?_;refine hK.out _ _ trivial (λ_=>?_);clear hK K1
   try simp only [Act.put,qz]
   refine Ey 13 (by kernel_rfl) (by kernel_rfl) (λK1 hK=>?_);simp only [AU,AV];refine wp_load_mid 54 _ rfl g _ rfl _ _ (HA.out q (by omega)) Tryz.underlying54 rfl (by kernel_rfl) ?_;refine hK.out _ _ ?_;clear hK K1
   try simp only [Act.put,qz]
   all_goals
    refine tkH (i:=20) (oi:=_) (v:=.pointer (some ⟨g,o+p*14,none⟩)) rfl (by kernel_rfl) (λ_ _ _ h=>h) (λV=>by go_simp) ?_
    try simp only [Act.put,qz]
    refine Ey 21 (by kernel_rfl) (by kernel_rfl) (λK1 hK=>?_);simp only [AU,AV];refine wp_store_mid 54 _ _ rfl g (o+p*14) (Av (val (swr X a b i q))).toArray rfl rfl (En (HT.out p (by omega)) _) (by kernel_rfl) (CU _) ?_;refine hK.out _ _ ?_;clear hK K1
    try simp only [Act.put,qz]
    have hC:=qh (World.there_setCells (En (HT.out q (by omega)) (val (swr X a b i p))) g (o+p*14) (Av (val (swr X a b i q))));obtain ⟨W3,hA⟩:∃W3,W2.setCells g (o+p*14) (Av (val (swr X a b i q)))=W3:=⟨_,rfl⟩;change wpAnyH _ _ _ _ _ _ _ _ (W2.setCells g (o+p*14) (Av (val (swr X a b i q))));rw [hA];rw [hA] at hC;have hD:=qh hA;clear hA;refine tkH (i:=22) (oi:=_) (v:=.pointer (some ⟨g,o+q*14,none⟩)) rfl (by kernel_rfl) (λ_ _ _ h=>h) (λV=>by go_simp) ?_
    try simp only [Act.put,qz]
    refine Ey 23 (by kernel_rfl) (by kernel_rfl) (λK1 hK=>?_);simp only [AU,AV];refine wp_store_mid 54 _ _ rfl g (o+q*14) (Av (val (swr X a b i p))).toArray rfl rfl hC.out (by kernel_rfl) (CU _) ?_;refine hK.out _ _ ?_;clear hK K1
    try simp only [Act.put,qz]
    refine wpAnyH_done (by kernel_rfl) ?_ _;clear wa wb q1 q2;go_wp2_with fail;go_roundw
    case rel=>exact ⟨i+1,by go_num,by omega,qh (by
     have:=hB.out.put HP.out.1 HP.out.2.1 HP.out.2.2;rw [← Qm X (by omega),hp,hq];rw [hD.out] at this
     exact this),qh (hF.out.trans (by rw [← hD.out];exact RowS.put_but val g o _ _ p q))⟩
    case measure=>simp [intOf];omega
  ·obtain rfl:i=n:=by omega
   go_wp2_with fail;go_end0;exact ⟨rfl,hr.out,hb.out⟩
end
end
section
open Go Go.RowKit Go.Deep
section
variable {α:Type}
theorem S3(val:α→Sgn)(g o cap N a m b:Nat)(X:Nat→α)(f:Nat)(w:World)(h1:a<m)(h2:m<b)(h3:b≤N)(hN:N≤1000000)(hR:RowS val g o N X w) :
  Calls Tryz.prog 135 #[.slice (some ⟨g,o,none⟩) N cap,int i64 a,int i64 m,int i64 b,.func (.func f) #[] #[]] w (Ub val g o N (rot X a m b) w):=by
 have HR:=qh hR;clear hR;have w1:IntKind.i64.wrap ((m:Int)-(a:Int))=((m-a:Nat):Int):=(IntWalk.i64_in _ (by omega)).trans (by omega);have w2:IntKind.i64.wrap ((b:Int)-(m:Int))=((b-m:Nat):Int):=(IntWalk.i64_in _ (by omega)).trans (by omega);have HS:=qh (λ(x y k:Nat) (Y:Nat→α) V (p1:x+k≤y) (p2:y+k≤N) (hV:RowS val g o N Y V)=>Sg val g o cap N x y k Y f V p1 p2 hN hV);go_enter Tryz.func135,Tryz.ntmps135;go_wp2_with fail;clear w1 w2;go_loopw [10,11] (λiv jv wr=>∃(i j:Nat) (Y:Nat→α),iv=int i64 i∧jv=int i64 j∧0<i∧0<j∧i≤m∧m+j≤N∧Hid (RowS val g o N Y wr)∧Hid (ButOne g w wr)∧Hid (rot Y (m-i) m (m+j)=rot X a m b)) (λiv jv _=>(intOf iv).toNat+(intOf jv).toNat)
 case atStart=>exact ⟨m-a,b-m,X,rfl,rfl,by omega,by omega,by omega,by omega,HR,qh (ButOne.refl _ _),qh (by rw [show m-(m-a)=a by omega,show m+(b-m)=b by omega])⟩
 case round =>
  obtain ⟨i,j,Y,rfl,rfl,hi,hj,hE,hF,hr,hb,he⟩:=hrel;have wi:IntKind.i64.wrap ((m:Int)-(i:Int))=((m-i:Nat):Int):=(IntWalk.i64_in _ (by omega)).trans (by omega);by_cases hG:i=j
  ·subst hG
   go_wp2_with (go_at_call 152;refine (HS.out (m-i) m i Y _ (by omega) (by omega) hr.out).mono ?_;rintro e V ⟨rfl,hA,hB⟩;have hC:=qh hA;have hD:=qh hB;clear hA hB);go_end0;exact ⟨rfl,by rw [← he.out,← TL Y hE];exact hC.out,hb.out.trans hD.out⟩
  ·have hH:¬(i:Int)=(j:Int):=by omega
   have hJ:((i:Int)==(j:Int))=false:=by simpa using hH
   by_cases hI:j<i
   ·have hg:(j:Int)<(i:Int):=by omega
    have wj:IntKind.i64.wrap ((i:Int)-(j:Int))=((i-j:Nat):Int):=(IntWalk.i64_in _ (by omega)).trans (by omega)
    go_wp2_with (go_at_call 152;refine (HS.out (m-i) m j Y _ (by omega) (by omega) hr.out).mono ?_;rintro e V ⟨rfl,hA,hB⟩;have hC:=qh hA;have hD:=qh hB;clear hA hB);go_roundw
    case rel=>exact ⟨i-j,j,_,rfl,rfl,by omega,hj,by omega,hF,hC,qh (hb.out.trans hD.out),qh (by rw [← he.out];exact TN Y hI hE)⟩
    case measure=>simp [intOf];omega
   ·have hg:¬(j:Int)<(i:Int):=by omega
    have wj:IntKind.i64.wrap ((j:Int)-(i:Int))=((j-i:Nat):Int):=(IntWalk.i64_in _ (by omega)).trans (by omega);have wk:IntKind.i64.wrap ((m:Int)+(j:Int))=(m:Int)+(j:Int):=IntWalk.i64_in _ (by omega);have wl:IntKind.i64.wrap ((m:Int)+(j:Int)-(i:Int))=((m+j-i:Nat):Int):=(IntWalk.i64_in _ (by omega)).trans (by omega)
    go_wp2_with (go_at_call 152;refine (HS.out (m-i) (m+j-i) i Y _ (by omega) (by omega) hr.out).mono ?_;rintro e V ⟨rfl,hA,hB⟩;have hC:=qh hA;have hD:=qh hB;clear hA hB);go_roundw
    case rel=>exact ⟨i,j-i,_,rfl,rfl,hi,by omega,hE,by omega,hC,qh (hb.out.trans hD.out),qh (by rw [← he.out];exact TO Y (by omega) hE)⟩
    case measure=>simp [intOf];omega
end
end
section
open Go Go.RowKit Go.Deep
section
variable {α:Type}
structure CmpOk(val:α→Sgn)(lt:α→α→Bool)(c:Nat):Prop where
 swo:SwO lt
 enter:∀args w,(callFunc c args).run Tryz.prog w=.ok (.enter c args) w
 calls:∀x y V,Calls Tryz.prog c #[.agg (Av (val x)).toArray,.agg (Av (val y)).toArray] V λe w'=>∃k:Int,e=.returned (int i64 k)∧(k<0↔lt x y=true)∧Below V.heap.size V w'
theorem AF{P:Program}{ops:Array Oper}{w:World}{Q:Act→Prop}{op:Oper}{rest:List Oper}{a:Act}(hw:Region.wanted op (yielded ops a.tmps)=true)(ty:TypeId)(x:Operand)(ho:op.op=.load ty x)
  (b o:Nat) (hx:a.eval x=.pointer (some ⟨b,o,none⟩)) (cs:List Value) (d:TypeDesc) (hc:w.rangeAt b o cs)
  (hu:P.underlying ty=some d) (hd:d.isRow=true) (hi:(P.info? ty).map (·.size)=some cs.length)
  (h:wpStill P ops w Q rest (a.put op.dst (.agg cs.toArray))):wpStill P ops w Q (op::rest) a:=by
 unfold wpStill;rw [if_pos hw];unfold Oper.still execOp;simp only [ho,hx,Instr.loadAt,Instr.sureAddr,Sem.run_bind,Sem.run_pure,Result.andThen_ok,run_loadVar_mid w b o ty cs d hc hu hd hi];exact ⟨rfl,h⟩
def Iz(val:α→Sgn)(lt:α→α→Bool)(g o N:Nat)(X:Nat→α)(a b:Nat)(w:World)(e:Ending)(w':World):Prop:=e=.returned (.tuple #[])∧∃Y,RowS val g o N Y w'∧ButOne g w w'∧Stb lt X Y a b∧Srt lt Y a b
theorem Ra(val:α→Sgn)(lt:α→α→Bool)(c:Nat)(hc:CmpOk val lt c)(g o cap N a b:Nat)(X:Nat→α)(w:World)(h1:a≤b)(h2:b≤N)(hN:N≤1000000)(hR:RowS val g o N X w) :
  Calls Tryz.prog 98 #[.slice (some ⟨g,o,none⟩) N cap,int i64 a,int i64 b,.func (.func c) #[] #[]] w (Iz val lt g o N X a b w):=by
 have HR:=qh hR;have hE:=hc.enter;have HC:=qh hc;clear hR hc;go_enter Tryz.func98,Tryz.ntmps98;go_wp2_with fail;go_loopw [8] (λiv wr=>∃(i:Nat) (Y:Nat→α),iv=int i64 i∧a<i∧(i≤b∨i=a+1)∧Hid (RowS val g o N Y wr)∧Hid (ButOne g w wr)∧Hid (Stb lt X Y a b)∧Hid (Srt lt Y a i)) (λiv _=>b+1-(intOf iv).toNat)
 case atStart=>exact ⟨a+1,X,by go_num,by omega,Or.inr rfl,HR,qh (ButOne.refl _ _),qh (Stb.refl _ _ _ _),qh (Srt.one HC.out.swo X a)⟩
 case round =>
  obtain ⟨i,Y,rfl,hM,hO,hr,hb,hs,hd⟩:=hrel;by_cases hP:i<b
  ·have hl:(i:Int)<(b:Int):=by omega
   go_wp2_with fail;go_loopw [9] (λjv wr2=>∃(j:Nat) (Z:Nat→α),jv=int i64 j∧a≤j∧j≤i∧Hid (RowS val g o N Z wr2)∧Hid (ButOne g w wr2)∧Hid (Stb lt X Z a b)∧Hid (InsJ lt Z a i j)) (λjv _=>(intOf jv).toNat)
   case atStart=>exact ⟨i,Y,rfl,by omega,by omega,hr,hb,hs,qh (InsJ.start hd.out)⟩
   case round =>
    obtain ⟨j,Z,rfl,hQ,hF,hr,hb,hs,hd⟩:=hrel;by_cases hT:a<j
    ·obtain ⟨k,rfl⟩:∃k,j=k+1:=⟨j-1,by omega⟩
     have hj:(a:Int)<(k:Int)+1:=by omega
     have e0:((k:Int)+1).toNat=k+1:=by omega
     have p0:(0:Int)≤(k:Int)+1:=by omega
     have q1:(k:Int)+1<(N:Int):=by omega
     have q2:(k:Int)<(N:Int):=by omega
     have wk:IntKind.i64.wrap (k:Int)=(k:Int):=IntWalk.i64_in _ (by omega);have HA:=qh (hr.out.block (w':=wr.drew) rfl).at_;have HD:=qh (And.intro (hr.out.block (w':=wr.drew) rfl) (hb.out.trans (ButOne.of_below (Below.refl _ wr).drew)));go_wp2_with fail;refine AM (λw2=>w2=wr.drew) 14 (by kernel_rfl) (by kernel_rfl) rfl ?_;intro w2 hS;subst hS;simp only [List.take_succ_cons,List.take_zero,List.drop_succ_cons,List.drop_zero]
     iterate 8 still_step
     refine AF (by kernel_rfl) 54 _ rfl g (o+(k+1)*14) rfl _ _ (HA.out (k+1) (by omega)) Tryz.underlying54 rfl (by kernel_rfl) ?_
     try simp only [Act.put,qz]
     iterate 4 still_step
     refine AF (by kernel_rfl) 54 _ rfl g (o+k*14) rfl _ _ (HA.out k (by omega)) Tryz.underlying54 rfl (by kernel_rfl) ?_
     try simp only [Act.put,qz]
     refine wpStill_nil ?_;go_wp2_with fail;refine (HC.out.calls _ _ _).mono ?_;rintro e wr3 ⟨kk,rfl,hA,hC⟩;have hG:=qh (HD.out.1.below hC);have hH:=qh (HD.out.2.trans (ButOne.of_below hC));clear hC HA HD
     cases hv:lt (Z (k+1)) (Z k) with
     | true =>
      have hk:kk<0:=hA.2 hv;have HV:=qh hv;clear hA hv;have hD:=qh (hG.out.block (w':=wr3.drew) rfl);have hL:=qh (hH.out.trans (ButOne.of_below (Below.refl _ wr3).drew));have HA:=qh hD.out.at_;have ht:=λk (hk:k<N)=>hD.out.there hk
      have HT:=qh ht;clear ht;go_wp2_with fail;clear hk hj hl;refine wp_region_held (S:=λ_=>True) (by kernel_rfl) ?_;change wpAnyH _ _ _ _ _ _ _ _ wr3.drew;generalize wr3.drew=W2 at *;refine tkH (i:=0) (oi:=_) (v:=.slice (some ⟨g,o,none⟩) N cap) rfl (by kernel_rfl) (λ_ _ _ h=>h) (λV=>by go_simp) ?_
      try simp only [Act.put,qz]
      refine tkH (i:=1) (oi:=_) (v:=int i64 ((k:Int)+1)) rfl (by kernel_rfl) (λ_ _ _ h=>h) (λV=>by go_simp) ?_
      try simp only [Act.put,qz]
      refine tkH (i:=2) (oi:=_) (v:=.slice (some ⟨g,o,none⟩) N cap) rfl (by kernel_rfl) (λ_ _ _ h=>h) (λV=>by go_simp) ?_
      try simp only [Act.put,qz]
      refine tkH (i:=3) (oi:=_) (v:=int i64 ((k:Int)+1)) rfl (by kernel_rfl) (λ_ _ _ h=>h) (λV=>by go_simp) ?_
      try simp only [Act.put,qz]
      refine tkH (i:=4) (oi:=_) (v:=int i64 (k:Nat)) rfl (by kernel_rfl) (λ_ _ _ h=>h) (λV=>by go_simp) ?_
      try simp only [Act.put,qz]
      refine tkH (i:=5) (oi:=_) (v:=.slice (some ⟨g,o,none⟩) N cap) rfl (by kernel_rfl) (λ_ _ _ h=>h) (λV=>by go_simp) ?_
      try simp only [Act.put,qz]
      refine tkH (i:=6) (oi:=_) (v:=int i64 ((k:Int)+1)) rfl (by kernel_rfl) (λ_ _ _ h=>h) (λV=>by go_simp) ?_
      try simp only [Act.put,qz]
      refine tkH (i:=7) (oi:=_) (v:=int i64 (k:Nat)) rfl (by kernel_rfl) (λ_ _ _ h=>h) (λV=>by go_simp) ?_
      try simp only [Act.put,qz]
      refine tkH (i:=8) (oi:=_) (v:=.pointer (some ⟨g,o+k*14,none⟩)) rfl (by kernel_rfl) (λ_ _ _ h=>h) (λV=>by go_simp) ?_
      try simp only [Act.put,qz]
      refine tkH (i:=10) (oi:=_) (v:=.slice (some ⟨g,o,none⟩) N cap) rfl (by kernel_rfl) (λ_ _ _ h=>h) (λV=>by go_simp) ?_
      try simp only [Act.put,qz]
      refine tkH (i:=11) (oi:=_) (v:=int i64 ((k:Int)+1)) rfl (by kernel_rfl) (λ_ _ _ h=>h) (λV=>by go_simp) ?_
      try simp only [Act.put,qz]
      refine tkH (i:=12) (oi:=_) (v:=.pointer (some ⟨g,o+(k+1)*14,none⟩)) rfl (by kernel_rfl) (λ_ _ _ h=>h) (λV=>by go_simp) ?_
      try simp only [Act.put,qz]
      refine wpAnyH_ready (rs:=[9,13]) (by kernel_rfl) (by simp) ?_;refine AllReadyH.cons (o:=_) rfl (λK1 hK=>?_) (AllReadyH.cons (o:=_) rfl (λK1 hK=>?_) AllReadyH.nil);rw [if_pos (by kernel_rfl)];refine wp_load_mid 54 _ rfl g _ rfl _ _ (HA.out k (by omega)) Tryz.underlying54 rfl (by kernel_rfl) ?_;refine hK.out _ _ trivial (λ_=>?_);clear hK K1
      try simp only [Act.put,qz]
      refine Ey 13 (by kernel_rfl) (by kernel_rfl) (λK1 hK=>?_);simp only [AU,AV];refine wp_load_mid 54 _ rfl g _ rfl _ _ (HA.out (k+1) (by omega)) Tryz.underlying54 rfl (by kernel_rfl) ?_;refine hK.out _ _ ?_;clear hK K1
      try simp only [Act.put,qz]
      rotate_left
      rw [if_pos (by kernel_rfl)];refine wp_load_mid 54 _ rfl g _ rfl _ _ (HA.out (k+1) (by omega)) Tryz.underlying54 rfl (by kernel_rfl) ?_;refine hK.out _ _ trivial (λ_=>?_);clear hK K1
      try simp only [Act.put,qz]
      refine Ey 9 (by kernel_rfl) (by kernel_rfl) (λK1 hK=>?_);simp only [AU,AV];refine wp_load_mid 54 _ rfl g _ rfl _ _ (HA.out k (by omega)) Tryz.underlying54 rfl (by kernel_rfl) ?_;refine hK.out _ _ ?_;clear hK K1
      try simp only [Act.put,qz]
      all_goals
       refine tkH (i:=14) (oi:=_) (v:=.pointer (some ⟨g,o+(k+1)*14,none⟩)) rfl (by kernel_rfl) (λ_ _ _ h=>h) (λV=>by go_simp) ?_
       try simp only [Act.put,qz]
       refine Ey 15 (by kernel_rfl) (by kernel_rfl) (λK1 hK=>?_);simp only [AU,AV];refine wp_store_mid 54 _ _ rfl g (o+(k+1)*14) (Av (val (Z k))).toArray rfl rfl (En (HT.out (k+1) (by omega)) _) (by kernel_rfl) (CU _) ?_;refine hK.out _ _ ?_;clear hK K1
       try simp only [Act.put,qz]
       have hI:=qh (World.there_setCells (En (HT.out k (by omega)) (val (Z (k+1)))) g (o+(k+1)*14) (Av (val (Z k))));obtain ⟨W3,hB⟩:∃W3,W2.setCells g (o+(k+1)*14) (Av (val (Z k)))=W3:=⟨_,rfl⟩;change wpAnyH _ _ _ _ _ _ _ _ (W2.setCells g (o+(k+1)*14) (Av (val (Z k))));rw [hB];rw [hB] at hI;have hJ:=qh hB;clear hB;refine tkH (i:=16) (oi:=_) (v:=.pointer (some ⟨g,o+k*14,none⟩)) rfl (by kernel_rfl) (λ_ _ _ h=>h) (λV=>by go_simp) ?_
       try simp only [Act.put,qz]
       refine Ey 17 (by kernel_rfl) (by kernel_rfl) (λK1 hK=>?_);simp only [AU,AV];refine wp_store_mid 54 _ _ rfl g (o+k*14) (Av (val (Z (k+1)))).toArray rfl rfl hI.out (by kernel_rfl) (CU _) ?_;refine hK.out _ _ ?_;clear hK K1
       try simp only [Act.put,qz]
       refine wpAnyH_done (by kernel_rfl) ?_ _;clear q1 q2;go_wp2_with fail;go_roundw
       case rel=>exact ⟨k,_,by go_num,by omega,by omega,qh (by
        have:=hD.out.put (i:=k+1) (j:=k) (by omega) (by omega) (by omega);rw [hJ.out] at this
        exact this),qh (hL.out.trans (by rw [← hJ.out];exact RowS.put_but val g o _ _ _ _)),qh (by
        rw [L8];exact hs.out.trans (Sf HC.out.swo (by omega) (by omega) HV.out)),qh (by rw [L8];exact hd.out.step HC.out.swo (by omega) HV.out)⟩
       case measure=>simp [intOf]
     | false =>
      have hk:¬kk<0:=λh=>by rw [hA.1 h] at hv;cases hv
      have HV:=qh hv;clear hA hv;have hU:IntKind.i64.wrap ((i:Int)+1)=(i:Int)+1:=IntWalk.i64_in _ (by omega);go_wp2_with fail;go_roundw
      case rel=>exact ⟨i+1,Z,by go_num,by omega,by omega,hG,hH,hs,qh (hd.out.done HC.out.swo hF (Or.inr ⟨by omega,by simpa using HV.out⟩))⟩
      case measure=>simp [intOf];omega
    ·obtain rfl:a=j:=by omega
     have hj:¬(a:Int)<(a:Int):=by omega
     go_wp2_with fail;go_quiet (fail);go_wp2_with fail;go_roundw
     case rel=>exact ⟨i+1,Z,by go_num,by omega,by omega,qh (hr.out.block rfl),qh (hb.out.trans (ButOne.of_below (Aj (Below.refl _ wr) _))),hs,qh (hd.out.done HC.out.swo hF (Or.inl rfl))⟩
     case measure=>simp [intOf];omega
  ·have hl:¬(i:Int)<(b:Int):=by omega
   go_wp2_with fail;go_end0;exact ⟨rfl,Y,hr.out,hb.out,hs.out,hd.out.part (qn _) (by omega)⟩
end
end
section
open Go Go.RowKit Go.Deep
section
variable {α:Type}
theorem TR(val:α→Sgn)(lt:α→α→Bool)(c:Nat)(hc:CmpOk val lt c)(g o cap N a m b:Nat)(X:Nat→α)(w:World)(h1:m=a+1)(h2:m<b)(h3:b≤N)(hN:N≤1000000)(hR:RowS val g o N X w)(hu:Srt lt X m b) :
  Calls Tryz.prog 99 #[.slice (some ⟨g,o,none⟩) N cap,int i64 a,int i64 m,int i64 b,.func (.func c) #[] #[]] w (Iz val lt g o N X a b w):=by
 have hE:=hc.enter;have HR:=qh hR;have HC:=qh hc;have HU:=qh (show Srt lt X (a+1) b by rw [← h1];exact hu);have hT:a+1≤m:=by omega
 have hU:m≤a+1:=by omega
 clear hR hc hu h1;have w1:IntKind.i64.wrap ((m:Int)-(a:Int))=1:=(IntWalk.i64_in _ (by omega)).trans (by omega);go_enter Tryz.func99,Tryz.ntmps99;go_wp2_with fail;clear w1;go_loopw [10,11] (λiv jv wr=>∃i j:Nat,iv=int i64 i∧jv=int i64 j∧m≤i∧i≤j∧j≤b∧Hid (OneUp lt X a b i j)∧Hid (RowS val g o N X wr)∧Hid (ButOne g w wr)) (λiv jv _=>(intOf jv-intOf iv).toNat)
 case atStart=>exact ⟨m,b,rfl,rfl,qn _,by omega,qn _,qh ⟨by omega,λq q1 q2=>by omega,λq q1 q2=>by omega⟩,HR,qh (ButOne.refl _ _)⟩
 case round =>
  obtain ⟨i,j,rfl,rfl,hJ,hV,hL,hS,hr,hb⟩:=hrel;by_cases hM:i<j
  ·have hl:(i:Int)<(j:Int):=by omega
   obtain ⟨h,hh⟩:∃h:Nat,h=(i+j) / 2:=⟨_,rfl⟩;have hO:((i:Int)+(j:Int)) / 2=(h:Int):=by omega
   have q0:i≤h:=by omega
   have q1:h<j:=by omega
   have q2:(h:Int)<(N:Int):=by omega
   have q3:(a:Int)<(N:Int):=by omega
   clear hh;have HA:=qh (hr.out.block (w':=wr.drew) rfl).at_;have HD:=qh (And.intro (hr.out.block (w':=wr.drew) rfl) (hb.out.trans (ButOne.of_below (Below.refl _ wr).drew)));go_wp2_with fail;refine AM (λw2=>w2=wr.drew) 9 (by kernel_rfl) (by kernel_rfl) rfl ?_;intro w2 hS;subst hS;simp only [List.take_succ_cons,List.take_zero,List.drop_succ_cons,List.drop_zero]
   iterate 4 still_step
   refine AF (by kernel_rfl) 54 _ rfl g (o+h*14) rfl _ _ (HA.out h (by omega)) Tryz.underlying54 rfl (by kernel_rfl) ?_
   try simp only [Act.put,qz]
   iterate 3 still_step
   refine AF (by kernel_rfl) 54 _ rfl g (o+a*14) rfl _ _ (HA.out a (by omega)) Tryz.underlying54 rfl (by kernel_rfl) ?_
   try simp only [Act.put,qz]
   refine wpStill_nil ?_;go_wp2_with fail;refine (HC.out.calls _ _ _).mono ?_;rintro e wr3 ⟨kk,rfl,hA,hC⟩;have hF:=qh (HD.out.1.below hC);have hG:=qh (HD.out.2.trans (ButOne.of_below hC));clear hC HA HD
   cases hv:lt (X h) (X a) with
   | true =>
    have hk:kk<0:=hA.2 hv;have HV:=qh hv;clear hA hv;go_wp2_with fail;go_roundw
    case rel=>exact ⟨h+1,j,by go_num,rfl,by omega,by omega,hL,qh (hS.out.up HC.out.swo HU.out q0 q1 HV.out),hF,hG⟩
    case measure=>simp [intOf];omega
   | false =>
    have hk:¬kk<0:=λh=>by rw [hA.1 h] at hv;cases hv
    have HV:=qh hv;clear hA hv;go_wp2_with fail;go_roundw
    case rel=>exact ⟨i,h,rfl,rfl,hJ,q0,by omega,qh (hS.out.dn HC.out.swo HU.out q0 q1 HV.out),hF,hG⟩
    case measure=>simp [intOf];omega
  ·have hl:¬(i:Int)<(j:Int):=by omega
   obtain rfl:i=j:=by omega
   have wi:IntKind.i64.wrap ((i:Int)-1)=(i:Int)-1:=IntWalk.i64_in _ (by omega);have HF:=qh (hS.out.fin HC.out.swo HU.out);go_wp2_with fail;clear hl;go_loopw [13] (λkv wr=>∃k:Nat,kv=int i64 k∧a≤k∧k+1≤i∧Hid (RowS val g o N (rot X a (a+1) (k+1)) wr)∧Hid (ButOne g w wr)) (λkv _=>i-(intOf kv).toNat)
   case atStart=>exact ⟨a,rfl,qn _,by omega,qh (by rw [KV X a (a+1) (by omega)];exact hr.out),hb⟩
   case round =>
    obtain ⟨k,rfl,hP,hW,hr,hb⟩:=hrel;by_cases hM:k+1<i
    ·have hl:(k:Int)<(i:Int)-1:=by omega
     have e0:((k:Int)+1).toNat=k+1:=by omega
     have p0:(0:Int)≤(k:Int)+1:=by omega
     have q1:(k:Int)+1<(N:Int):=by omega
     have q2:(k:Int)<(N:Int):=by omega
     have wk:IntKind.i64.wrap ((k:Int)+1)=(k:Int)+1:=IntWalk.i64_in _ (by omega);have hD:=qh (hr.out.block (w':=wr.drew) rfl);have hQ:=qh (hb.out.trans (ButOne.of_below (Below.refl _ wr).drew));have HA:=qh hD.out.at_;have ht:=λk (hk:k<N)=>hD.out.there hk
     have HT:=qh ht;clear ht;go_wp2_with fail;clear hl;refine wp_region_held (S:=λ_=>True) (by kernel_rfl) ?_;change wpAnyH _ _ _ _ _ _ _ _ wr.drew;generalize wr.drew=W2 at *;refine tkH (i:=0) (oi:=_) (v:=.slice (some ⟨g,o,none⟩) N cap) rfl (by kernel_rfl) (λ_ _ _ h=>h) (λV=>by go_simp) ?_
     try simp only [Act.put,qz]
     refine tkH (i:=1) (oi:=_) (v:=int i64 (k:Nat)) rfl (by kernel_rfl) (λ_ _ _ h=>h) (λV=>by go_simp) ?_
     try simp only [Act.put,qz]
     refine tkH (i:=2) (oi:=_) (v:=.slice (some ⟨g,o,none⟩) N cap) rfl (by kernel_rfl) (λ_ _ _ h=>h) (λV=>by go_simp) ?_
     try simp only [Act.put,qz]
     refine tkH (i:=3) (oi:=_) (v:=int i64 (k:Nat)) rfl (by kernel_rfl) (λ_ _ _ h=>h) (λV=>by go_simp) ?_
     try simp only [Act.put,qz]
     refine tkH (i:=4) (oi:=_) (v:=int i64 ((k:Int)+1)) rfl (by kernel_rfl) (λ_ _ _ h=>h) (λV=>by go_simp) ?_
     try simp only [Act.put,qz]
     refine tkH (i:=5) (oi:=_) (v:=.slice (some ⟨g,o,none⟩) N cap) rfl (by kernel_rfl) (λ_ _ _ h=>h) (λV=>by go_simp) ?_
     try simp only [Act.put,qz]
     refine tkH (i:=6) (oi:=_) (v:=int i64 (k:Nat)) rfl (by kernel_rfl) (λ_ _ _ h=>h) (λV=>by go_simp) ?_
     try simp only [Act.put,qz]
     refine tkH (i:=7) (oi:=_) (v:=int i64 ((k:Int)+1)) rfl (by kernel_rfl) (λ_ _ _ h=>h) (λV=>by go_simp) ?_
     try simp only [Act.put,qz]
     refine tkH (i:=8) (oi:=_) (v:=.pointer (some ⟨g,o+(k+1)*14,none⟩)) rfl (by kernel_rfl) (λ_ _ _ h=>h) (λV=>by go_simp) ?_
     try simp only [Act.put,qz]
     refine tkH (i:=10) (oi:=_) (v:=.slice (some ⟨g,o,none⟩) N cap) rfl (by kernel_rfl) (λ_ _ _ h=>h) (λV=>by go_simp) ?_
     try simp only [Act.put,qz]
     refine tkH (i:=11) (oi:=_) (v:=int i64 (k:Nat)) rfl (by kernel_rfl) (λ_ _ _ h=>h) (λV=>by go_simp) ?_
     try simp only [Act.put,qz]
     refine tkH (i:=12) (oi:=_) (v:=.pointer (some ⟨g,o+k*14,none⟩)) rfl (by kernel_rfl) (λ_ _ _ h=>h) (λV=>by go_simp) ?_
     try simp only [Act.put,qz]
     refine wpAnyH_ready (rs:=[9,13]) (by kernel_rfl) (by simp) ?_;refine AllReadyH.cons (o:=_) rfl (λK1 hK=>?_) (AllReadyH.cons (o:=_) rfl (λK1 hK=>?_) AllReadyH.nil);rw [if_pos (by kernel_rfl)];refine wp_load_mid 54 _ rfl g _ rfl _ _ (HA.out (k+1) (by omega)) Tryz.underlying54 rfl (by kernel_rfl) ?_;refine hK.out _ _ trivial (λ_=>?_);clear hK K1
     try simp only [Act.put,qz]
     refine Ey 13 (by kernel_rfl) (by kernel_rfl) (λK1 hK=>?_);simp only [AU,AV];refine wp_load_mid 54 _ rfl g _ rfl _ _ (HA.out k (by omega)) Tryz.underlying54 rfl (by kernel_rfl) ?_;refine hK.out _ _ ?_;clear hK K1
     try simp only [Act.put,qz]
     rotate_left
     rw [if_pos (by kernel_rfl)];refine wp_load_mid 54 _ rfl g _ rfl _ _ (HA.out k (by omega)) Tryz.underlying54 rfl (by kernel_rfl) ?_;refine hK.out _ _ trivial (λ_=>?_);clear hK K1
     try simp only [Act.put,qz]
     refine Ey 9 (by kernel_rfl) (by kernel_rfl) (λK1 hK=>?_);simp only [AU,AV];refine wp_load_mid 54 _ rfl g _ rfl _ _ (HA.out (k+1) (by omega)) Tryz.underlying54 rfl (by kernel_rfl) ?_;refine hK.out _ _ ?_;clear hK K1
     try simp only [Act.put,qz]
     all_goals
      refine tkH (i:=14) (oi:=_) (v:=.pointer (some ⟨g,o+k*14,none⟩)) rfl (by kernel_rfl) (λ_ _ _ h=>h) (λV=>by go_simp) ?_
      try simp only [Act.put,qz]
      refine Ey 15 (by kernel_rfl) (by kernel_rfl) (λK1 hK=>?_);simp only [AU,AV];refine wp_store_mid 54 _ _ rfl g (o+k*14) (Av (val (rot X a (a+1) (k+1) (k+1)))).toArray rfl rfl (En (HT.out k (by omega)) _) (by kernel_rfl) (CU _) ?_;refine hK.out _ _ ?_;clear hK K1
      try simp only [Act.put,qz]
      have hH:=qh (World.there_setCells (En (HT.out (k+1) (by omega)) (val (rot X a (a+1) (k+1) k))) g (o+k*14) (Av (val (rot X a (a+1) (k+1) (k+1)))));obtain ⟨W3,hB⟩:∃W3,W2.setCells g (o+k*14) (Av (val (rot X a (a+1) (k+1) (k+1))))=W3:=⟨_,rfl⟩;change wpAnyH _ _ _ _ _ _ _ _ (W2.setCells g (o+k*14) (Av (val (rot X a (a+1) (k+1) (k+1)))));rw [hB];rw [hB] at hH;have hI:=qh hB;clear hB;refine tkH (i:=16) (oi:=_) (v:=.pointer (some ⟨g,o+(k+1)*14,none⟩)) rfl (by kernel_rfl) (λ_ _ _ h=>h) (λV=>by go_simp) ?_
      try simp only [Act.put,qz]
      refine Ey 17 (by kernel_rfl) (by kernel_rfl) (λK1 hK=>?_);simp only [AU,AV];refine wp_store_mid 54 _ _ rfl g (o+(k+1)*14) (Av (val (rot X a (a+1) (k+1) k))).toArray rfl rfl hH.out (by kernel_rfl) (CU _) ?_;refine hK.out _ _ ?_;clear hK K1
      try simp only [Act.put,qz]
      refine wpAnyH_done (by kernel_rfl) ?_ _;clear q1 q2;go_wp2_with fail;go_roundw
      case rel=>exact ⟨k+1,by go_num,by omega,by omega,qh (by
       have:=hD.out.put (i:=k) (j:=k+1) (by omega) (by omega) (by omega);rw [hI.out,Oa X hP] at this
       exact this),qh (hQ.out.trans (by rw [← hI.out];exact RowS.put_but val g o _ _ _ _))⟩
      case measure=>simp [intOf];omega
    ·have hl:¬(k:Int)<(i:Int)-1:=by omega
     have HI:=qh (show i=k+1 by omega);go_wp2_with fail;go_end0;exact ⟨rfl,_,by rw [← HI.out] at hr;exact hr.out,hb.out,HF.out.1,HF.out.2⟩
theorem TS(val:α→Sgn)(lt:α→α→Bool)(c:Nat)(hc:CmpOk val lt c)(g o cap N a m b:Nat)(X:Nat→α)(w:World)(h1:a+1<m)(h2:b=m+1)(h3:b≤N)(hN:N≤1000000)(hR:RowS val g o N X w)(hu:Srt lt X a m) :
  Calls Tryz.prog 99 #[.slice (some ⟨g,o,none⟩) N cap,int i64 a,int i64 m,int i64 b,.func (.func c) #[] #[]] w (Iz val lt g o N X a b w):=by
 have hE:=hc.enter;have HR:=qh hR;have HC:=qh hc;have HU:=qh hu;have HM:=qh h2;have hU:m+1≤b:=by omega
 have hV:b≤m+1:=by omega
 clear hR hc hu h2;have w1:IntKind.i64.wrap ((m:Int)-(a:Int))=((m-a:Nat):Int):=(IntWalk.i64_in _ (by omega)).trans (by omega);have w2:IntKind.i64.wrap ((b:Int)-(m:Int))=1:=(IntWalk.i64_in _ (by omega)).trans (by omega);have w3:¬((m-a:Nat):Int)=1:=by omega
 have w4:(((m-a:Nat):Int)==1)=false:=by simpa using w3
 generalize hF:m-a=ma at *;have hW:=qh hF;clear hF;go_enter Tryz.func99,Tryz.ntmps99;go_wp2_with fail;clear w1 w2 w3 w4;go_loopw [14,15] (λiv jv wr=>∃i j:Nat,iv=int i64 i∧jv=int i64 j∧a≤i∧i≤j∧j≤m∧Hid (OneDn lt X a m i j)∧Hid (RowS val g o N X wr)∧Hid (ButOne g w wr)) (λiv jv _=>(intOf jv-intOf iv).toNat)
 case atStart=>exact ⟨a,m,rfl,rfl,qn _,by omega,qn _,qh ⟨by omega,λq q1 q2=>by omega,λq q1 q2=>by omega⟩,HR,qh (ButOne.refl _ _)⟩
 case round =>
  obtain ⟨i,j,rfl,rfl,hL,hX,hM,hS,hr,hb⟩:=hrel;by_cases hO:i<j
  ·have hl:(i:Int)<(j:Int):=by omega
   obtain ⟨h,hh⟩:∃h:Nat,h=(i+j) / 2:=⟨_,rfl⟩;have hP:((i:Int)+(j:Int)) / 2=(h:Int):=by omega
   have q0:i≤h:=by omega
   have q1:h<j:=by omega
   have q2:(h:Int)<(N:Int):=by omega
   have q3:(m:Int)<(N:Int):=by omega
   clear hh;have HA:=qh (hr.out.block (w':=wr.drew) rfl).at_;have HD:=qh (And.intro (hr.out.block (w':=wr.drew) rfl) (hb.out.trans (ButOne.of_below (Below.refl _ wr).drew)));go_wp2_with fail;refine AM (λw2=>w2=wr.drew) 9 (by kernel_rfl) (by kernel_rfl) rfl ?_;intro w2 hS;subst hS;simp only [List.take_succ_cons,List.take_zero,List.drop_succ_cons,List.drop_zero]
   iterate 4 still_step
   refine AF (by kernel_rfl) 54 _ rfl g (o+m*14) rfl _ _ (HA.out m (by omega)) Tryz.underlying54 rfl (by kernel_rfl) ?_
   try simp only [Act.put,qz]
   iterate 3 still_step
   refine AF (by kernel_rfl) 54 _ rfl g (o+h*14) rfl _ _ (HA.out h (by omega)) Tryz.underlying54 rfl (by kernel_rfl) ?_
   try simp only [Act.put,qz]
   refine wpStill_nil ?_;go_wp2_with fail;refine (HC.out.calls _ _ _).mono ?_;rintro e wr3 ⟨kk,rfl,hA,hC⟩;have hG:=qh (HD.out.1.below hC);have hH:=qh (HD.out.2.trans (ButOne.of_below hC));clear hC HA HD
   cases hv:lt (X m) (X h) with
   | true =>
    have hk:kk<0:=hA.2 hv;have HV:=qh hv;clear hA hv;go_wp2_with fail;go_roundw
    case rel=>exact ⟨i,h,rfl,rfl,hL,q0,by omega,qh (hS.out.dn HC.out.swo HU.out q0 q1 HV.out),hG,hH⟩
    case measure=>simp [intOf];omega
   | false =>
    have hk:¬kk<0:=λh=>by rw [hA.1 h] at hv;cases hv
    have hY:decide (kk<0)=false:=by simpa using hk
    clear hk;have HV:=qh hv;clear hA hv;go_wp2_with fail;go_roundw
    case rel=>exact ⟨h+1,j,by go_num,rfl,by omega,by omega,hM,qh (hS.out.up HC.out.swo HU.out q0 q1 HV.out),hG,hH⟩
    case measure=>simp [intOf];omega
  ·have hl:¬(i:Int)<(j:Int):=by omega
   obtain rfl:i=j:=by omega
   have HF:=qh (hS.out.fin HC.out.swo HU.out);go_wp2_with fail;clear hl;go_loopw [17] (λkv wr=>∃k:Nat,kv=int i64 k∧i≤k∧k≤m∧Hid (RowS val g o N (rot X k m (m+1)) wr)∧Hid (ButOne g w wr)) (λkv _=>(intOf kv).toNat)
   case atStart=>exact ⟨m,rfl,by omega,qn _,qh (by rw [Ja X m (m+1) (by omega)];exact hr.out),hb⟩
   case round =>
    obtain ⟨k,rfl,hZ,hQ,hr,hb⟩:=hrel;by_cases hO:i<k
    ·obtain ⟨k,rfl⟩:∃k',k=k'+1:=⟨k-1,by omega⟩
     have hl:(i:Int)<(k:Int)+1:=by omega
     have e0:((k:Int)+1).toNat=k+1:=by omega
     have p0:(0:Int)≤(k:Int)+1:=by omega
     have q1:(k:Int)+1<(N:Int):=by omega
     have q2:(k:Int)<(N:Int):=by omega
     have wk:IntKind.i64.wrap (k:Int)=(k:Int):=IntWalk.i64_in _ (by omega);have hD:=qh (hr.out.block (w':=wr.drew) rfl);have hT:=qh (hb.out.trans (ButOne.of_below (Below.refl _ wr).drew));have HA:=qh hD.out.at_;have ht:=λk (hk:k<N)=>hD.out.there hk
     have HT:=qh ht;clear ht;go_wp2_with fail;clear hl;refine wp_region_held (S:=λ_=>True) (by kernel_rfl) ?_;change wpAnyH _ _ _ _ _ _ _ _ wr.drew;generalize wr.drew=W2 at *;refine tkH (i:=0) (oi:=_) (v:=.slice (some ⟨g,o,none⟩) N cap) rfl (by kernel_rfl) (λ_ _ _ h=>h) (λV=>by go_simp) ?_
     try simp only [Act.put,qz]
     refine tkH (i:=1) (oi:=_) (v:=int i64 ((k:Int)+1)) rfl (by kernel_rfl) (λ_ _ _ h=>h) (λV=>by go_simp) ?_
     try simp only [Act.put,qz]
     refine tkH (i:=2) (oi:=_) (v:=.slice (some ⟨g,o,none⟩) N cap) rfl (by kernel_rfl) (λ_ _ _ h=>h) (λV=>by go_simp) ?_
     try simp only [Act.put,qz]
     refine tkH (i:=3) (oi:=_) (v:=int i64 ((k:Int)+1)) rfl (by kernel_rfl) (λ_ _ _ h=>h) (λV=>by go_simp) ?_
     try simp only [Act.put,qz]
     refine tkH (i:=4) (oi:=_) (v:=int i64 (k:Nat)) rfl (by kernel_rfl) (λ_ _ _ h=>h) (λV=>by go_simp) ?_
     try simp only [Act.put,qz]
     refine tkH (i:=5) (oi:=_) (v:=.slice (some ⟨g,o,none⟩) N cap) rfl (by kernel_rfl) (λ_ _ _ h=>h) (λV=>by go_simp) ?_
     try simp only [Act.put,qz]
     refine tkH (i:=6) (oi:=_) (v:=int i64 ((k:Int)+1)) rfl (by kernel_rfl) (λ_ _ _ h=>h) (λV=>by go_simp) ?_
     try simp only [Act.put,qz]
     refine tkH (i:=7) (oi:=_) (v:=int i64 (k:Nat)) rfl (by kernel_rfl) (λ_ _ _ h=>h) (λV=>by go_simp) ?_
     try simp only [Act.put,qz]
     refine tkH (i:=8) (oi:=_) (v:=.pointer (some ⟨g,o+k*14,none⟩)) rfl (by kernel_rfl) (λ_ _ _ h=>h) (λV=>by go_simp) ?_
     try simp only [Act.put,qz]
     refine tkH (i:=10) (oi:=_) (v:=.slice (some ⟨g,o,none⟩) N cap) rfl (by kernel_rfl) (λ_ _ _ h=>h) (λV=>by go_simp) ?_
     try simp only [Act.put,qz]
     refine tkH (i:=11) (oi:=_) (v:=int i64 ((k:Int)+1)) rfl (by kernel_rfl) (λ_ _ _ h=>h) (λV=>by go_simp) ?_
     try simp only [Act.put,qz]
     refine tkH (i:=12) (oi:=_) (v:=.pointer (some ⟨g,o+(k+1)*14,none⟩)) rfl (by kernel_rfl) (λ_ _ _ h=>h) (λV=>by go_simp) ?_
     try simp only [Act.put,qz]
     refine wpAnyH_ready (rs:=[9,13]) (by kernel_rfl) (by simp) ?_;refine AllReadyH.cons (o:=_) rfl (λK1 hK=>?_) (AllReadyH.cons (o:=_) rfl (λK1 hK=>?_) AllReadyH.nil);rw [if_pos (by kernel_rfl)];refine wp_load_mid 54 _ rfl g _ rfl _ _ (HA.out k (by omega)) Tryz.underlying54 rfl (by kernel_rfl) ?_;refine hK.out _ _ trivial (λ_=>?_);clear hK K1
     try simp only [Act.put,qz]
     refine Ey 13 (by kernel_rfl) (by kernel_rfl) (λK1 hK=>?_);simp only [AU,AV];refine wp_load_mid 54 _ rfl g _ rfl _ _ (HA.out (k+1) (by omega)) Tryz.underlying54 rfl (by kernel_rfl) ?_;refine hK.out _ _ ?_;clear hK K1
     try simp only [Act.put,qz]
     rotate_left
     rw [if_pos (by kernel_rfl)];refine wp_load_mid 54 _ rfl g _ rfl _ _ (HA.out (k+1) (by omega)) Tryz.underlying54 rfl (by kernel_rfl) ?_;refine hK.out _ _ trivial (λ_=>?_);clear hK K1
     try simp only [Act.put,qz]
     refine Ey 9 (by kernel_rfl) (by kernel_rfl) (λK1 hK=>?_);simp only [AU,AV];refine wp_load_mid 54 _ rfl g _ rfl _ _ (HA.out k (by omega)) Tryz.underlying54 rfl (by kernel_rfl) ?_;refine hK.out _ _ ?_;clear hK K1
     try simp only [Act.put,qz]
     all_goals
      refine tkH (i:=14) (oi:=_) (v:=.pointer (some ⟨g,o+(k+1)*14,none⟩)) rfl (by kernel_rfl) (λ_ _ _ h=>h) (λV=>by go_simp) ?_
      try simp only [Act.put,qz]
      refine Ey 15 (by kernel_rfl) (by kernel_rfl) (λK1 hK=>?_);simp only [AU,AV];refine wp_store_mid 54 _ _ rfl g (o+(k+1)*14) (Av (val (rot X (k+1) m (m+1) k))).toArray rfl rfl (En (HT.out (k+1) (by omega)) _) (by kernel_rfl) (CU _) ?_;refine hK.out _ _ ?_;clear hK K1
      try simp only [Act.put,qz]
      have hI:=qh (World.there_setCells (En (HT.out k (by omega)) (val (rot X (k+1) m (m+1) (k+1)))) g (o+(k+1)*14) (Av (val (rot X (k+1) m (m+1) k))));obtain ⟨W3,hB⟩:∃W3,W2.setCells g (o+(k+1)*14) (Av (val (rot X (k+1) m (m+1) k)))=W3:=⟨_,rfl⟩;change wpAnyH _ _ _ _ _ _ _ _ (W2.setCells g (o+(k+1)*14) (Av (val (rot X (k+1) m (m+1) k))));rw [hB];rw [hB] at hI;have hJ:=qh hB;clear hB;refine tkH (i:=16) (oi:=_) (v:=.pointer (some ⟨g,o+k*14,none⟩)) rfl (by kernel_rfl) (λ_ _ _ h=>h) (λV=>by go_simp) ?_
      try simp only [Act.put,qz]
      refine Ey 17 (by kernel_rfl) (by kernel_rfl) (λK1 hK=>?_);simp only [AU,AV];refine wp_store_mid 54 _ _ rfl g (o+k*14) (Av (val (rot X (k+1) m (m+1) (k+1)))).toArray rfl rfl hI.out (by kernel_rfl) (CU _) ?_;refine hK.out _ _ ?_;clear hK K1
      try simp only [Act.put,qz]
      refine wpAnyH_done (by kernel_rfl) ?_ _;clear q1 q2;go_wp2_with fail;go_roundw
      case rel=>exact ⟨k,by go_num,by omega,by omega,qh (by
       have:=hD.out.put (i:=k+1) (j:=k) (by omega) (by omega) (by omega);rw [hJ.out,Qd X hQ] at this
       exact this),qh (hT.out.trans (by rw [← hJ.out];exact RowS.put_but val g o _ _ _ _))⟩
      case measure=>simp [intOf]
    ·have hl:¬(i:Int)<(k:Int):=by omega
     obtain rfl:i=k:=by omega
     go_wp2_with fail;go_end0;exact ⟨rfl,_,hr.out,hb.out,by rw [HM.out];exact HF.out.1,by rw [HM.out];exact HF.out.2⟩
end
end
section
open Go Go.RowKit Go.Deep
section
variable {α:Type}
def Crs(lt:α→α→Bool)(Y:Nat→α)(a d b:Nat):Prop:=∀p q,a≤p→p<d→d≤q→q<b→lt (Y q) (Y p)=false
theorem Crs.stb{lt:α→α→Bool}{Y Z:Nat→α}{a d b:Nat}(hS:SwO lt)(h:Crs lt Y a d b)(k:Stb lt Y Z a d):Crs lt Z a d b:=λp q p1 p2 q1 q2=>by
 obtain ⟨p',b1,b2,b3⟩:=k.mem hS p1 p2;rw [← b3,k.out q (Or.inr q1)];exact h p' q b1 b2 q1 q2
def Ox(val:α→Sgn)(lt:α→α→Bool)(c g o cap N z:Nat):Prop:=∀a m b:Nat,b-a<z→a<m→m<b→b≤N→∀(Y:Nat→α) (V:World),RowS val g o N Y V→(Srt lt Y a m∧Srt lt Y m b)→Calls Tryz.prog 99 #[.slice (some ⟨g,o,none⟩) N cap,int i64 a,int i64 m,int i64 b,.func (.func c) #[] #[]] V (Iz val lt g o N Y a b V)
noncomputable def FD:Code:=(Tryz.f99.body).getD .skip
noncomputable def JP:Code:=Ab 10 FD
noncomputable def JQ:Code:=Ab 11 FD
noncomputable def GE:Code:=Ab 7 FD
theorem Vv(val:α→Sgn)(lt:α→α→Bool)(c:Nat)(hS:SwO lt)(g o cap N a m b mid s e:Nat)(X Y:Nat→α)(w V:World)(ih:Ox val lt c g o cap N (b-a))(h1:a<mid)(h2:mid≤e)(h3:e≤b)(h4:b≤N)(hR:RowS val g o N Y V)(hb:ButOne g w V)(hx:Stb lt X Y a b)
  (s1:Srt lt Y a mid) (s2:Srt lt Y mid e) (s3:Srt lt Y e b) (hc:Crs lt Y a mid b) (e5 e6 e7 e8 e9 ea eb ec ed ee ef eg eh ei ej ek el em en eo ep eq er es et eu ev ew ex ey ez eA eB eC eD eE eF eG eH eI eJ eK eL eM eN eO eP eQ eR eS eT eU eV eW eX eY eZ aa ab ac ae af ag ah ai aj ak al am an ao ap aq ar au av aw ax ay az aA aB aC aD aE aF aG aH aI aJ aK aL aM aN aO aP aQ aR aS aT aU aV aW aX aY aZ ba bb bc bd be bf bg bh bi bj bk bl bm bn bo bp bq br bs bt bu bv bw bx bz bA bB bC bD bE bF bG bH bI bJ bK bL bM bN bO bP bQ bR bS bT bU bV bW bY bZ ca cb cc cd ce cf cg ch ci cj ck cm cn co cp cq cr cs ct cu cv cw cx cy cz cA cB cC cD cE cF cG cH cI cJ cK cL cM cN cO cP cQ cR cS cT cU cV cW cX cY cZ da db dc dd de:Value):Code.wp Tryz.prog JQ (bodyPost Tryz.prog Tryz.f99 (Iz val lt g o N X a b w)) { tmps:=#[.slice (some ⟨g,o,none⟩) N cap,int i64 (a:Nat),int i64 (m:Nat),int i64 (b:Nat),.func (.func c) #[] #[],e5,e6,e7,e8,e9,ea,eb,ec,ed,ee,ef,eg,eh,int i64 (mid:Nat),ei,int i64 (s:Nat),ej,ek,el,int i64 (e:Nat),em,en,eo,ep,eq,er,es,et,eu,ev,ew,ex,ey,ez,eA,eB,eC,eD,eE,eF,eG,eH,eI,eJ,eK,eL,eM,eN,eO,eP,eQ,eR,eS,eT,eU,eV,eW,eX,eY,eZ,aa,ab,ac,ae,af,ag,ah,ai,aj,ak,al,am,an,ao,ap,aq,ar,au,av,aw,ax,ay,az,aA,aB,aC,aD,aE,aF,aG,aH,aI,aJ,aK,aL,aM,aN,aO,aP,aQ,aR,aS,aT,aU,aV,aW,aX,aY,aZ,ba,bb,bc,bd,be,bf,bg,bh,bi,bj,bk,bl,bm,bn,bo,bp,bq,br,bs,bt,bu,bv,bw,bx,bz,bA,bB,bC,bD,bE,bF,bG,bH,bI,bJ,bK,bL,bM,bN,bO,bP,bQ,bR,bS,bT,bU,bV,bW,bY,bZ,ca,cb,cc,cd,ce,cf,cg,ch,ci,cj,ck,cm,cn,co,cp,cq,cr,cs,ct,cu,cv,cw,cx,cy,cz,cA,cB,cC,cD,cE,cF,cG,cH,cI,cJ,cK,cL,cM,cN,cO,cP,cQ,cR,cS,cT,cU,cV,cW,cX,cY,cZ,da,db,dc,dd,de],defers:=[] } V:=by
 have IH:=qh ih;have HR:=qh hR;have HB:=qh hb;have HX:=qh hx;have S1:=qh s1;have S2:=qh (And.intro s2 s3);have HC:=qh hc;have HS:=qh hS;have HW:=qh (show (mid=e∨e=b)→Srt lt Y a b from λh=>Srt.join s1 (by rcases h with h|h<;>subst h<;>assumption) hc);clear ih hR hb hx s1 s2 s3 hc hS;unfold JQ FD
 conv=>arg 2;whnf
 by_cases q1:mid<e
 ·by_cases q2:e<b
  ·have k1:(mid:Int)<(e:Int):=by omega
   have k2:(e:Int)<(b:Int):=by omega
   go_wp2_with (go_at_call 99;refine (IH.out mid e b (by omega) (by omega) (by omega) (by omega) _ _ HR.out S2.out).mono ?_;rintro e2 V2 ⟨rfl,Z,hA,hB,hC,hD⟩;have HZ:=qh (And.intro hA (And.intro hB (And.intro hC hD)));clear hA hB hC hD);go_end0;have hj:=Nt HS.out ⟨Nat.le_of_lt h1,by omega⟩ HC.out (Stb.refl _ _ _ _) S1.out HZ.out.2.2.1 HZ.out.2.2.2;exact ⟨rfl,Z,HZ.out.1,HB.out.trans HZ.out.2.1,HX.out.trans hj.1,hj.2⟩
  ·have k1:(mid:Int)<(e:Int):=by omega
   have k2:¬(e:Int)<(b:Int):=by omega
   go_wp2_with fail;go_end0;exact ⟨rfl,Y,HR.out,HB.out,HX.out,HW.out (Or.inr (by omega))⟩
 ·have k1:¬(mid:Int)<(e:Int):=by omega
  go_wp2_with fail;go_end0;exact ⟨rfl,Y,HR.out,HB.out,HX.out,HW.out (Or.inl (by omega))⟩
theorem Vu(val:α→Sgn)(lt:α→α→Bool)(c:Nat)(hS:SwO lt)(g o cap N a m b mid s e:Nat)(X Y:Nat→α)(w V:World)(ih:Ox val lt c g o cap N (b-a))(h0:a≤s∧s≤mid)(h1:a<mid)(h2:mid≤e)(h3:e≤b)(h4:b≤N)(hF:mid<b)(hR:RowS val g o N Y V)(hb:ButOne g w V)(hx:Stb lt X Y a b)
  (r1:Srt lt Y a s) (r2:Srt lt Y s mid) (s2:Srt lt Y mid e) (s3:Srt lt Y e b) (hc:Crs lt Y a mid b) (e5 e6 e7 e8 e9 ea eb ec ed ee ef eg eh ei ej ek el em en eo ep eq er es et eu ev ew ex ey ez eA eB eC eD eE eF eG eH eI eJ eK eL eM eN eO eP eQ eR eS eT eU eV eW eX eY eZ aa ab ac ae af ag ah ai aj ak al am an ao ap aq ar au av aw ax ay az aA aB aC aD aE aF aG aH aI aJ aK aL aM aN aO aP aQ aR aS aT aU aV aW aX aY aZ ba bb bc bd be bf bg bh bi bj bk bl bm bn bo bp bq br bs bt bu bv bw bx bz bA bB bC bD bE bF bG bH bI bJ bK bL bM bN bO bP bQ bR bS bT bU bV bW bY bZ ca cb cc cd ce cf cg ch ci cj ck cm cn co cp cq cr cs ct cu cv cw cx cy cz cA cB cC cD cE cF cG cH cI cJ cK cL cM cN cO cP cQ cR cS cT cU cV cW cX cY cZ da db dc dd de:Value):Code.wp Tryz.prog JP (bodyPost Tryz.prog Tryz.f99 (Iz val lt g o N X a b w)) { tmps:=#[.slice (some ⟨g,o,none⟩) N cap,int i64 (a:Nat),int i64 (m:Nat),int i64 (b:Nat),.func (.func c) #[] #[],e5,e6,e7,e8,e9,ea,eb,ec,ed,ee,ef,eg,eh,int i64 (mid:Nat),ei,int i64 (s:Nat),ej,ek,el,int i64 (e:Nat),em,en,eo,ep,eq,er,es,et,eu,ev,ew,ex,ey,ez,eA,eB,eC,eD,eE,eF,eG,eH,eI,eJ,eK,eL,eM,eN,eO,eP,eQ,eR,eS,eT,eU,eV,eW,eX,eY,eZ,aa,ab,ac,ae,af,ag,ah,ai,aj,ak,al,am,an,ao,ap,aq,ar,au,av,aw,ax,ay,az,aA,aB,aC,aD,aE,aF,aG,aH,aI,aJ,aK,aL,aM,aN,aO,aP,aQ,aR,aS,aT,aU,aV,aW,aX,aY,aZ,ba,bb,bc,bd,be,bf,bg,bh,bi,bj,bk,bl,bm,bn,bo,bp,bq,br,bs,bt,bu,bv,bw,bx,bz,bA,bB,bC,bD,bE,bF,bG,bH,bI,bJ,bK,bL,bM,bN,bO,bP,bQ,bR,bS,bT,bU,bV,bW,bY,bZ,ca,cb,cc,cd,ce,cf,cg,ch,ci,cj,ck,cm,cn,co,cp,cq,cr,cs,ct,cu,cv,cw,cx,cy,cz,cA,cB,cC,cD,cE,cF,cG,cH,cI,cJ,cK,cL,cM,cN,cO,cP,cQ,cR,cS,cT,cU,cV,cW,cX,cY,cZ,da,db,dc,dd,de],defers:=[] } V:=by
 obtain ⟨hG,hH⟩:=h0;have HN:=qh (λ(Y:Nat→α) (V:World) (hR:RowS val g o N Y V) (hb:ButOne g w V) (hx:Stb lt X Y a b) (s1:Srt lt Y a mid) (s2:Srt lt Y mid e) (s3:Srt lt Y e b) (hc:Crs lt Y a mid b)=>Vv val lt c hS g o cap N a m b mid s e X Y w V ih h1 h2 h3 h4 hR hb hx s1 s2 s3 hc);have IH:=qh ih;have HR:=qh hR;have HB:=qh hb;have HX:=qh hx;have S1:=qh (And.intro r1 r2);have S2:=qh (And.intro s2 s3);have HC:=qh hc;have HS:=qh hS;have HW:=qh (show (a=s∨s=mid)→Srt lt Y a mid from λh=>by rcases h with h|h<;>subst h<;>assumption);clear ih hR hb hx r1 r2 s2 s3 hc hS;unfold JP FD
 conv=>arg 2;whnf
 change Code.wp Tryz.prog (.seq _ JQ) _ _ _;by_cases q1:a<s
 ·by_cases q2:s<mid
  ·have k1:(a:Int)<(s:Int):=by omega
   have k2:(s:Int)<(mid:Int):=by omega
   go_wp2_with (go_at_call 99;refine (IH.out a s mid (by omega) (by omega) (by omega) (by omega) _ _ HR.out S1.out).mono ?_;rintro e2 V2 ⟨rfl,Z,hB,hC,hD,hE⟩;have HZ:=qh (And.intro hB (And.intro hC (And.intro hD hE)));clear hB hC hD hE);exact HN.out Z _ HZ.out.1 (HB.out.trans HZ.out.2.1) (HX.out.trans (HZ.out.2.2.1.wide (qn _) (by omega) (by omega))) HZ.out.2.2.2 (S2.out.1.congr λi i1 _=>HZ.out.2.2.1.out i (Or.inr i1)) (S2.out.2.congr λi i1 _=>HZ.out.2.2.1.out i (Or.inr (by omega))) (HC.out.stb HS.out HZ.out.2.2.1) _ _ _ _ _ _ _ _ _ _ _ _ _ _ _ _ _ _ _ _ _ _ _ _ _ _ _ _ _ _ _ _ _ _ _ _ _ _ _ _ _ _ _ _ _ _ _ _ _ _ _ _ _ _ _ _ _ _ _ _ _ _ _ _ _ _ _ _ _ _ _ _ _ _ _ _ _ _ _ _ _ _ _ _ _ _ _ _ _ _ _ _ _ _ _ _ _ _ _ _ _ _ _ _ _ _ _ _ _ _ _ _ _ _ _ _ _ _ _ _ _ _ _ _ _ _ _ _ _ _ _ _ _ _ _ _ _ _ _ _ _ _ _ _ _ _ _ _ _ _ _ _ _ _ _ _ _ _ _ _ _ _ _ _ _ _ _ _ _ _ _ _ _ _ _ _ _ _ _ _ _ _ _ _ _ _ _ _ _ _ _ _ _ _ _ _ _ _ _ _ _ _ _ _ _ _ _ _ _ _ _ _
  ·have k1:(a:Int)<(s:Int):=by omega
   have k2:¬(s:Int)<(mid:Int):=by omega
   have hA:=qh (HW.out (Or.inr (by omega)));go_wp2_with fail;exact HN.out Y _ HR.out HB.out HX.out hA.out S2.out.1 S2.out.2 HC.out _ _ _ _ _ _ _ _ _ _ _ _ _ _ _ _ _ _ _ _ _ _ _ _ _ _ _ _ _ _ _ _ _ _ _ _ _ _ _ _ _ _ _ _ _ _ _ _ _ _ _ _ _ _ _ _ _ _ _ _ _ _ _ _ _ _ _ _ _ _ _ _ _ _ _ _ _ _ _ _ _ _ _ _ _ _ _ _ _ _ _ _ _ _ _ _ _ _ _ _ _ _ _ _ _ _ _ _ _ _ _ _ _ _ _ _ _ _ _ _ _ _ _ _ _ _ _ _ _ _ _ _ _ _ _ _ _ _ _ _ _ _ _ _ _ _ _ _ _ _ _ _ _ _ _ _ _ _ _ _ _ _ _ _ _ _ _ _ _ _ _ _ _ _ _ _ _ _ _ _ _ _ _ _ _ _ _ _ _ _ _ _ _ _ _ _ _ _ _ _ _ _ _ _ _ _ _ _ _ _ _ _
 ·have k1:¬(a:Int)<(s:Int):=by omega
  have hA:=qh (HW.out (Or.inl (by omega)));go_wp2_with fail;exact HN.out Y _ HR.out HB.out HX.out hA.out S2.out.1 S2.out.2 HC.out _ _ _ _ _ _ _ _ _ _ _ _ _ _ _ _ _ _ _ _ _ _ _ _ _ _ _ _ _ _ _ _ _ _ _ _ _ _ _ _ _ _ _ _ _ _ _ _ _ _ _ _ _ _ _ _ _ _ _ _ _ _ _ _ _ _ _ _ _ _ _ _ _ _ _ _ _ _ _ _ _ _ _ _ _ _ _ _ _ _ _ _ _ _ _ _ _ _ _ _ _ _ _ _ _ _ _ _ _ _ _ _ _ _ _ _ _ _ _ _ _ _ _ _ _ _ _ _ _ _ _ _ _ _ _ _ _ _ _ _ _ _ _ _ _ _ _ _ _ _ _ _ _ _ _ _ _ _ _ _ _ _ _ _ _ _ _ _ _ _ _ _ _ _ _ _ _ _ _ _ _ _ _ _ _ _ _ _ _ _ _ _ _ _ _ _ _ _ _ _ _ _ _ _ _ _ _ _ _ _ _ _
theorem Vw(val:α→Sgn)(lt:α→α→Bool)(c:Nat)(hc:CmpOk val lt c)(g o cap N a m b mid n p lo hi:Nat)(X:Nat→α)(w V:World)(ih:Ox val lt c g o cap N (b-a))(h1:a<m)(h2:m<b)(h3:b≤N)(hN:N≤1000000)(hm:mid=(a+b) / 2)(hn:n=mid+m)(hp:p+1=n)
  (hq:(mid<m∧lo=n-b∧hi=mid)∨(m≤mid∧lo=a∧hi=m)) (hR:RowS val g o N X V) (hb:ButOne g w V) (s1:Srt lt X a m) (s2:Srt lt X m b) (e5 e6 e7 e8 e9 ea eb ec ed ee ef eg eh ei ej ek el em en eo ep eq er es et eu ev ew ex ey ez eA eB eC eD eE eF eG eH eI eJ eK eL eM eN eO eP eQ eR eS eT eU eV eW eX eY eZ aa ab ac ae af ag ah ai aj ak al am an ao ap aq ar au av aw ax ay az aA aB aC aD aE aF aG aH aI aJ aK aL aM aN aO aP aQ aR aS aT aU aV aW aX aY aZ ba bb bc bd be bf bg bh bi bj bk bl bm bn bo bp bq br bs bt bu bv bw bx bz bA bB bC bD bE bF bG bH bI bJ bK bL bM bN bO bP bQ bR bS bT bU bV bW bY bZ ca cb cc cd ce cf cg ch ci cj ck cm cn co cp cq cr cs ct cu cv cw cx cy cz cA cB cC cD cE cF cG cH cI cJ cK cL cM cN cO cP cQ cR cS cT cU cV cW cX cY cZ da db dc:Value):Code.wp Tryz.prog GE (bodyPost Tryz.prog Tryz.f99 (Iz val lt g o N X a b w)) { tmps:=#[.slice (some ⟨g,o,none⟩) N cap,int i64 (a:Nat),int i64 (m:Nat),int i64 (b:Nat),.func (.func c) #[] #[],e5,e6,e7,e8,e9,ea,eb,ec,ed,ee,ef,eg,eh,int i64 (mid:Nat),int i64 (n:Nat),int i64 (lo:Nat),int i64 (hi:Nat),int i64 (p:Nat),ei,ej,ek,el,em,en,eo,ep,eq,er,es,et,eu,ev,ew,ex,ey,ez,eA,eB,eC,eD,eE,eF,eG,eH,eI,eJ,eK,eL,eM,eN,eO,eP,eQ,eR,eS,eT,eU,eV,eW,eX,eY,eZ,aa,ab,ac,ae,af,ag,ah,ai,aj,ak,al,am,an,ao,ap,aq,ar,au,av,aw,ax,ay,az,aA,aB,aC,aD,aE,aF,aG,aH,aI,aJ,aK,aL,aM,aN,aO,aP,aQ,aR,aS,aT,aU,aV,aW,aX,aY,aZ,ba,bb,bc,bd,be,bf,bg,bh,bi,bj,bk,bl,bm,bn,bo,bp,bq,br,bs,bt,bu,bv,bw,bx,bz,bA,bB,bC,bD,bE,bF,bG,bH,bI,bJ,bK,bL,bM,bN,bO,bP,bQ,bR,bS,bT,bU,bV,bW,bY,bZ,ca,cb,cc,cd,ce,cf,cg,ch,ci,cj,ck,cm,cn,co,cp,cq,cr,cs,ct,cu,cv,cw,cx,cy,cz,cA,cB,cC,cD,cE,cF,cG,cH,cI,cJ,cK,cL,cM,cN,cO,cP,cQ,cR,cS,cT,cU,cV,cW,cX,cY,cZ,da,db,dc],defers:=[] } V:=by
 have hE:=hc.enter;have hH:=qh (show ∀s,SrchOk lt X lo hi n s s→CutOk lt X a s m (n-s) b∧s+(n-s-m)=mid from λs h=>by rw [hm];exact h.cut hc.swo s1 s2 ⟨h1,h2⟩ (by omega) (hq.imp (λx=>⟨by omega,x.2.1,by omega⟩) (λx=>⟨by omega,x.2.1,x.2.2⟩)));have hD:=qh (show ∀c,lo≤c→c<hi→m≤n-1-c∧n-1-c<b by intro c c1 c2;rcases hq with ⟨x1,x2,x3⟩|⟨x1,x2,x3⟩<;>omega);have hI:=qh (show a≤lo∧hi≤m by rcases hq with ⟨x1,x2,x3⟩|⟨x1,x2,x3⟩<;>omega);have hO:lo≤hi:=by rcases hq with ⟨x1,x2,x3⟩|⟨x1,x2,x3⟩<;>omega
 have hg:hi≤m:=hI.out.2;have hC:a<mid∧mid<b:=by omega
 have hJ:=qh (λ(s e:Nat) (Y:Nat→α) (V:World) h0 h2 h3 (hR:RowS val g o N Y V) (hb:ButOne g w V) hx r1 r2 s2 s3 hX=>Vu val lt c hc.swo g o cap N a m b mid s e X Y w V ih h0 hC.1 h2 h3 (by omega) hC.2 hR hb hx r1 r2 s2 s3 hX);have hK:=qh (λ(s e:Nat) V (p1:s<m) (p2:m<e) (p3:e≤b) (hR:RowS val g o N X V)=>S3 val g o cap N s m e X c V p1 p2 (by omega) hN hR);have HC:=qh hc;have HR:=qh hR;have HB:=qh hb;have S1:=qh (And.intro s1 s2);have hj:=qh hn;have HP:=qh hp;have ho:p<2*N:=by omega
 have hs:n≤p+1:=by omega
 have ht:p+1≤n:=by omega
 have hu:n<2*N:=by omega
 have hw:m≤n:=by omega
 clear hc hR hb s1 s2 ih hq hm hn hp hC;unfold GE FD
 conv=>arg 2;whnf
 change Code.wp Tryz.prog (.seq _ (.seq _ (.seq _ JP))) _ _ _;go_wp2_with fail;go_loopw [20,21] (λiv jv wr=>∃s r:Nat,iv=int i64 s∧jv=int i64 r∧lo≤s∧s≤r∧r≤hi∧Hid (SrchOk lt X lo hi n s r)∧Hid (RowS val g o N X wr)∧Hid (ButOne g w wr)) (λiv jv _=>(intOf jv-intOf iv).toNat)
 case atStart=>exact ⟨lo,hi,rfl,rfl,qn _,hO,qn _,qh ⟨⟨qn _,hO,qn _⟩,λq q1 q2=>by omega,λq q1 q2=>by omega⟩,HR,HB⟩
 case round =>
  obtain ⟨i,j,rfl,rfl,hY,hy,hZ,hS,hr,hb⟩:=hrel;by_cases hz:i<j
  ·have hl:(i:Int)<(j:Int):=by omega
   obtain ⟨h,hh⟩:∃h:Nat,h=(i+j) / 2:=⟨_,rfl⟩;have hC:((i:Int)+(j:Int)) / 2=(h:Int):=by omega
   have q0:i≤h:=by omega
   have q1:h<j:=by omega
   have ha:=hD.out h (by omega) (by omega);obtain ⟨q,hq⟩:∃q:Nat,n-1-h=q:=⟨_,rfl⟩;have wq:IntKind.i64.wrap ((p:Int)-(h:Int))=(q:Int):=(IntWalk.i64_in _ (by omega)).trans (by omega);have q2:(h:Int)<(N:Int):=by omega
   have q3:(q:Int)<(N:Int):=by omega
   have q4:q<N:=by omega
   have HQ:=qh hq;clear hh hq ha;have HA:=qh (hr.out.block (w':=wr.drew) rfl).at_;have HD:=qh (And.intro (hr.out.block (w':=wr.drew) rfl) (hb.out.trans (ButOne.of_below (Below.refl _ wr).drew)));go_wp2_with fail;refine AM (λw2=>w2=wr.drew) 11 (by kernel_rfl) (by kernel_rfl) rfl ?_;intro w2 hS;subst hS;simp only [List.take_succ_cons,List.take_zero,List.drop_succ_cons,List.drop_zero]
   iterate 6 still_step
   refine AF (by kernel_rfl) 54 _ rfl g (o+q*14) rfl _ _ (HA.out q (by omega)) Tryz.underlying54 rfl (by kernel_rfl) ?_
   try simp only [Act.put,qz]
   iterate 3 still_step
   refine AF (by kernel_rfl) 54 _ rfl g (o+h*14) rfl _ _ (HA.out h (by omega)) Tryz.underlying54 rfl (by kernel_rfl) ?_
   try simp only [Act.put,qz]
   refine wpStill_nil ?_;go_wp2_with fail;refine (HC.out.calls _ _ _).mono ?_;rintro e wr3 ⟨kk,rfl,hG,hL⟩;have hP:=qh (HD.out.1.below hL);have hQ:=qh (HD.out.2.trans (ButOne.of_below hL));clear hL HA HD;have hT:=qh (λhv=>hS.out.up HC.out.swo S1.out.1 S1.out.2 q0 q1 hI.out hD.out hv);have hU:=qh (λhv=>hS.out.dn HC.out.swo S1.out.1 S1.out.2 q0 q1 hI.out hD.out hv);rw [HQ.out] at hT hU
   cases hv:lt (X q) (X h) with
   | true =>
    have hk:kk<0:=hG.2 hv;have HV:=qh (hU.out hv);clear hG hv;go_wp2_with fail;go_roundw
    case rel=>exact ⟨i,h,rfl,rfl,hY,q0,by omega,HV,hP,hQ⟩
    case measure=>simp [intOf];omega
   | false =>
    have hk:¬kk<0:=λh=>by rw [hG.1 h] at hv;cases hv
    have h4:decide (kk<0)=false:=by simpa using hk
    have HV:=qh (hT.out hv);clear hG hv hk;go_wp2_with fail;go_roundw
    case rel=>exact ⟨h+1,j,by go_num,rfl,by omega,by omega,hZ,HV,hP,hQ⟩
    case measure=>simp [intOf];omega
  ·have hl:¬(i:Int)<(j:Int):=by omega
   obtain rfl:i=j:=by omega
   obtain ⟨hA,hM⟩:=hH.out i hS.out;obtain ⟨e,he⟩:∃e:Nat,n-i=e:=⟨_,rfl⟩;have we:IntKind.i64.wrap ((n:Int)-(i:Int))=(e:Int):=(IntWalk.i64_in _ (by omega)).trans (by omega);rw [he] at hA hM;obtain ⟨o1,o2,o3,o4⟩:=hA.ord;have hF:=qh (hA.stb HC.out.swo)
   have hB:=qh (show Srt lt (rot X i m e) a i∧Srt lt (rot X i m e) i mid∧Srt lt (rot X i m e) mid e∧Srt lt (rot X i m e) e b∧Crs lt (rot X i m e) a mid b by
    have x2:=hA.s2;have x3:=hA.s3;have x4:=hA.half HC.out.swo;rw [hM] at x2 x3 x4
    exact ⟨hA.s1,x2,x3,hA.s4,x4⟩)
   have HO:=qh (show (a≤i∧i≤mid)∧mid≤e∧e≤b by omega);clear hA hM he;by_cases q1:i<m
   ·by_cases q2:m<e
    ·have k1:(i:Int)<(m:Int):=by omega
     have k2:(m:Int)<(e:Int):=by omega
     go_wp2_with (go_at_call 135;refine (hK.out i e _ (by omega) (by omega) (by omega) hr.out).mono ?_;rintro e2 V2 ⟨rfl,hV,hW⟩;have hd:=qh hV;have hf:=qh hW;clear hV hW);exact hJ.out i e _ _ HO.out.1 HO.out.2.1 HO.out.2.2 hd.out (hb.out.trans hf.out) hF.out hB.out.1 hB.out.2.1 hB.out.2.2.1 hB.out.2.2.2.1 hB.out.2.2.2.2 _ _ _ _ _ _ _ _ _ _ _ _ _ _ _ _ _ _ _ _ _ _ _ _ _ _ _ _ _ _ _ _ _ _ _ _ _ _ _ _ _ _ _ _ _ _ _ _ _ _ _ _ _ _ _ _ _ _ _ _ _ _ _ _ _ _ _ _ _ _ _ _ _ _ _ _ _ _ _ _ _ _ _ _ _ _ _ _ _ _ _ _ _ _ _ _ _ _ _ _ _ _ _ _ _ _ _ _ _ _ _ _ _ _ _ _ _ _ _ _ _ _ _ _ _ _ _ _ _ _ _ _ _ _ _ _ _ _ _ _ _ _ _ _ _ _ _ _ _ _ _ _ _ _ _ _ _ _ _ _ _ _ _ _ _ _ _ _ _ _ _ _ _ _ _ _ _ _ _ _ _ _ _ _ _ _ _ _ _ _ _ _ _ _ _ _ _ _ _ _ _ _ _ _ _ _ _ _ _ _ _ _
    ·have k1:(i:Int)<(m:Int):=by omega
     have k2:¬(m:Int)<(e:Int):=by omega
     have HE:=qh (show rot X i m e=X by rw [show e=m by omega];exact KV X i m (by omega));rw [HE.out] at hF hB;go_wp2_with fail;exact hJ.out i e _ _ HO.out.1 HO.out.2.1 HO.out.2.2 hr.out hb.out hF.out hB.out.1 hB.out.2.1 hB.out.2.2.1 hB.out.2.2.2.1 hB.out.2.2.2.2 _ _ _ _ _ _ _ _ _ _ _ _ _ _ _ _ _ _ _ _ _ _ _ _ _ _ _ _ _ _ _ _ _ _ _ _ _ _ _ _ _ _ _ _ _ _ _ _ _ _ _ _ _ _ _ _ _ _ _ _ _ _ _ _ _ _ _ _ _ _ _ _ _ _ _ _ _ _ _ _ _ _ _ _ _ _ _ _ _ _ _ _ _ _ _ _ _ _ _ _ _ _ _ _ _ _ _ _ _ _ _ _ _ _ _ _ _ _ _ _ _ _ _ _ _ _ _ _ _ _ _ _ _ _ _ _ _ _ _ _ _ _ _ _ _ _ _ _ _ _ _ _ _ _ _ _ _ _ _ _ _ _ _ _ _ _ _ _ _ _ _ _ _ _ _ _ _ _ _ _ _ _ _ _ _ _ _ _ _ _ _ _ _ _ _ _ _ _ _ _ _ _ _ _ _ _ _ _ _ _ _ _
   ·have k1:¬(i:Int)<(m:Int):=by omega
    have HE:=qh (show rot X i m e=X by rw [show i=m by omega];exact Ja X m e (by omega));rw [HE.out] at hF hB;go_wp2_with fail;exact hJ.out i e _ _ HO.out.1 HO.out.2.1 HO.out.2.2 hr.out hb.out hF.out hB.out.1 hB.out.2.1 hB.out.2.2.1 hB.out.2.2.2.1 hB.out.2.2.2.2 _ _ _ _ _ _ _ _ _ _ _ _ _ _ _ _ _ _ _ _ _ _ _ _ _ _ _ _ _ _ _ _ _ _ _ _ _ _ _ _ _ _ _ _ _ _ _ _ _ _ _ _ _ _ _ _ _ _ _ _ _ _ _ _ _ _ _ _ _ _ _ _ _ _ _ _ _ _ _ _ _ _ _ _ _ _ _ _ _ _ _ _ _ _ _ _ _ _ _ _ _ _ _ _ _ _ _ _ _ _ _ _ _ _ _ _ _ _ _ _ _ _ _ _ _ _ _ _ _ _ _ _ _ _ _ _ _ _ _ _ _ _ _ _ _ _ _ _ _ _ _ _ _ _ _ _ _ _ _ _ _ _ _ _ _ _ _ _ _ _ _ _ _ _ _ _ _ _ _ _ _ _ _ _ _ _ _ _ _ _ _ _ _ _ _ _ _ _ _ _ _ _ _ _ _ _ _ _ _ _ _ _
theorem S6(val:α→Sgn)(lt:α→α→Bool)(c:Nat)(hc:CmpOk val lt c)(g o cap N a m b:Nat)(X:Nat→α)(w:World)(ih:Ox val lt c g o cap N (b-a))(h1:a+1<m)(h2:m+1<b)(h3:b≤N)(hN:N≤1000000)(hR:RowS val g o N X w)(s1:Srt lt X a m)(s2:Srt lt X m b) :
  Calls Tryz.prog 99 #[.slice (some ⟨g,o,none⟩) N cap,int i64 a,int i64 m,int i64 b,.func (.func c) #[] #[]] w (Iz val lt g o N X a b w):=by
 obtain ⟨mid,hA⟩:∃mid,mid=(a+b) / 2:=⟨_,rfl⟩;obtain ⟨n,hn⟩:∃n,n=mid+m:=⟨_,rfl⟩;obtain ⟨p,hp⟩:∃p,p+1=n:=⟨n-1,by omega⟩;have HL:=qh (λlo hi hq=>Vw val lt c hc g o cap N a m b mid n p lo hi X w w ih (by omega) (by omega) h3 hN hA hn hp hq hR (ButOne.refl _ _) s1 s2);clear hc ih hR s1 s2;have w1:IntKind.i64.wrap ((m:Int)-(a:Int))=((m-a:Nat):Int):=(IntWalk.i64_in _ (by omega)).trans (by omega);have w2:IntKind.i64.wrap ((b:Int)-(m:Int))=((b-m:Nat):Int):=(IntWalk.i64_in _ (by omega)).trans (by omega);have w3:¬((m-a:Nat):Int)=1:=by omega
 have w4:(((m-a:Nat):Int)==1)=false:=by simpa using w3
 have w5:¬((b-m:Nat):Int)=1:=by omega
 have w6:(((b-m:Nat):Int)==1)=false:=by simpa using w5
 have w7:((a:Int)+(b:Int)) / 2=(mid:Int):=by omega
 have w8:IntKind.i64.wrap ((mid:Int)+(m:Int))=(n:Int):=(IntWalk.i64_in _ (by omega)).trans (by omega);have w9:IntKind.i64.wrap ((n:Int)-1)=(p:Int):=(IntWalk.i64_in _ (by omega)).trans (by omega);have z1:a<N:=by omega
 have z2:m<N:=by omega
 by_cases q1:mid<m
 ·have k1:(mid:Int)<(m:Int):=by omega
  obtain ⟨lo,hB⟩:∃lo:Nat,lo=n-b:=⟨_,rfl⟩;have wl:IntKind.i64.wrap ((n:Int)-(b:Int))=(lo:Int):=(IntWalk.i64_in _ (by omega)).trans (by omega);have HX:=qh (HL.out lo mid (Or.inl ⟨q1,hB,rfl⟩));generalize m-a=ma at *;generalize b-m=bm at *;clear HL hA hn hp hB h1 h2;go_enter Tryz.func99,Tryz.ntmps99;change Code.wp Tryz.prog (.seq _ (.seq _ (.seq _ (.seq _ (.seq _ (.seq _ (.seq _ GE))))))) _ _ _;go_wp2_with fail;exact HX.out _ _ _ _ _ _ _ _ _ _ _ _ _ _ _ _ _ _ _ _ _ _ _ _ _ _ _ _ _ _ _ _ _ _ _ _ _ _ _ _ _ _ _ _ _ _ _ _ _ _ _ _ _ _ _ _ _ _ _ _ _ _ _ _ _ _ _ _ _ _ _ _ _ _ _ _ _ _ _ _ _ _ _ _ _ _ _ _ _ _ _ _ _ _ _ _ _ _ _ _ _ _ _ _ _ _ _ _ _ _ _ _ _ _ _ _ _ _ _ _ _ _ _ _ _ _ _ _ _ _ _ _ _ _ _ _ _ _ _ _ _ _ _ _ _ _ _ _ _ _ _ _ _ _ _ _ _ _ _ _ _ _ _ _ _ _ _ _ _ _ _ _ _ _ _ _ _ _ _ _ _ _ _ _ _ _ _ _ _ _ _ _ _ _ _ _ _ _ _ _ _ _ _ _ _ _ _ _ _ _
 ·have k1:¬(mid:Int)<(m:Int):=by omega
  have HX:=qh (HL.out a m (Or.inr ⟨by omega,rfl,rfl⟩));generalize m-a=ma at *;generalize b-m=bm at *;clear HL hA hn hp h1 h2;go_enter Tryz.func99,Tryz.ntmps99;change Code.wp Tryz.prog (.seq _ (.seq _ (.seq _ (.seq _ (.seq _ (.seq _ (.seq _ GE))))))) _ _ _;go_wp2_with fail;exact HX.out _ _ _ _ _ _ _ _ _ _ _ _ _ _ _ _ _ _ _ _ _ _ _ _ _ _ _ _ _ _ _ _ _ _ _ _ _ _ _ _ _ _ _ _ _ _ _ _ _ _ _ _ _ _ _ _ _ _ _ _ _ _ _ _ _ _ _ _ _ _ _ _ _ _ _ _ _ _ _ _ _ _ _ _ _ _ _ _ _ _ _ _ _ _ _ _ _ _ _ _ _ _ _ _ _ _ _ _ _ _ _ _ _ _ _ _ _ _ _ _ _ _ _ _ _ _ _ _ _ _ _ _ _ _ _ _ _ _ _ _ _ _ _ _ _ _ _ _ _ _ _ _ _ _ _ _ _ _ _ _ _ _ _ _ _ _ _ _ _ _ _ _ _ _ _ _ _ _ _ _ _ _ _ _ _ _ _ _ _ _ _ _ _ _ _ _ _ _ _ _ _ _ _ _ _ _ _ _ _ _
theorem TQ(val:α→Sgn)(lt:α→α→Bool)(c:Nat)(hc:CmpOk val lt c)(g o cap N:Nat)(hN:N≤1000000):∀z,Ox val lt c g o cap N z:=by
 intro z
 induction z with
 | zero=>intro a m b hz;omega
 | succ z ih =>
  intro a m b hz h1 h2 h3 Y V hR hs;by_cases q1:m=a+1
  ·exact TR val lt c hc g o cap N a m b Y V q1 h2 h3 hN hR hs.2
  ·by_cases q2:b=m+1
   ·exact TS val lt c hc g o cap N a m b Y V (by omega) q2 h3 hN hR hs.1
   ·exact S6 val lt c hc g o cap N a m b Y V (λa' m' b' hA=>ih a' m' b' (by omega)) (by omega) (by omega) h3 hN hR hs.1 hs.2
end
end
section
open Go Go.RowKit Go.Deep
section
variable {α:Type}
def Bls(lt:α→α→Bool)(Y:Nat→α)(s n:Nat):Prop:=∀k p q,k*s≤p→p≤q→q<(k+1)*s→q<n→lt (Y q) (Y p)=false
theorem SO{s k k0 q:Nat}(h:q<(k+1)*s)(h0:k0*s≤q):k0≤k:=by
 rcases Nat.lt_or_ge k k0 with h1|h1
 ·have:=Nat.mul_le_mul_right s (show k+1≤k0 from h1);omega
 ·exact h1
theorem Bls.step{lt:α→α→Bool}{Y Z:Nat→α}{s a e k0:Nat}(h:Bls lt Y s a)(ha:a=k0*s)(k:Stb lt Y Z a e)(j:Srt lt Z a e):Bls lt Z s e:=by
 intro i p q h1 h2 h3 h4;by_cases hq:q<a
 ·rw [k.out q (Or.inl hq),k.out p (Or.inl (by omega))]
  exact h i p q h1 h2 h3 hq
 ·have hk:=SO (k0:=k0) h3 (by omega)
  have:=Nat.mul_le_mul_right s hk;exact j p q (by omega) h2 h4
def Mix(lt:α→α→Bool)(Y:Nat→α)(s a n:Nat):Prop:=Bls lt Y (2*s) a∧∀k p q,k*s≤p→p≤q→q<(k+1)*s→q<n→a≤p→lt (Y q) (Y p)=false
theorem Mix.start{lt:α→α→Bool}{Y:Nat→α}{s n:Nat}(h:Bls lt Y s n):Mix lt Y s 0 n:=⟨λk p q _ _ _ h=>by omega,λk p q h1 h2 h3 h4 _=>h k p q h1 h2 h3 h4⟩
theorem Mix.step{lt:α→α→Bool}{Y Z:Nat→α}{s a e n k0:Nat}(h:Mix lt Y s a n)(ha:a=k0*(2*s))(hA:a≤e)(k:Stb lt Y Z a e)(j:Srt lt Z a e):Mix lt Z s e n:=by
 refine ⟨h.1.step ha k j,λi p q h1 h2 h3 h4 h5=>?_⟩;rw [k.out q (Or.inr (by omega)),k.out p (Or.inr h5)];exact h.2 i p q h1 h2 h3 h4 (by omega)
theorem Mix.lo{lt:α→α→Bool}{Y:Nat→α}{s a n k0:Nat}(h:Mix lt Y s a n)(ha:a=k0*(2*s)):∀e,e≤a+s→e≤n→Srt lt Y a e:=λe h1 h2 i j i1 i2 i3=>by
 have e1:(2*k0)*s=a:=by rw [ha,Nat.mul_comm 2 k0,Nat.mul_assoc]
 exact h.2 (2*k0) i j (by omega) i2 (by rw [Nat.add_mul,Nat.one_mul];omega) (by omega) i1
theorem Mix.hi{lt:α→α→Bool}{Y:Nat→α}{s a n k0:Nat}(h:Mix lt Y s a n)(ha:a=k0*(2*s)):∀e,e≤a+2*s→e≤n→Srt lt Y (a+s) e:=λe h1 h2 i j i1 i2 i3=>by
 have e1:(2*k0)*s=a:=by rw [ha,Nat.mul_comm 2 k0,Nat.mul_assoc]
 have e2:(2*k0+1)*s=a+s:=by rw [Nat.add_mul,Nat.one_mul,e1]
 have e3:(2*k0+1+1)*s=a+s+s:=by rw [Nat.add_mul (2*k0+1),Nat.one_mul,e2]
 exact h.2 (2*k0+1) i j (by omega) i2 (by omega) (by omega) (by omega)
theorem Bls.all{lt:α→α→Bool}{Y:Nat→α}{s n:Nat}(h:Bls lt Y s n)(hs:n≤s):Srt lt Y 0 n:=λi j i1 i2 i3=>h 0 i j (by omega) i2 (by omega) i3
theorem Rh(k s:Nat):(k+1)*(2*s)=k*(2*s)+2*s:=by rw [Nat.add_mul,Nat.one_mul]
theorem Mo(val:α→Sgn)(lt:α→α→Bool)(c:Nat)(hc:CmpOk val lt c)(g o cap N:Nat)(X:Nat→α)(w:World)(hN:N≤1000000)(hR:RowS val g o N X w) :
  Calls Tryz.prog 66 #[.slice (some ⟨g,o,none⟩) N cap,int i64 N,.func (.func c) #[] #[]] w (Iz val lt g o N X 0 N w):=by
 have HI:=qh (λ(a b:Nat) (Y:Nat→α) (V:World) (h1:a≤b) (h2:b≤N) (hV:RowS val g o N Y V)=>Ra val lt c hc g o cap N a b Y V h1 h2 hN hV);have HM:=qh (λ(a m b:Nat) (Y:Nat→α) (V:World) (h1:a<m) (h2:m<b) (h3:b≤N) (hV:RowS val g o N Y V) (hs:Srt lt Y a m∧Srt lt Y m b)=>TQ val lt c hc g o cap N hN (b-a+1) a m b (by omega) h1 h2 h3 Y V hV hs);have HR:=qh hR;clear hc hR;go_enter Tryz.func66,Tryz.ntmps66;go_wp2_with fail;go_loopw [7,8] (λav bv wr=>∃(k a:Nat) (Y:Nat→α),av=int i64 a∧bv=int i64 ((a:Int)+20)∧a≤N∧Hid (a=k*20)∧Hid (RowS val g o N Y wr)∧Hid (ButOne g w wr)∧Hid (Stb lt X Y 0 N)∧Hid (Bls lt Y 20 a)) (λav bv _=>N+1-(intOf av).toNat)
 case atStart=>exact ⟨0,0,X,rfl,by go_num,by omega,qh (by omega),HR,qh (ButOne.refl _ _),qh (Stb.refl _ _ _ _),qh (λk p q _ _ _ h=>by omega)⟩
 case round =>
  obtain ⟨k,a,Y,rfl,rfl,hF,hk,hr,hb,hx,hs⟩:=hrel;by_cases hG:a+20≤N
  ·have hl:(a:Int)+20≤(N:Int):=by omega
   go_wp2_with (go_at_call 98;refine (HI.out a (a+20) Y _ (by omega) (by omega) hr.out).mono ?_;rintro e V ⟨rfl,Z,hB,hC,hA,hD⟩;have HZ:=qh (And.intro hB (And.intro hC (And.intro hA hD)));clear hB hC hA hD);go_roundw
   case rel=>exact ⟨k+1,a+20,Z,by go_num,by go_num,by omega,qh (by have:=hk.out;omega),qh HZ.out.1,qh (hb.out.trans HZ.out.2.1),qh (hx.out.trans (HZ.out.2.2.1.wide (by omega) (by omega) (by omega))),qh (hs.out.step hk.out HZ.out.2.2.1 HZ.out.2.2.2)⟩
   case measure=>simp [intOf];omega
  ·have hl:¬(a:Int)+20≤(N:Int):=by omega
   go_wp2_with (go_at_call 98;refine (HI.out a N Y _ (by omega) (by omega) hr.out).mono ?_;rintro e V ⟨rfl,Z,hB,hC,hA,hD⟩;have HZ:=qh (And.intro hB (And.intro (hb.out.trans hC) (And.intro (hx.out.trans (hA.wide (by omega) (by omega) (by omega))) (hs.out.step hk.out hA hD))));clear hB hC hA hD);clear hl hk hr hb hx hs;go_loopw [6] (λsv wr=>∃(s:Nat) (Y:Nat→α),sv=int i64 s∧20≤s∧(s≤20∨s≤2*N)∧Hid (RowS val g o N Y wr)∧Hid (ButOne g w wr)∧Hid (Stb lt X Y 0 N)∧Hid (Bls lt Y s N)) (λsv _=>2*N+1-(intOf sv).toNat)
   case atStart=>exact ⟨20,Z,rfl,by omega,Or.inl (by omega),qh HZ.out.1,qh HZ.out.2.1,qh HZ.out.2.2.1,qh HZ.out.2.2.2⟩
   case round =>
    obtain ⟨s,Y,rfl,hJ,hK,hr,hb,hx,hs⟩:=hrel;by_cases hG:s<N
    ·have hl:(s:Int)<(N:Int):=by omega
     have w1:IntKind.i64.wrap (2*(s:Int))=2*(s:Int):=IntWalk.i64_in _ (by omega);go_wp2_with fail;go_loopw [7,8] (λav bv wr=>∃(k a:Nat) (Y:Nat→α),av=int i64 a∧bv=int i64 ((a:Int)+2*(s:Int))∧a≤N∧Hid (a=k*(2*s))∧Hid (RowS val g o N Y wr)∧Hid (ButOne g w wr)∧Hid (Stb lt X Y 0 N)∧Hid (Mix lt Y s a N)) (λav bv _=>N+1-(intOf av).toNat)
     case atStart=>exact ⟨0,0,Y,rfl,by go_num,by omega,qh (by omega),hr,hb,hx,qh (Mix.start hs.out)⟩
     case round =>
      obtain ⟨k,a,Y,rfl,rfl,hF,hk,hr,hb,hx,hs⟩:=hrel;by_cases hL:a+2*s≤N
      ·have hH:(a:Int)+2*(s:Int)≤(N:Int):=by omega
       have HP:=qh (And.intro (hs.out.lo hk.out (a+s) (by omega) (by omega)) (hs.out.hi hk.out (a+2*s) (by omega) (by omega)))
       go_wp2_with (go_at_call 99;refine (HM.out a (a+s) (a+2*s) Y _ (by omega) (by omega) (by omega) hr.out HP.out).mono ?_;rintro e V ⟨rfl,Z,hB,hC,hA,hD⟩;have hE:=qh (And.intro hB (And.intro hC (And.intro hA hD)));clear hB hC hA hD);go_roundw
       case rel=>exact ⟨k+1,a+2*s,Z,by go_num,by go_num,by omega,qh (by rw [Rh,← hk.out]),qh hE.out.1,qh (hb.out.trans hE.out.2.1),qh (hx.out.trans (hE.out.2.2.1.wide (by omega) (by omega) (by omega))),qh (hs.out.step hk.out (by omega) hE.out.2.2.1 hE.out.2.2.2)⟩
       case measure=>simp [intOf];omega
      ·have hH:¬(a:Int)+2*(s:Int)≤(N:Int):=by omega
       have w2:IntKind.i64.wrap ((s:Int)*2)=(s:Int)*2:=IntWalk.i64_in _ (by omega);by_cases hm:a+s<N
       ·have hI:(a:Int)+(s:Int)<(N:Int):=by omega
        have HP:=qh (And.intro (hs.out.lo hk.out (a+s) (by omega) (by omega)) (hs.out.hi hk.out N (by omega) (by omega)))
        go_wp2_with (go_at_call 99;refine (HM.out a (a+s) N Y _ (by omega) (by omega) (by omega) hr.out HP.out).mono ?_;rintro e V ⟨rfl,Z,hB,hC,hA,hD⟩;have hE:=qh (And.intro hB (And.intro hC (And.intro hA hD)));clear hB hC hA hD);go_roundw
        case rel=>exact ⟨2*s,Z,by go_num,by omega,by omega,qh hE.out.1,qh (hb.out.trans hE.out.2.1),qh (hx.out.trans (hE.out.2.2.1.wide (by omega) (by omega) (by omega))),qh (hs.out.step hk.out (by omega) hE.out.2.2.1 hE.out.2.2.2).1⟩
        case measure=>simp [intOf];omega
       ·have hI:¬(a:Int)+(s:Int)<(N:Int):=by omega
        have HP:=qh (hs.out.lo hk.out N (by omega) (by omega));go_wp2_with fail;go_roundw
        case rel=>exact ⟨2*s,Y,by go_num,by omega,by omega,hr,hb,hx,qh (hs.out.step hk.out hF (Stb.refl _ _ _ _) HP.out).1⟩
        case measure=>simp [intOf];omega
    ·have hl:¬(s:Int)<(N:Int):=by omega
     go_wp2_with fail;go_end0;exact ⟨rfl,Y,hr.out,hb.out,hx.out,hs.out.all (by omega)⟩
theorem Po(v:Value)(f:Value)(w:World):Calls Tryz.prog 98 #[v,int i64 0,int i64 0,f] w λe w'=>e=.returned (.tuple #[])∧w'=w:=by
 go_enter Tryz.func98,Tryz.ntmps98;go_wp2_with fail;refine wp_loop_rounds 1 ?_;rw [rounds_succ];go_wp2_with fail;go_end0;exact ⟨rfl,rfl⟩
theorem L4(v:Value)(f:Value)(w:World):Calls Tryz.prog 66 #[v,int i64 0,f] w λe w'=>e=.returned (.tuple #[])∧w'=w:=by
 have HI:=qh (λV=>Po v f V);go_enter Tryz.func66,Tryz.ntmps66;go_wp2_with fail;refine wp_loop_rounds 1 ?_;rw [rounds_succ]
 go_wp2_with (go_at_call 98;refine (HI.out _).mono ?_;rintro e V ⟨rfl,rfl⟩);refine wp_loop_rounds 1 ?_;rw [rounds_succ];go_wp2_with fail;go_end0;exact ⟨rfl,rfl⟩
theorem L2(val:α→Sgn)(lt:α→α→Bool)(c:Nat)(hc:CmpOk val lt c)(g o cap N:Nat)(X:Nat→α)(w:World)(hN:N≤1000000)(hR:RowS val g o N X w) :
  Calls Tryz.prog 34 #[.slice (some ⟨g,o,none⟩) N cap,.func (.func c) #[] #[]] w (Iz val lt g o N X 0 N w):=by
 have HS:=qh (Mo val lt c hc g o cap N X w hN hR);clear hc hR;go_enter Tryz.func34,Tryz.ntmps34
 go_wp2_with (go_at_call 66;refine HS.out.mono ?_;rintro e V ⟨rfl,hv⟩;have HV:=qh hv;clear hv);go_end0;exact ⟨rfl,HV.out⟩
theorem Jg(ao:Option Addr)(cap:Nat)(f:Value)(w:World):Calls Tryz.prog 34 #[.slice ao 0 cap,f] w λe w'=>e=.returned (.tuple #[])∧w'=w:=by
 have HS:=qh (λV=>L4 (.slice ao 0 cap) f V);go_enter Tryz.func34,Tryz.ntmps34
 go_wp2_with (go_at_call 66;refine (HS.out _).mono ?_;rintro e V ⟨rfl,rfl⟩);go_end0;exact ⟨rfl,rfl⟩
end
end
section
open Go Go.RowKit Go.Deep
theorem Kl{a b:Int}:CQ a b<0↔a<b:=by
 unfold CQ;by_cases h:a<b
 ·rw [if_pos h];simp [h]
 ·rw [if_neg h]
  split<;>simp [h]
def C4(a b:Sgn):Bool:=decide (a.bar<b.bar)
theorem IJ:SwO C4:=⟨λ{x y} h=>by simp only [C4,decide_eq_true_eq,decide_eq_false_iff_not] at *;omega,λ{x y z} h k=>by simp only [C4,decide_eq_false_iff_not] at *;omega⟩
theorem IK{w:World}(o0 o1:Obj):Below w.heap.size w ((w.alloc o0).alloc o1):=((Below.refl _ w).alloc (qn _) _).alloc (by simp) _
theorem Uw:CmpOk id C4 35:=by
 refine ⟨IJ,enters_of Tryz.func35 (by kernel_rfl) rfl,λx y V=>?_⟩;have HB:=qh (IK (w:=V) (.cells (Av x).toArray 54) (.cells (Av y).toArray 54));unfold Av at HB
 show Calls Tryz.prog 35 #[.agg (Av x).toArray,.agg (Av y).toArray] V _
 unfold Av;go_enter Tryz.func35,Tryz.ntmps35
 go_wp2_with (go_at_call 36;refine (G6 x.bar y.bar _).mono ?_;rintro e w' ⟨rfl,rfl⟩);go_ret;exact ⟨_,rfl,by rw [Kl];simp [C4],HB.out⟩
def N8:Type:={ s:Sgn // Bh s.fn s.fd=true }
def CC(a b:N8):Bool:=decide (a.1.fn*b.1.fd<b.1.fn*a.1.fd)
theorem Ii{n d:Int}(h:Bh n d=true):1≤d:=by
 unfold Bh at h;simp only [Bool.and_eq_true] at h;exact (AL.1 h.1.1).1
theorem ER:SwO CC:=by
 refine ⟨λ{x y} h=>?_,λ{x y z} h k=>?_⟩
 ·simp only [CC,decide_eq_true_eq,decide_eq_false_iff_not] at *;omega
 ·simp only [CC,decide_eq_false_iff_not] at *
  have hx:=Ii x.2;have hy:=Ii y.2;have hz:=Ii z.2;obtain ⟨x,_⟩:=x;obtain ⟨y,_⟩:=y;obtain ⟨z,_⟩:=z;simp only at *;have h1:x.fn*y.fd*z.fd≤y.fn*x.fd*z.fd:=Int.mul_le_mul_of_nonneg_right (by omega) (by omega);have h2:y.fn*z.fd*x.fd≤z.fn*y.fd*x.fd:=Int.mul_le_mul_of_nonneg_right (by omega) (by omega);have e1:x.fn*y.fd*z.fd=y.fd*(x.fn*z.fd):=by rw [Int.mul_comm x.fn,Int.mul_assoc]
  have e2:y.fn*x.fd*z.fd=y.fn*z.fd*x.fd:=by rw [Int.mul_assoc,Int.mul_comm x.fd,← Int.mul_assoc]
  have e3:z.fn*y.fd*x.fd=y.fd*(z.fn*x.fd):=by rw [Int.mul_comm z.fn,Int.mul_assoc]
  have h3:y.fd*(x.fn*z.fd)≤y.fd*(z.fn*x.fd):=by omega
  have:=Int.le_of_mul_le_mul_left h3 (by omega);omega
theorem Uv:CmpOk (λs:N8=>s.1) CC 45:=by
 refine ⟨ER,enters_of Tryz.func45 (by kernel_rfl) rfl,λx y V=>?_⟩;obtain ⟨x,hx⟩:=x;obtain ⟨y,hy⟩:=y;have hb:=IK (w:=V) (.cells (Av x).toArray 54) (.cells (Av y).toArray 54);unfold Av at hb;obtain ⟨W,hW⟩:∃W,(V.alloc (.cells (Av x).toArray 54)).alloc (.cells (Av y).toArray 54)=W:=⟨_,rfl⟩;have C:=λW=>Ef x.fn x.fd y.fn y.fd W
 unfold EJ at C;rw [hx,hy] at C;simp only [Bool.and_self,if_true] at C;have HC:=qh C;have HB:=qh hb;clear C hb hW W
 show Calls Tryz.prog 45 #[.agg (Av x).toArray,.agg (Av y).toArray] V _
 unfold Av;go_enter Tryz.func45,Tryz.ntmps45
 go_wp2_with (go_at_call 46;refine (HC.out _).mono ?_;rintro e w' ⟨rfl,hA⟩;have hB:=qh (Ag HB.out hA);clear hA);go_ret;exact ⟨_,rfl,by rw [Kl];simp [CC],hB.out⟩
end
section
open Go Go.RowKit
theorem UQ:Ab 10 AC=.seq elem29n10 (Ab 11 AC):=rfl
theorem SW(E B:Nat)(W:World)(s:Ls)(ns:List Int)(w0:World)(hE:W.heap[E]?=some (.cells #[int i64 0] 40 (0,0)))(hA:w0.heap.size≤E)(hb:Below w0.heap.size w0 W)(h0:B5 s ns=0):
  (Ab 11 AC).wp Tryz.prog (bodyPostD Tryz.prog Tryz.f20 (Iy s ns w0)) { tmps:=#[e0,.pointer (some ⟨B,0,none⟩),.pointer (some ⟨E,0,none⟩),e3,e4,e5,e6,e7,e8,e9,ea,eb,ec,ed,ee,ef,eg,eh,ei,ej,ek,el,em,en,eo,ep,eq,er,es,et,eu,ev,ew,ex,ey,ez,eA,eB,eC,eD,eE,eF,eG,eH,eI,eJ,eK,eL,eM,eN,eO,eP,eQ,eR,eS,eT,eU,eV,eW,eX,eY,eZ,aa,ab,ac,ae,af,ag,ah,ai,aj,ak,al,am,an,ao,ap,aq,ar,au,av,aw,ax,ay,az,aA,aB,aC,aD,aE,aF,aG,aH,aI,aJ,aK,aL,aM,aN,aO,aP,aQ,aR,aS,aT,aU,aV,aW,aX,aY,aZ,ba,bb,bc,bd,be,bf,bg,bh,bi,bj,bk],defers:=[DM E] } W:=by
 have c0:=cell_of_one hE;have f0:=free_of_one hE;have HE:=qh hE;have HB:=qh hb;have H0:=qh h0;clear hE hb h0
 conv=>arg 2;whnf
 go_wp2_with fail;refine PW _ E _ _ (int i64 0) rfl (cell_of_one (one_setCell HE.out)) ⟨by rw [H0.out],HB.out.setCell (p:=⟨E,0,none⟩) hA _⟩
theorem De(E:Nat)(s:Ls)(ns:List Int)(w0 w:World)(hA:w0.heap.size≤E)(hb:Below w0.heap.size w0 w)(hE:w.heap[E]?=some (.cells #[int i64 0] 40 (0,0)))(h0:B5 s ns=180)(t:Array Value)(V:World)(ht:t.getD 2 undef=.pointer (some ⟨E,0,none⟩))(hV:Below w.heap.size w V) :
  bodyPostD Tryz.prog Tryz.f20 (Iy s ns w0) (.panic BN) { tmps:=t,defers:=[DM E] } V :=
 NZ t E _ V _ ht (Ah hV hE) λw' hw=>⟨by rw [h0],(Ag hb hV).trans (hw.mono hA)⟩
theorem Uu(s:Ls)(ns:List Int)(B E:Nat)(w0 w W:World)(hc:Dd s.strip ns=0)(hs:RgS s (AI s.strip) B w)(hH:NumAt (AI s.strip) w (Ao (blk s.da) (off s.da) s.dances))(hE:w.heap[E]?=some (.cells #[int i64 0] 40 (0,0)))(hA:w0.heap.size≤E)(hF:Below w0.heap.size w0 w)(hb:Below w.heap.size w W)(hx:s.phrases.all (λp=>p.its.strip.exB)=true)(hr:BG (s.nexts (AI s.strip))=[])(hB:1≤s.bars∧s.bars≤4096)(hC:B5 s ns=if s.dances.all (CR s (AI s.strip) (DR s.itsL (AI s.strip)))=true then 0 else 180):
  (Ab 9 AC).wp Tryz.prog (bodyPostD Tryz.prog Tryz.f20 (Iy s ns w0)) { tmps:=#[e0,.pointer (some ⟨B,0,none⟩),.pointer (some ⟨E,0,none⟩),e3,e4,e5,e6,e7,e8,e9,ea,eb,ec,ed,ee,ef,eg,eh,ei,ej,ek,el,em,en,eo,ep,eq,er,es,et,eu,ev,ew,ex,ey,ez,eA,eB,eC,eD,eE,eF,eG,eH,eI,eJ,eK,eL,eM,eN,eO,eP,eQ,eR,eS,eT,eU,eV,eW,eX,eY,eZ,aa,ab,ac,ae,af,ag,ah,ai,aj,ak,al,am,an,ao,ap,aq,ar,au,av,aw,ax,ay,az,aA,aB,aC,aD,aE,aF,aG,aH,aI,aJ,aK,aL,aM,aN,aO,aP,aQ,aR,aS,aT,aU,aV,aW,aX,aY,aZ,ba,bb,bc,bd,be,bf,bg,bh,bi,bj,bk],defers:=[DM E] } W:=by
 have hN:=Fz hc;have hG:=LX hx hr (Kd hc)
 have hI:∀d∈s.dances,∀(B7 KB M SB PB:Nat) (V:World),LenW V s (AI s.strip) B7 KB M SB PB (DR s.itsL (AI s.strip))→Calls Tryz.prog 95 #[int i64 (AI s.strip d.pn),.pointer (some ⟨KB,0,none⟩),.pointer (some ⟨SB,0,none⟩),.pointer (some ⟨B7,0,none⟩)] V (Jr s (AI s.strip) B7 KB M SB PB (DR s.itsL (AI s.strip)) (DR s.itsL (AI s.strip) (AI s.strip d.pn)) V):=λd hd B7 KB M SB PB V hV=>by
  obtain ⟨i,hi,hD⟩:=FE hc hd;rw [hi];exact RC s (AI s.strip) B7 KB M SB PB _ _ hG (by omega) _ i (qn _) hD V hV
 have hJ:∀d∈s.dances,0≤DR s.itsL (AI s.strip) (AI s.strip d.pn)∧DR s.itsL (AI s.strip) (AI s.strip d.pn)≤4097:=λd hd=>by
  obtain ⟨i,hi,hD⟩:=FE hc hd;rw [hi];exact hG.bound i hD
 rw [S0];refine Ae (λK hK=>?_);have HK:=qh hK;clear hK;refine Un s (AI s.strip) (DR s.itsL (AI s.strip)) B E w W hs hb [DM E] _ ?_;intro B7 KB M SB PB x0 x3 x4 x5 x6 x8 x9 bl bm bn bo bp bq br bs bt bu bv bw bx bz bA bB bC bD bE bF bG bH bI bJ bK bL bM bN bO bP bQ bR bS bT bU bV bW bY bZ ca cb cc cd ce cf cg ch ci cj ck cm cn co cp cq cr cs ct cu cv cw cx cy cz cA cB cC cD cE cF cG cH cI cJ cK cL cM cN cO cP cQ cR cS cT cU cV cW cX cY cZ db dc dd de df dg dh di dj dk dl dm dn dp dq dr ds dt du dv dw dx V hL hM hV;refine HK.out _ _ ?_;clear HK K;rw [UQ];refine Ae (λK hK=>?_);have HK:=qh hK;clear hK;refine SV s (AI s.strip) (DR s.itsL (AI s.strip)) B E B7 KB M SB PB w V hs hV hL hM hH hB (λd hd V hV=>hI d hd B7 KB M SB PB V hV) hJ (by omega) [DM E] _ (λhd x0 x3 x4 x5 x6 x7 x8 x9 bl bm bn bo bp bq br bs bt bu bv bw bx bz bA bB bC bD bE bF bG bH bI bJ bK bL bM bN bO bP bQ bR bS bT bU bV bW bY bZ ca cb cc cd ce cf cg ch ci cj ck cm cn co cp cq cr cs ct cu cv cw cx cy cz cA cB cC cD cE cF cG cH cI cJ cK cL cM cN cO cP cQ cR cS cT cU cV cW cX cY cZ db dc dd de df dg dh di dj dk dl dm dn dp dq dr ds dt du dv dw dx V hV=>?_) (λhd t V ht hV=>?_)
 ·refine HK.out _ _ ?_
  exact SW E B V s ns w0 (Ah hV hE) hA (Ag hF hV) (by rw [hC,if_pos hd])
 ·exact De E s ns w0 w hA hF hE (by rw [hC,if_neg (by rw [hd];simp)]) t V ht hV
theorem Ut(s:Ls)(ns:List Int)(B E:Nat)(w0 w W:World)(hc:Dd s.strip ns=0)(hs:RgS s (AI s.strip) B w)(hF:NumAt (AI s.strip) w (Ao (blk s.da) (off s.da) s.dances))(hE:w.heap[E]?=some (.cells #[int i64 0] 40 (0,0)))(hA:w0.heap.size≤E)(hD:Below w0.heap.size w0 w)(hb:Below w.heap.size w W)(hx:s.phrases.all (λp=>p.its.strip.exB)=true)(hB:1≤s.bars∧s.bars≤4096)(hC:B5 s ns=if (decide (BG (s.nexts (AI s.strip))=[])&&s.dances.all (CR s (AI s.strip) (DR s.itsL (AI s.strip))))=true then 0 else 180):
  (Ab 8 AC).wp Tryz.prog (bodyPostD Tryz.prog Tryz.f20 (Iy s ns w0)) { tmps:=#[e0,.pointer (some ⟨B,0,none⟩),.pointer (some ⟨E,0,none⟩),e3,e4,e5,e6,e7,e8,e9,ea,eb,ec,ed,ee,ef,eg,eh,ei,ej,ek,el,em,en,eo,ep,eq,er,es,et,eu,ev,ew,ex,ey,ez,eA,eB,eC,eD,eE,eF,eG,eH,eI,eJ,eK,eL,eM,eN,eO,eP,eQ,eR,eS,eT,eU,eV,eW,eX,eY,eZ,aa,ab,ac,ae,af,ag,ah,ai,aj,ak,al,am,an,ao,ap,aq,ar,au,av,aw,ax,ay,az,aA,aB,aC,aD,aE,aF,aG,aH,aI,aJ,aK,aL,aM,aN,aO,aP,aQ,aR,aS,aT,aU,aV,aW,aX,aY,aZ,ba,bb,bc,bd,be,bf,bg,bh,bi,bj,bk],defers:=[DM E] } W:=by
 rw [RZ];refine Ae (λK hK=>?_);have HK:=qh hK;clear hK;refine Um s (AI s.strip) B E w W hs hb (by have:=Fz hc;omega) [DM E] _ (λhd x0 x3 x4 x5 x6 x7 x8 x9 x10 x11 x12 x13 x14 x15 x16 x17 x18 x19 x20 x21 x22 x23 x24 x25 x26 x27 x28 x29 x30 x31 x32 x33 x34 x35 x36 x37 x38 x39 x40 x41 x42 x43 x44 x45 x46 x47 x48 x49 x50 x51 x52 x53 x54 x55 x56 x57 x58 x59 x60 x61 x62 x63 x64 x65 x66 x67 x68 x69 x70 x71 x72 x73 x74 x75 x76 x77 x78 x79 x80 x81 x82 x83 x84 x85 x86 x87 x88 x89 x90 x91 x92 x93 x94 x95 x96 x97 x98 x99 x100 x101 x102 x103 x104 x105 x106 x107 x108 x109 x110 x111 x112 x113 x114 x115 x116 x117 x118 x119 x120 x121 V hV=>?_) (λhd t V ht hV=>?_)
 ·refine HK.out _ _ ?_
  exact Uu s ns B E w0 w V hc hs hF hE hA hD hV hx (of_decide_eq_true hd) hB (by rw [hC,hd,Bool.true_and])
 ·exact De E s ns w0 w hA hD hE (by rw [hC,hd,Bool.false_and,if_neg (by simp)]) t V ht hV
theorem Us(s:Ls)(ns:List Int)(B E:Nat)(w0 w W:World)(hc:Dd s.strip ns=0)(hs:RgS s (AI s.strip) B w)(hF:NumAt (AI s.strip) w (Ao (blk s.da) (off s.da) s.dances))(hE:w.heap[E]?=some (.cells #[int i64 0] 40 (0,0)))(hA:w0.heap.size≤E)(hD:Below w0.heap.size w0 w)(hb:Below w.heap.size w W)(hB:1≤s.bars∧s.bars≤4096)(hC:B5 s ns=if (s.phrases.all (λp=>p.its.strip.exB)&&(decide (BG (s.nexts (AI s.strip))=[])&&s.dances.all (CR s (AI s.strip) (DR s.itsL (AI s.strip)))))=true then 0 else 180):
  (Ab 7 AC).wp Tryz.prog (bodyPostD Tryz.prog Tryz.f20 (Iy s ns w0)) { tmps:=#[e0,.pointer (some ⟨B,0,none⟩),.pointer (some ⟨E,0,none⟩),e3,e4,e5,e6,e7,e8,e9,ea,eb,ec,ed,ee,ef,eg,eh,ei,ej,ek,el,em,en,eo,ep,eq,er,es,et,eu,ev,ew,ex,ey,ez,eA,eB,eC,eD,eE,eF,eG,eH,eI,eJ,eK,eL,eM,eN,eO,eP,eQ,eR,eS,eT,eU,eV,eW,eX,eY,eZ,aa,ab,ac,ae,af,ag,ah,ai,aj,ak,al,am,an,ao,ap,aq,ar,au,av,aw,ax,ay,az,aA,aB,aC,aD,aE,aF,aG,aH,aI,aJ,aK,aL,aM,aN,aO,aP,aQ,aR,aS,aT,aU,aV,aW,aX,aY,aZ,ba,bb,bc,bd,be,bf,bg,bh,bi,bj,bk],defers:=[DM E] } W:=by
 rw [RY];refine Ae (λK hK=>?_);have HK:=qh hK;clear hK;refine Ul s (AI s.strip) B E w W hs hb (by have:=Fz hc;omega) [DM E] _ (λhd x0 x3 x4 x5 x6 x7 x8 x9 x10 x11 x12 x13 x14 x15 x16 x17 x18 x19 x20 x21 x22 x23 x24 x25 x26 x27 x28 x29 x30 x31 x32 x33 x34 x35 x36 x37 x38 x39 x40 x41 x42 x43 x44 x45 x46 x47 x48 x49 x50 x51 x52 x53 x54 x55 x56 x57 x58 x59 x60 x61 x62 x63 x64 x65 x66 x67 x68 x69 x70 x71 x72 x73 x74 x75 x76 x77 x78 x79 x80 x81 x82 x83 x84 x85 x86 x87 x88 x89 x90 x91 x92 x93 x94 x95 x96 x97 x98 x99 x100 x101 x102 x103 x104 x105 x106 x107 x108 x109 x110 x111 x112 x113 x114 x115 x116 x117 x118 x119 x120 x121 V hV=>?_) (λhd t V ht hV=>?_)
 ·refine HK.out _ _ ?_
  exact Ut s ns B E w0 w V hc hs hF hE hA hD hV hd hB (by rw [hC,hd,Bool.true_and])
 ·exact De E s ns w0 w hA hD hE (by rw [hC,hd,Bool.false_and,if_neg (by simp)]) t V ht hV
theorem Ur(s:Ls)(ns:List Int)(B E:Nat)(w0 w W:World)(hc:Dd s.strip ns=0)(hs:RgS s (AI s.strip) B w)(hD:NumAt (AI s.strip) w (Ao (blk s.da) (off s.da) s.dances))(hE:w.heap[E]?=some (.cells #[int i64 0] 40 (0,0)))(hA:w0.heap.size≤E)(hC:Below w0.heap.size w0 w)(hb:Below w.heap.size w W)(hB:B5 s ns=if (decide (C8 ⟨s.bars,s.tempos,s.pauses,s.spans⟩=0)&&(s.phrases.all (λp=>p.its.strip.exB)&&(decide (BG (s.nexts (AI s.strip))=[])&&s.dances.all (CR s (AI s.strip) (DR s.itsL (AI s.strip))))))=true then 0 else 180):
  (Ab 6 AC).wp Tryz.prog (bodyPostD Tryz.prog Tryz.f20 (Iy s ns w0)) { tmps:=#[e0,.pointer (some ⟨B,0,none⟩),.pointer (some ⟨E,0,none⟩),e3,e4,e5,e6,e7,e8,e9,ea,eb,ec,ed,ee,ef,eg,eh,ei,ej,ek,el,em,en,eo,ep,eq,er,es,et,eu,ev,ew,ex,ey,ez,eA,eB,eC,eD,eE,eF,eG,eH,eI,eJ,eK,eL,eM,eN,eO,eP,eQ,eR,eS,eT,eU,eV,eW,eX,eY,eZ,aa,ab,ac,ae,af,ag,ah,ai,aj,ak,al,am,an,ao,ap,aq,ar,au,av,aw,ax,ay,az,aA,aB,aC,aD,aE,aF,aG,aH,aI,aJ,aK,aL,aM,aN,aO,aP,aQ,aR,aS,aT,aU,aV,aW,aX,aY,aZ,ba,bb,bc,bd,be,bf,bg,bh,bi,bj,bk],defers:=[DM E] } W:=by
 rw [RX];refine Ae (λK hK=>?_);have HK:=qh hK;clear hK;refine Uk s (AI s.strip) B E w W hs hb [DM E] _ (λhd x0 x3 x4 x5 x6 x7 x8 x9 x10 x11 x12 x13 x14 x15 x16 x17 x18 x19 x20 x21 x22 x23 x24 x25 x26 x27 x28 x29 x30 x31 x32 x33 x34 x35 x36 x37 x38 x39 x40 x41 x42 x43 x44 x45 x46 x47 x48 x49 x50 x51 x52 x53 x54 x55 x56 x57 x58 x59 x60 x61 x62 x63 x64 x65 x66 x67 x68 x69 x70 x71 x72 x73 x74 x75 x76 x77 x78 x79 x80 x81 x82 x83 x84 x85 x86 x87 x88 x89 x90 x91 x92 x93 x94 x95 x96 x97 x98 x99 x100 x101 x102 x103 x104 x105 x106 x107 x108 x109 x110 x111 x112 x113 x114 x115 x116 x117 x118 x119 x120 x121 V hV=>?_) (λhd t V ht hV=>?_)
 ·refine HK.out _ _ ?_
  exact Us s ns B E w0 w V hc hs hD hE hA hC hV (Fc (of_decide_eq_true hd)) (by rw [hB,hd,Bool.true_and])
 ·exact De E s ns w0 w hA hC hE (by rw [hB,hd,Bool.false_and,if_neg (by simp)]) t V ht hV
theorem Uq(s:Ls)(ns:List Int)(B E:Nat)(w0 w W:World)(hc:Dd s.strip ns=0)(hs:RgS s (AI s.strip) B w)(hD:NumAt (AI s.strip) w (Ao (blk s.da) (off s.da) s.dances))(hE:w.heap[E]?=some (.cells #[int i64 0] 40 (0,0)))(hA:w0.heap.size≤E)(hC:Below w0.heap.size w0 w)(hb:Below w.heap.size w W)(hB:B5 s ns=if (s.roles.all (C6 s)&&(decide (C8 ⟨s.bars,s.tempos,s.pauses,s.spans⟩=0)&&(s.phrases.all (λp=>p.its.strip.exB)&&(decide (BG (s.nexts (AI s.strip))=[])&&s.dances.all (CR s (AI s.strip) (DR s.itsL (AI s.strip)))))))=true then 0 else 180):
  (Ab 5 AC).wp Tryz.prog (bodyPostD Tryz.prog Tryz.f20 (Iy s ns w0)) { tmps:=#[e0,.pointer (some ⟨B,0,none⟩),.pointer (some ⟨E,0,none⟩),e3,e4,e5,e6,e7,e8,e9,ea,eb,ec,ed,ee,ef,eg,eh,ei,ej,ek,el,em,en,eo,ep,eq,er,es,et,eu,ev,ew,ex,ey,ez,eA,eB,eC,eD,eE,eF,eG,eH,eI,eJ,eK,eL,eM,eN,eO,eP,eQ,eR,eS,eT,eU,eV,eW,eX,eY,eZ,aa,ab,ac,ae,af,ag,ah,ai,aj,ak,al,am,an,ao,ap,aq,ar,au,av,aw,ax,ay,az,aA,aB,aC,aD,aE,aF,aG,aH,aI,aJ,aK,aL,aM,aN,aO,aP,aQ,aR,aS,aT,aU,aV,aW,aX,aY,aZ,ba,bb,bc,bd,be,bf,bg,bh,bi,bj,bk],defers:=[DM E] } W:=by
 rw [RW];refine Ae (λK hK=>?_);have HK:=qh hK;clear hK;refine Uj s (AI s.strip) B E w W hs hb (by have:=Fz hc;omega) [DM E] _ (λhd x0 x3 x4 x5 x6 x7 x8 x9 x10 x11 x12 x13 x14 x15 x16 x17 x18 x19 x20 x21 x22 x23 x24 x25 x26 x27 x28 x29 x30 x31 x32 x33 x34 x35 x36 x37 x38 x39 x40 x41 x42 x43 x44 x45 x46 x47 x48 x49 x50 x51 x52 x53 x54 x55 x56 x57 x58 x59 x60 x61 x62 x63 x64 x65 x66 x67 x68 x69 x70 x71 x72 x73 x74 x75 x76 x77 x78 x79 x80 x81 x82 x83 x84 x85 x86 x87 x88 x89 x90 x91 x92 x93 x94 x95 x96 x97 x98 x99 x100 x101 x102 x103 x104 x105 x106 x107 x108 x109 x110 x111 x112 x113 x114 x115 x116 x117 x118 x119 x120 x121 V hV=>?_) (λhd t V ht hV=>?_)
 ·refine HK.out _ _ ?_
  exact Ur s ns B E w0 w V hc hs hD hE hA hC hV (by rw [hB,hd,Bool.true_and])
 ·exact De E s ns w0 w hA hC hE (by rw [hB,hd,Bool.false_and,if_neg (by simp)]) t V ht hV
theorem Up(s:Ls)(ns:List Int)(B E:Nat)(w0 w W:World)(hc:Dd s.strip ns=0)(hs:RgS s (AI s.strip) B w)(hD:NumAt (AI s.strip) w (Ao (blk s.da) (off s.da) s.dances))(hE:w.heap[E]?=some (.cells #[int i64 0] 40 (0,0)))(hA:w0.heap.size≤E)(hC:Below w0.heap.size w0 w)(hb:Below w.heap.size w W)(hB:B5 s ns=if ((inB s.t0 1 127&&inB s.t1 0 s.t0)&&(s.roles.all (C6 s)&&(decide (C8 ⟨s.bars,s.tempos,s.pauses,s.spans⟩=0)&&(s.phrases.all (λp=>p.its.strip.exB)&&(decide (BG (s.nexts (AI s.strip))=[])&&s.dances.all (CR s (AI s.strip) (DR s.itsL (AI s.strip))))))))=true then 0 else 180):
  (Ab 4 AC).wp Tryz.prog (bodyPostD Tryz.prog Tryz.f20 (Iy s ns w0)) { tmps:=#[e0,.pointer (some ⟨B,0,none⟩),.pointer (some ⟨E,0,none⟩),e3,e4,e5,e6,e7,e8,e9,ea,eb,ec,ed,ee,ef,eg,eh,ei,ej,ek,el,em,en,eo,ep,eq,er,es,et,eu,ev,ew,ex,ey,ez,eA,eB,eC,eD,eE,eF,eG,eH,eI,eJ,eK,eL,eM,eN,eO,eP,eQ,eR,eS,eT,eU,eV,eW,eX,eY,eZ,aa,ab,ac,ae,af,ag,ah,ai,aj,ak,al,am,an,ao,ap,aq,ar,au,av,aw,ax,ay,az,aA,aB,aC,aD,aE,aF,aG,aH,aI,aJ,aK,aL,aM,aN,aO,aP,aQ,aR,aS,aT,aU,aV,aW,aX,aY,aZ,ba,bb,bc,bd,be,bf,bg,bh,bi,bj,bk],defers:=[DM E] } W:=by
 rw [RV];refine Ae (λK hK=>?_);have HK:=qh hK;clear hK;refine Ui s (AI s.strip) B E w W hs hb [DM E] _ (λhd x0 x3 x4 x5 x6 x7 x8 x9 x10 x11 x12 x13 x14 x15 x16 x17 x18 x19 x20 x21 x22 x23 x24 x25 x26 x27 x28 x29 x30 x31 x32 x33 x34 x35 x36 x37 x38 x39 x40 x41 x42 x43 x44 x45 x46 x47 x48 x49 x50 x51 x52 x53 x54 x55 x56 x57 x58 x59 x60 x61 x62 x63 x64 x65 x66 x67 x68 x69 x70 x71 x72 x73 x74 x75 x76 x77 x78 x79 x80 x81 x82 x83 x84 x85 x86 x87 x88 x89 x90 x91 x92 x93 x94 x95 x96 x97 x98 x99 x100 x101 x102 x103 x104 x105 x106 x107 x108 x109 x110 x111 x112 x113 x114 x115 x116 x117 x118 x119 x120 x121 V hV=>?_) (λhd t V ht hV=>?_)
 ·refine HK.out _ _ ?_
  exact Uq s ns B E w0 w V hc hs hD hE hA hC hV (by rw [hB,hd,Bool.true_and])
 ·exact De E s ns w0 w hA hC hE (by rw [hB,hd,Bool.false_and,if_neg (by simp)]) t V ht hV
theorem Uo(s:Ls)(ns:List Int)(B E:Nat)(w0 w W:World)(hc:Dd s.strip ns=0)(hs:RgS s (AI s.strip) B w)(hD:NumAt (AI s.strip) w (Ao (blk s.da) (off s.da) s.dances))(hE:w.heap[E]?=some (.cells #[int i64 0] 40 (0,0)))(hA:w0.heap.size≤E)(hC:Below w0.heap.size w0 w)(hb:Below w.heap.size w W)(hB:B5 s ns=if ((inB s.wd 1 1000&&inB s.dp 1 1000)&&((inB s.t0 1 127&&inB s.t1 0 s.t0)&&(s.roles.all (C6 s)&&(decide (C8 ⟨s.bars,s.tempos,s.pauses,s.spans⟩=0)&&(s.phrases.all (λp=>p.its.strip.exB)&&(decide (BG (s.nexts (AI s.strip))=[])&&s.dances.all (CR s (AI s.strip) (DR s.itsL (AI s.strip)))))))))=true then 0 else 180):
  (Ab 3 AC).wp Tryz.prog (bodyPostD Tryz.prog Tryz.f20 (Iy s ns w0)) { tmps:=#[e0,.pointer (some ⟨B,0,none⟩),.pointer (some ⟨E,0,none⟩),e3,e4,e5,e6,e7,e8,e9,ea,eb,ec,ed,ee,ef,eg,eh,ei,ej,ek,el,em,en,eo,ep,eq,er,es,et,eu,ev,ew,ex,ey,ez,eA,eB,eC,eD,eE,eF,eG,eH,eI,eJ,eK,eL,eM,eN,eO,eP,eQ,eR,eS,eT,eU,eV,eW,eX,eY,eZ,aa,ab,ac,ae,af,ag,ah,ai,aj,ak,al,am,an,ao,ap,aq,ar,au,av,aw,ax,ay,az,aA,aB,aC,aD,aE,aF,aG,aH,aI,aJ,aK,aL,aM,aN,aO,aP,aQ,aR,aS,aT,aU,aV,aW,aX,aY,aZ,ba,bb,bc,bd,be,bf,bg,bh,bi,bj,bk],defers:=[DM E] } W:=by
 rw [RU];refine Ae (λK hK=>?_);have HK:=qh hK;clear hK;refine Uh s (AI s.strip) B E w W hs hb [DM E] _ (λhd x0 x3 x4 x5 x6 x7 x8 x9 x10 x11 x12 x13 x14 x15 x16 x17 x18 x19 x20 x21 x22 x23 x24 x25 x26 x27 x28 x29 x30 x31 x32 x33 x34 x35 x36 x37 x38 x39 x40 x41 x42 x43 x44 x45 x46 x47 x48 x49 x50 x51 x52 x53 x54 x55 x56 x57 x58 x59 x60 x61 x62 x63 x64 x65 x66 x67 x68 x69 x70 x71 x72 x73 x74 x75 x76 x77 x78 x79 x80 x81 x82 x83 x84 x85 x86 x87 x88 x89 x90 x91 x92 x93 x94 x95 x96 x97 x98 x99 x100 x101 x102 x103 x104 x105 x106 x107 x108 x109 x110 x111 x112 x113 x114 x115 x116 x117 x118 x119 x120 x121 V hV=>?_) (λhd t V ht hV=>?_)
 ·refine HK.out _ _ ?_
  exact Up s ns B E w0 w V hc hs hD hE hA hC hV (by rw [hB,hd,Bool.true_and])
 ·exact De E s ns w0 w hA hC hE (by rw [hB,hd,Bool.false_and,if_neg (by simp)]) t V ht hV
theorem FQ(s:Ls)(ns:List Int)(w:World)(hA:s.At w)(hN:NsAt w s.refs ns)(he:Env w):Calls Tryz.prog 20 #[s.val] w (Iy s ns w):=by
 have hX:∀(fn:Fn) (first cap:Array Value) (w:World),(Instr.makeFunc fn first cap).run Tryz.prog w=.ok (.func fn first cap) w:=λ_ _ _ _=>rfl
 obtain ⟨W0,hH,gB,b0,s0⟩:=Af w s.cells 30;obtain ⟨W1,hM,gE,b1,s1⟩:=Af W0 #[int i64 0] 40;have b01:=Ag b0 b1;have C:=QM s ns W1 (hA.below b01) (hN.below b01) (he.below b01);have gB1:=Ah b1 gB
 -- behind names.Check
 have hO:∀V c,Below W1.heap.size W1 V→∃V2,V.setCell ⟨W0.heap.size,0,none⟩ (int i64 c)=V2∧V2.heap[W0.heap.size]?=some (.cells #[int i64 c] 40 (0,0))∧V2.heap[w.heap.size]?=some (.cells s.cells 30 (0,0))∧Below w.heap.size w V2:=λV c hV =>
  ⟨_,rfl,one_setCell (Ah hV gE),by rw [AX _ (by omega)];exact Ah hV gB1,((Ag b01 hV)).setCell (p:=⟨W0.heap.size,0,none⟩) (by show w.heap.size≤W0.heap.size;omega) _⟩
 have hC:w.heap.size≤W0.heap.size:=by omega
 have hv:s.val=.agg s.cells:=rfl;rw [hv];have HX:=qh gB1;have HC:=qh C;have hP:=qh hO;have HA:=qh hA;have HN:=qh hN;have hU:=qh hM;have hF:=qh gE;have hY:=qh hH;have hQ:=qh hC;unfold Ls.cells at hH ⊢;clear hA hN he gB gB1 gE b0 b1 b01 C hO hv s0 s1 hM hC;go_enter_defers Tryz.func20,Tryz.ntmps20;change Code.wp Tryz.prog AC _ _ _;rw [RQ];refine Ae (λK hK=>?_);have HK:=qh hK;clear hK
 conv=>arg 2;whnf
 go_wp2_with fail;rw [hU.out];refine HK.out _ _ ?_;clear HK K hH;rw [RR];refine Ae (λK hK=>?_);have HK:=qh hK;clear hK
 conv=>arg 2;whnf
 have st0:True:=trivial;obtain ⟨c,hc⟩:∃c,Dd s.strip ns=c:=⟨_,rfl⟩;have hG:=qh hc;unfold N6 at HC;rw [hc] at HC;clear hc;generalize hR:w.heap.size=B at *;generalize hW:W0.heap.size=E at *;by_cases hz:c=0
 ·subst hz
  go_wp2_with (first|(have q:=st0;clear q st0;(refine wpList_load_row rfl 30 _ rfl B rfl 30 s.cells (0,0) _ HX.out Tryz.underlying30 rfl (by kernel_rfl) ?_;simp only [Act.put,qD,qE,qF]))|(go_at_call 54;refine HC.out.mono ?_;rintro e V ⟨rfl,hv⟩;have HV:=qh hv;have x0:=cell_of_one (Ah hv hF.out);have f0:=free_of_one (Ah hv hF.out);obtain ⟨V2,hS,g1,g2,g3⟩:=hP.out V 0 hv;have y1:=cell_of_one g1;have hI:=qh g1;have hT:=qh g2;have hD:=qh g3;clear hv g1 g2 g3));refine HK.out _ _ ?_;clear HK K;subst hR;subst hW;have hA:=HA.out.below hD.out;have hE:=MN hG.out (HN.out.below hD.out);have hB:B5 s ns=if ((inB s.wd 1 1000&&inB s.dp 1 1000)&&((inB s.t0 1 127&&inB s.t1 0 s.t0)&&(s.roles.all (C6 s)&&(decide (C8 ⟨s.bars,s.tempos,s.pauses,s.spans⟩=0)&&(s.phrases.all (λp=>p.its.strip.exB)&&(decide (BG (s.nexts (AI s.strip))=[])&&s.dances.all (CR s (AI s.strip) (DR s.itsL (AI s.strip)))))))))=true then 0 else 180:=by unfold B5;rw [if_pos hG.out];rfl
  have hJ:=qh (And.intro hA hE);have hL:=qh hB;clear hA hE hB x0 f0 hS y1;rw [RT];refine Ae (λK hK=>?_);have HK:=qh hK;clear hK
  conv=>arg 2;whnf
  go_wp2_with fail;refine HK.out _ _ ?_;exact Uo s ns w.heap.size W0.heap.size w V2 V2 hG.out ⟨hJ.out.1,hT.out,λx hx=>hJ.out.2 x (by unfold Ls.refs;exact List.mem_append.2 (Or.inl hx))⟩ (λx hx=>hJ.out.2 x (by unfold Ls.refs;exact List.mem_append.2 (Or.inr hx))) hI.out hQ.out hD.out (Below.refl _ _) hL.out
 ·have hB:B5 s ns=c:=by unfold B5;rw [hG.out,if_neg hz]
  have hL:=qh hB;clear hB
  go_wp2_with (first|(have q:=st0;clear q st0;(refine wpList_load_row rfl 30 _ rfl B rfl 30 s.cells (0,0) _ HX.out Tryz.underlying30 rfl (by kernel_rfl) ?_;simp only [Act.put,qD,qE,qF]))|(go_at_call 54;refine HC.out.mono ?_;rintro e V ⟨rfl,hv⟩;have HV:=qh hv;have x0:=cell_of_one (Ah hv hF.out);have f0:=free_of_one (Ah hv hF.out);obtain ⟨V2,hS,g1,g2,g3⟩:=hP.out V c hv;have y1:=cell_of_one g1;have f1:=free_of_one g1;have hI:=qh g1;have hT:=qh g2;have hD:=qh g3;clear hv g1 g2 g3));have y2:=cell_of_one (one_setCell (u:=int i64 c) hI.out);simp [bodyPostD,Leaves,results,Tryz.results20,go_sem,y2];subst hR;exact ⟨by rw [hL.out],hD.out.setCell (p:=⟨E,0,none⟩) hQ.out _⟩
end
section
open Go Go.RowKit Go.Deep
theorem Pp{a b:Int}{r:Bool}{w:World}{X:Result Bool}(h:X=.ok r w):(if a=b then X else .ok false w)=.ok (a==b&&r) w:=by
 by_cases e:a=b<;>simp [e,h]
theorem P6(a0 a1 a2 a3 a4 a5 a6 a7 a8 a9 aa ab ac ad b0 b1 b2 b3 b4 b5 b6 b7 b8 b9 ba bb bc bd:Int)(w:World) :
  (Op.equalIn 10000 54 (.agg #[int i64 a0,int i64 a1,int i64 a2,int i64 a3,int i64 a4,int i64 a5,int i64 a6,int i64 a7,int i64 a8,int i64 a9,int i64 aa,int i64 ab,int i64 ac,int i64 ad])
   (.agg #[int i64 b0,int i64 b1,int i64 b2,int i64 b3,int i64 b4,int i64 b5,int i64 b6,int i64 b7,int i64 b8,int i64 b9,int i64 ba,int i64 bb,int i64 bc,int i64 bd])).run Tryz.prog w =
  .ok (a0==b0&&(a1==b1&&(a2==b2&&(a3==b3&&(a4==b4&&(a5==b5&&(a6==b6&&(a7==b7&&(a8==b8&&(a9==b9&&(aa==ba&&(ab==bb&&(ac==bc&&ad==bd))))))))))))) w:=by
 have hS:Tryz.prog.underlying 54=some (.struct (Tryz.prog.fieldsOf 54)):=by kernel_rfl
 have hp:Tryz.prog.stoodInHeld 54=false:=by kernel_rfl
 have hA:Tryz.prog.underlying 52=some (.struct (Tryz.prog.fieldsOf 52)):=by kernel_rfl
 have hB:Tryz.prog.stoodInHeld 52=false:=by kernel_rfl
 have u3:=Tryz.underlying3;have q3:=Tryz.isAgg3;have z3:=Tryz.sizeOf3;have a41:=Tryz.isAgg52;have z41:=Tryz.sizeOf52;rw [show (10000:Nat)=9999+1 from rfl,run_equalIn_agg w 9999 54 _ _ hS hp];clear hS;simp only [Program.fieldsOf,Tryz.underlying54];simp only [Op.eqFields];clear hA;have hC:=Tryz.underlying52;go_simp
 iterate 13 refine Pp ?_
 by_cases h:ad=bd<;>simp [h]
theorem Qi(x y:Sgn):(x.id==y.id&&(x.role==y.role&&(x.bar==y.bar&&(x.mark==y.mark&&(x.kind==y.kind&&(x.side==y.side&&(x.dir==y.dir&&(x.level==y.level&&(x.size==y.size&&(x.wth==y.wth&&(x.fn==y.fn&&(x.fd==y.fd&&(x.tn==y.tn&&x.td==y.td)))))))))))))=decide (x=y):=by
 cases x;cases y;rw [Bool.eq_iff_iff];simp only [Bool.and_eq_true,beq_iff_eq,decide_eq_true_eq,Sgn.mk.injEq]
theorem KY:Tryz.prog.eqGuardType Tryz.prog.depth 54=false:=by kernel_rfl
theorem LM(a:Act)(o:Oper)(x y:Operand)(t:TypeId)(ho:o.op=.binOp .neq 54 x y t)(s u:Sgn)(hx:a.eval x=.agg (Av s).toArray)(hy:a.eval y=.agg (Av u).toArray)(w:World):(execOp a.eval o).run Tryz.prog w=.ok (.value (.bool (!decide (s=u)))) w:=by
 unfold execOp;simp only [ho,hx,hy,Sem.run_bind,Sem.run_pure,run_eqGuard_agg w .neq 54 x y _ _ KY,Result.andThen_ok,run_neq_struct];unfold Av;rw [P6,Qi]
 rfl
theorem EN{P:Program}{ops:Array Oper}{w:World}{Q:Exit→Act→World→Prop}{op:Oper}{rest:List Oper}{a:Act}(hw:Region.wanted op (yielded ops a.tmps)=true)(v:Value)(h0:(execOp a.eval op).run P w=.ok (.value v) w)(h:wpList P ops Q rest (a.put op.dst v) w):wpList P ops Q (op::rest) a w :=
 wpList_step λK hK=>by
  rw [if_pos hw];unfold Oper.wp;rw [h0];exact hK _ _ h
theorem IsRow.parts{α:Type}{enc:α→List Value}{k:Nat}{w:World}{ao:Option Addr}{n c:Nat}{xs:List α}(h:IsRow enc k w (.slice ao n c) xs):∃g o,(xs=[]∨ao=some ⟨g,o,none⟩)∧xs.length≤maxLen∧∀(i:Nat) (x:α),xs[i]?=some x→w.rangeAt g (o+i*k) (enc x):=by
 obtain ⟨ao',c',e,hl,h⟩:=h;injection e with e1 e2 e3;rcases h with h|⟨b,o,e4,h1,h2⟩
 ·exact ⟨0,0,Or.inl h,hl,λi x hx=>by rw [h] at hx;cases hx⟩
 ·exact ⟨b,o,Or.inr (e1.trans e4),hl,λi x hx j v hv=>h1 i x hx j v hv⟩
theorem In(xs ys:List Sgn)(a1 a2:Option Addr)(c1 c2:Nat)(W:World)(h1:IsRow Av 14 W (.slice a1 xs.length c1) xs)(h2:IsRow Av 14 W (.slice a2 ys.length c2) ys):Calls Tryz.prog 19 #[.slice a1 xs.length c1,.slice a2 ys.length c2] W λe w'=>e=.returned (.bool (decide (xs=ys)))∧Below W.heap.size W w':=by
 obtain ⟨g1,o1,f1,m1,k1⟩:=h1.parts;obtain ⟨g2,o2,f2,m2,k2⟩:=h2.parts;clear h1 h2;have hL:=qh f1;have hM:=qh f2;have hN:=qh k1;have hO:=qh k2;clear f1 f2 k1 k2;unfold maxLen at m1 m2;generalize hF:xs.length=n1 at *;generalize hG:ys.length=n2 at *;have hC:=qh hF;have hD:=qh hG;clear hF hG;by_cases hH:(n1:Int)=(n2:Int)
 ·obtain rfl:n1=n2:=by omega
  clear hH;go_enter Tryz.func19,Tryz.ntmps19;go_wp2_with fail;go_loopw [5] (λiv wr=>∃(i q:Nat),iv=int i64 i∧i≤n1∧wr=W.drewN q∧Hid (∀j,j<i→xs[j]?=ys[j]?)) (λiv _=>n1+1-(intOf iv).toNat)
  case atStart=>exact ⟨0,0,rfl,Nat.zero_le _,rfl,qh (λj hj=>by omega)⟩
  case round =>
   obtain ⟨i,q,rfl,hQ,rfl,hI⟩:=hrel;by_cases hJ:i<n1
   ·have hi:(i:Int)<(n1:Int):=by omega
    obtain ⟨x,hx⟩:∃x,xs[i]?=some x:=⟨_,qg (by rw [hC.out];exact hJ)⟩;obtain ⟨y,hy⟩:∃y,ys[i]?=some y:=⟨_,qg (by rw [hD.out];exact hJ)⟩;have e1:=hL.out.resolve_left (λe=>by rw [e] at hx;simp at hx);have e2:=hM.out.resolve_left (λe=>by rw [e] at hy;simp at hy);have HA:=qh (hN.out i x hx);have HC:=qh (hO.out i y hy);have HX:=qh hx;have HY:=qh hy;clear hx hy;subst e1 e2;go_wp2_with fail;refine AM (λw2=>w2=(W.drewN q).drew) 8 (by kernel_rfl) (by kernel_rfl) rfl ?_;intro w2 hS;subst hS;simp only [List.take_succ_cons,List.take_zero,List.drop_succ_cons,List.drop_zero]
    iterate 3 still_step
    refine AF (by kernel_rfl) 54 _ rfl g1 (o1+i*14) rfl _ _ HA.out Tryz.underlying54 rfl (by kernel_rfl) ?_
    try simp only [Act.put,qz]
    iterate 3 still_step
    refine AF (by kernel_rfl) 54 _ rfl g2 (o2+i*14) rfl _ _ HC.out Tryz.underlying54 rfl (by kernel_rfl) ?_
    try simp only [Act.put,qz]
    refine wpStill_nil ?_;refine EN (by kernel_rfl) _ (LM _ _ _ _ _ rfl x y rfl rfl _) ?_
    try simp only [Act.put,qz]
    by_cases hB:x=y
    ·rw [decide_eq_true hB]
     subst hB;go_wp2_with fail;go_roundw
     case rel=>exact ⟨i+1,_,by go_num,by omega,rfl,qh (λj hj=>by rcases Nat.lt_or_ge j i with h|h;exact hI.out j h;rw [show j=i by omega,HX.out,HY.out])⟩
     case measure=>simp [intOf];omega
    ·have hA:¬xs=ys:=λe=>by have:=HX.out;rw [e,HY.out] at this;cases this;exact hB rfl
     have hE:=qh hA;rw [decide_eq_false hB];clear hA;go_wp2_with fail;go_ret;exact ⟨by rw [decide_eq_false hE.out];rfl,Aj (Aj (Below.refl _ _) _) _⟩
   ·have:i=n1:=by omega
    subst this;have hz:¬(i:Int)<(i:Int):=by omega
    have hK:xs=ys:=by
     apply List.ext_getElem?;intro j;rcases Nat.lt_or_ge j i with h|h
     ·exact hI.out j h
     ·rw [List.getElem?_eq_none (by rw [hC.out];exact h),List.getElem?_eq_none (by rw [hD.out];exact h)]
    have hP:=qh hK;clear hK;go_wp2_with fail;go_ret;exact ⟨by rw [decide_eq_true hP.out];rfl,Aj (Below.refl _ _) _⟩
 ·have hA:¬xs=ys:=λe=>hH (by rw [← hC.out,← hD.out,e])
  have hE:=qh hA;clear hA;go_enter Tryz.func19,Tryz.ntmps19;go_wp2_with fail;go_ret;exact ⟨by rw [decide_eq_false hE.out];rfl,Below.refl _ _⟩
end
section
open Go Go.RowKit
def Tf(k:Wrk):Bool :=
 !(decide (100<k.roles.length)||decide (64<k.clock.tempos.length)||decide (64<k.clock.pauses.length)||decide (64<k.clock.spans.length)) &&
 (decide (k.signs.length≤80)&&decide (k.clock.bars≤4096)||decide (4096<k.signs.length)&&decide (k.signs.length≤5000)||decide (4096<k.clock.bars)&&decide (k.signs.length≤80))
theorem UG(wd dp ta tb tc bars:Int)(aR aT aP aX aS:Option Addr)(cR cT cP cX cS:Nat)(rs:List Rol)(ts:List Tmp)(ps:List Pau)(xs:List Con)(ss:List Sgn)(w:World) :
  Calls Tryz.prog 14 #[.agg #[int i64 wd,int i64 dp,int i64 ta,int i64 tb,int i64 tc,.slice aR rs.length cR,int i64 bars,.slice aT ts.length cT,.slice aP ps.length cP,.slice aX xs.length cX,.slice aS ss.length cS]] w λe w'=>e=.returned (.bool (Tf ⟨wd,dp,ta,tb,tc,rs,⟨bars,ts,ps,xs⟩,ss⟩))∧Below w.heap.size w w':=by
 have hf:Tf ⟨wd,dp,ta,tb,tc,rs,⟨bars,ts,ps,xs⟩,ss⟩=(!(decide (100<rs.length)||decide (64<ts.length)||decide (64<ps.length)||decide (64<xs.length)) &&
  (decide (ss.length≤80)&&decide (bars≤4096)||decide (4096<ss.length)&&decide (ss.length≤5000)||decide (4096<bars)&&decide (ss.length≤80))):=rfl
 generalize Tf ⟨wd,dp,ta,tb,tc,rs,⟨bars,ts,ps,xs⟩,ss⟩=ans at *;generalize rs.length=nR at *;generalize ts.length=nT at *;generalize ps.length=nP at *;generalize xs.length=nX at *;generalize ss.length=nS at *;have hb:Below w.heap.size w (w.alloc (.cells #[int i64 wd,int i64 dp,int i64 ta,int i64 tb,int i64 tc,.slice aR nR cR,int i64 bars,.slice aT nT cT,.slice aP nP cP,.slice aX nX cX,.slice aS nS cS] 39)):=(Below.refl _ _).alloc (qn _) _;have HB:=qh hb;have HF:=qh hf;clear hb hf;by_cases h1:100<nR
 ·have f1:(100:Int)<(nR:Int):=by omega
  obtain rfl:ans=false:=by rw [HF.out,decide_eq_true h1];simp
  clear h1;go_enter Tryz.func14,Tryz.ntmps14;go_wp2_with fail;go_ret;exact ⟨rfl,HB.out⟩
 have f1:¬(100:Int)<(nR:Int):=by omega
 by_cases h2:64<nT
 ·have f2:(64:Int)<(nT:Int):=by omega
  obtain rfl:ans=false:=by rw [HF.out,decide_eq_true h2];simp
  clear h1 h2;go_enter Tryz.func14,Tryz.ntmps14;go_wp2_with fail;go_ret;exact ⟨rfl,HB.out⟩
 have f2:¬(64:Int)<(nT:Int):=by omega
 by_cases h3:64<nP
 ·have f3:(64:Int)<(nP:Int):=by omega
  obtain rfl:ans=false:=by rw [HF.out,decide_eq_true h3];simp
  clear h1 h2 h3;go_enter Tryz.func14,Tryz.ntmps14;go_wp2_with fail;go_ret;exact ⟨rfl,HB.out⟩
 have f3:¬(64:Int)<(nP:Int):=by omega
 by_cases h4:64<nX
 ·have f4:(64:Int)<(nX:Int):=by omega
  obtain rfl:ans=false:=by rw [HF.out,decide_eq_true h4];simp
  clear h1 h2 h3 h4;go_enter Tryz.func14,Tryz.ntmps14;go_wp2_with fail;go_ret;exact ⟨rfl,HB.out⟩
 have f4:¬(64:Int)<(nX:Int):=by omega
 replace HF:=qh (HF.out.trans (by rw [decide_eq_false h1,decide_eq_false h2,decide_eq_false h3,decide_eq_false h4];rfl):ans=(decide (nS≤80)&&decide (bars≤4096)||decide (4096<nS)&&decide (nS≤5000)||decide (4096<bars)&&decide (nS≤80)))
 clear h1 h2 h3 h4;by_cases h5:nS≤80
 ·have f5:(nS:Int)≤80:=by omega
  have f6:¬(4096:Int)<(nS:Int):=by omega
  obtain rfl:ans=true:=by
   rw [HF.out,decide_eq_true h5];by_cases hb:bars≤4096
   ·rw [decide_eq_true hb];rfl
   ·rw [decide_eq_true (show 4096<bars by omega)];simp
  clear h5;by_cases hb:bars≤4096
  ·go_enter Tryz.func14,Tryz.ntmps14
   go_wp2_with fail;go_ret;exact ⟨rfl,HB.out⟩
  ·have hA:4096<bars:=by omega
   go_enter Tryz.func14,Tryz.ntmps14;go_wp2_with fail;go_ret;exact ⟨rfl,HB.out⟩
 ·have f5:¬(nS:Int)≤80:=by omega
  have f7:decide ((nS:Int)≤80)=false:=decide_eq_false f5
  replace HF:=qh (HF.out.trans (by rw [decide_eq_false h5];simp):ans=(decide (4096<nS)&&decide (nS≤5000)))
  by_cases h6:4096<nS
  ·have f6:(4096:Int)<(nS:Int):=by omega
   by_cases h7:nS≤5000
   ·have f8:(nS:Int)≤5000:=by omega
    obtain rfl:ans=true:=by rw [HF.out,decide_eq_true h6,decide_eq_true h7];rfl
    clear h5 h6 h7;go_enter Tryz.func14,Tryz.ntmps14;go_wp2_with fail;go_ret;exact ⟨rfl,HB.out⟩
   ·have f8:¬(nS:Int)≤5000:=by omega
    obtain rfl:ans=false:=by rw [HF.out,decide_eq_false h7];simp
    clear h5 h6 h7;by_cases hb:4096<bars
    ·go_enter Tryz.func14,Tryz.ntmps14
     go_wp2_with fail;go_ret;exact ⟨rfl,HB.out⟩
    ·go_enter Tryz.func14,Tryz.ntmps14
     go_wp2_with fail;go_ret;exact ⟨rfl,HB.out⟩
  ·have f6:¬(4096:Int)<(nS:Int):=by omega
   obtain rfl:ans=false:=by rw [HF.out,decide_eq_false h6];rfl
   clear h5 h6;by_cases hb:4096<bars
   ·go_enter Tryz.func14,Tryz.ntmps14
    go_wp2_with fail;go_ret;exact ⟨rfl,HB.out⟩
   ·go_enter Tryz.func14,Tryz.ntmps14
    go_wp2_with fail;go_ret;exact ⟨rfl,HB.out⟩
end
end Go.Proofs.YtbkemlgfdklpfaaGreatDoor

/- Contracts and plain laws on the way to the statement: part 19. -/
import Derived.Test.YtbkemlgfdklpfaaGreatDoorV8
import Derived.Test.YtbkemlgfdklpfaaGreatDoorV12
import Derived.Test.YtbkemlgfdklpfaaGreatDoorV7
import Derived.WalkSpells
import Derived.WalkLawsBesides
import Derived.Lib.Bytealg
import Derived.Test.YtbkemlgfdklpfaaGreatDoorV4
set_option linter.unusedVariables false
set_option linter.unusedSimpArgs false
set_option maxRecDepth 100000
set_option maxHeartbeats 16000000
namespace Go.Proofs.YtbkemlgfdklpfaaGreatDoor
open Go.Value (int)
open Go.IntKind (i64)
section
open Go.RowKit
theorem LA{n:Nat}(h:(97≤n∧n≤122)∨(65≤n∧n≤90)):cls n=2:=by unfold cls;rw [if_pos h]
theorem Nj{n:Nat}(h:48≤n∧n≤57):cls n=3:=by unfold cls;rw [if_neg (by omega),if_pos h]
theorem OO{n:Nat}(h:n=95):cls n=5:=by unfold cls;rw [if_neg (by omega),if_neg (by omega),if_pos h]
theorem Nl{n:Nat}(h:n=32∨n=9∨n=10∨n=13):cls n=1:=by
  unfold cls;rw [if_neg (by omega),if_neg (by omega),if_neg (by omega),if_pos h]
theorem OP{n:Nat}(h1:¬((97≤n∧n≤122)∨(65≤n∧n≤90)))(h2:¬(48≤n∧n≤57))(h3:¬n=95)(h4:¬(n=32∨n=9∨n=10∨n=13))
    (h:0≤Lib.indexByte [123,125,40,41,59,44,61,58,46,60,62,33,43,45,42,47] (UInt8.ofNat n)):cls n=4:=by
  unfold cls;rw [if_neg h1,if_neg h2,if_neg h3,if_neg h4,if_pos (by unfold FP;exact h)]
theorem Nk{n:Nat}(h1:¬((97≤n∧n≤122)∨(65≤n∧n≤90)))(h2:¬(48≤n∧n≤57))(h3:¬n=95)(h4:¬(n=32∨n=9∨n=10∨n=13))
    (h:Lib.indexByte [123,125,40,41,59,44,61,58,46,60,62,33,43,45,42,47] (UInt8.ofNat n)<0):cls n=0:=by
  unfold cls;rw [if_neg h1,if_neg h2,if_neg h3,if_neg h4,if_neg (by unfold FP;omega)]
theorem DA(n:Nat)(w:World) :
    Calls Tryz.prog 166 #[.int .u8 n] w λe w'=>e=.returned (int i64 (cls n))∧w=w':=by
  go_enter Tryz.func166,Tryz.ntmps166
  go_wp2_with (go_at_call 173;refine (Tryz.strings_IndexByte _ _ _).mono ?_;rintro e w' ⟨rfl,rfl⟩)
  all_goals
    go_ret;refine ⟨AK ?_,rfl⟩
    try simp only [beq_iff_eq,beq_eq_false_iff_ne,ne_eq] at *
    first
      | exact (LA (by omega)).symm
      | exact (Nj (by omega)).symm
      | exact (OO (by omega)).symm
      | exact (Nl (by omega)).symm
      | exact (OP (by omega) (by omega) (by omega) (by omega) (by assumption)).symm
      | exact (Nk (by omega) (by omega) (by omega) (by omega) (by assumption)).symm
theorem DP(s:ByteArray)(k:Nat)(h:k<s.size):s.data.toList[k]?=some s[k]:=by
  rw [qg (by simpa using h)];rfl
theorem JL{l:List UInt8}(h:l=[]):BA l=false:=by subst h;rfl
theorem Ed{l:List UInt8}(h:32<l.length):BA l=false:=by
  unfold BA;have:decide (l.length≤32)=false:=by simp;omega
  rw [this];simp
theorem KJ{l:List UInt8}{c:UInt8}(h:l[0]?=some c)(hc:cls c.toNat≠2):BA l=false:=by
  cases l with
  | nil=>rfl
  | cons d r=>simp at h;subst h;unfold BA GY cl;simp [hc]
theorem KK{l:List UInt8}{k:Nat}{c:UInt8}(h:l[k]?=some c)(h2:cls c.toNat≠2)(h3:cls c.toNat≠3)(h5:cls c.toNat≠5):BA l=false:=by
  have:l.all Ec=false:=by
    rw [List.all_eq_false];exact ⟨c,List.mem_of_getElem? h,by unfold Ec cl;simp [h2,h3,h5]⟩
  unfold BA;rw [this];simp
theorem KL{l:List UInt8}{c:UInt8}(h:l[0]?=some c)(hc:cls c.toNat=2)(hl:l.length≤32)(ha:l.all Ec=true):BA l=true:=by
  cases l with
  | nil=>simp at h
  | cons d r=>simp at h;subst h;unfold BA;rw [ha];unfold GY cl;simp at hl;simp [hc];omega
theorem Js{l:List UInt8}{k:Nat}{c:UInt8}(h:l[k]?=some c)(ha:(l.take k).all Ec=true)(hc:cls c.toNat=2∨cls c.toNat=3∨cls c.toNat=5):(l.take (k+1)).all Ec=true:=by
  rw [List.take_add_one,List.all_append,ha,h];unfold Ec cl;rcases hc with hc|hc|hc<;>simp [hc]
theorem Jl{s:ByteArray}(h:0<s.size):s.toList.isEmpty=false:=by
  rw [ByteArray.toList_eq,List.isEmpty_eq_false_iff];intro e;have h2:s.data.toList.length=0:=by rw [e];rfl
  rw [show s.data.toList.length=s.size by simp] at h2;omega
theorem PJ{x:Int}(h:((x != 2)=false∨(x != 3)=false)∨(x != 5)=false):x=2∨x=3∨x=5:=by
  simp only [bne_eq_false_iff_eq] at h;omega
theorem Mq{s:ByteArray}(h:s.size=0):s.toList=[]:=by
  rw [ByteArray.toList_eq];exact List.length_eq_zero_iff.1 (by simpa using h)
theorem NC(s:ByteArray)(w:World)(hs:s.size≤maxLen) :
    Calls Tryz.prog 148 #[.string s] w λe w'=>e=.returned (.bool (BA s.data.toList))∧w=w':=by
  unfold maxLen at hs;have hC:s.data.toList.length=s.size:=by simp
  have HZ:=qh hC;clear hC;by_cases hA:0<s.size
  · have hD := Jl hA
    have hF:¬s.toList=[]:=by intro e;rw [e] at hD;simp at hD
    by_cases hH:s.size≤32
    · by_cases hc : (cls s[0].toNat == 2) = true
      · have hE : (cls s[0].toNat != 2) = false := by simpa using hc
        have HC:=qh hc;clear hc;go_enter Tryz.func148,Tryz.ntmps148
        go_wp2_with (go_at_call 166;refine (DA _ _).mono ?_;rintro e w' ⟨rfl,rfl⟩);go_loop [20] (λi=>∃k:Nat,k≤s.size∧i=int i64 k∧Hid ((s.data.toList.take k).all Ec=true)) (λi=>s.size-(intOf i).toNat)
        case atStart=>exact ⟨0,Nat.zero_le _,rfl,by simp [Hid]⟩
        case round =>
          obtain ⟨k,hk,rfl,hB⟩:=hrel;by_cases hG:k<s.size
          · have hb := qh (DP s k hG)
            go_wp2_with (go_at_call 166;refine (DA _ _).mono ?_;rintro e w' ⟨rfl,rfl⟩)
            all_goals first
              | (go_ret;exact ⟨Az (KK hb.out (by assumption) (by assumption) (by simp_all)).symm,rfl⟩)
              | (go_round
                 case rel=>exact ⟨k+1,by omega,by go_num,Js hb.out hB.out (by first|exact Or.inl (by assumption)|exact Or.inr (Or.inl (by assumption))|exact PJ (by assumption))⟩
                 case measure=>simp [intOf];omega)
          · go_wp2
            go_ret;refine ⟨Az (KL (DP s 0 hA) (by have:=HC.out;simpa using this) (by rw [HZ.out];omega) ?_).symm,rfl⟩;have:=hB.out
            rwa [List.take_of_length_le (by rw [HZ.out];omega)] at this
      · have hE : (cls s[0].toNat != 2) = true := by simpa using hc
        go_enter Tryz.func148,Tryz.ntmps148
        go_wp2_with (go_at_call 166;refine (DA _ _).mono ?_;rintro e w' ⟨rfl,rfl⟩);go_ret;exact ⟨Az (KJ (DP s 0 hA) (by simpa using hE)).symm,rfl⟩
    · go_enter Tryz.func148, Tryz.ntmps148
      go_wp2_with (go_at_call 166;refine (DA _ _).mono ?_;rintro e w' ⟨rfl,rfl⟩);go_ret;exact ⟨Az (Ed (by rw [HZ.out];omega)).symm,rfl⟩
  · have he := Mq (s := s) (by omega)
    go_enter Tryz.func148,Tryz.ntmps148
    go_wp2_with (go_at_call 166;refine (DA _ _).mono ?_;rintro e w' ⟨rfl,rfl⟩);go_ret;exact ⟨Az (JL (by rw [← ByteArray.toList_eq];exact he)).symm,rfl⟩
end
section
open Go Go.RowKit
theorem LZ(s:Nm)(w:World):Calls Tryz.prog 121 #[sv s] w λe w'=>e=.returned (sv s)∧w=w':=by
 go_enter Tryz.func121,Tryz.ntmps121;go_wp2;go_ret;exact ⟨rfl,rfl⟩
theorem M0(s:Nm)(x y f:Int)(w:World):Calls Tryz.prog 123 #[.agg #[sv s,int i64 x,int i64 y,int i64 f]] w λe w'=>e=.returned (sv s)∧Below w.heap.size w w':=by
 have HB:=qh ((Below.refl w.heap.size w).alloc (qn _) (.cells #[sv s,int i64 x,int i64 y,int i64 f] 73));go_enter Tryz.func123,Tryz.ntmps123;go_wp2;go_ret;exact ⟨rfl,HB.out⟩
theorem M7(s:Nm)(a:Option Addr)(n c:Nat)(w:World):Calls Tryz.prog 125 #[.agg #[sv s,.slice a n c]] w λe w'=>e=.returned (sv s)∧Below w.heap.size w w':=by
 have HB:=qh ((Below.refl w.heap.size w).alloc (qn _) (.cells #[sv s,.slice a n c] 58));go_enter Tryz.func125,Tryz.ntmps125;go_wp2;go_ret;exact ⟨rfl,HB.out⟩
theorem EU{l:Nm}(h:BA l=true):l.length≤32:=by
 by_cases hl:l.length≤32
 ·exact hl
 ·rw [Ed (by omega)] at h;cases h
theorem Cq(s:Nm)(w:World):Calls Tryz.prog 148 #[sv s] w λe w'=>e=.returned (.bool (BA s))∧w=w':=by
 by_cases hD:s.length≤32
 ·have h:=NC ⟨s.toArray⟩ w (by show s.length≤maxLen;unfold maxLen;omega)
  refine h.mono ?_;rintro e w' ⟨rfl,rfl⟩;exact ⟨rfl,rfl⟩
 ·have hl:(32:Int)<((⟨s.toArray⟩:ByteArray).size:Int):=by show (32:Int)<(s.length:Int);omega
  have hB:0<(⟨s.toArray⟩:ByteArray).size:=by show 0<s.length;omega
  have hC:=Jl hB;have hE:¬(⟨s.toArray⟩:ByteArray).toList=[]:=by intro e;rw [e] at hC;simp at hC
  have hA:BA s=false:=Ed (by omega);have HB:=qh hA;clear hA hD;unfold sv;generalize (⟨s.toArray⟩:ByteArray)=t at *;go_enter Tryz.func148,Tryz.ntmps148;go_wp2_with fail;go_ret;exact ⟨Az HB.out.symm,rfl⟩
def Env(w:World):Prop:=∃m,w.cell? ⟨1,0,none⟩=some (int i64 m)
theorem Env.below{w w':World}(h:Env w)(hb:Below w.heap.size w w'):Env w':=by
 obtain ⟨m,h⟩:=h;exact ⟨m,Ad hb h⟩
theorem BY(s:Nm)(w:World)(h:Env w):Calls Tryz.prog 149 #[.string ⟨words.toArray⟩,.string (ByteArray.append (ByteArray.append ⟨#[32]⟩ ⟨s.toArray⟩) ⟨#[32]⟩)] w λe w'=>e=.returned (.bool (Lib.contains words (32::(s++[32]))))∧w=w':=by
 obtain ⟨m,hm⟩:=h;refine (Tryz.strings_Contains _ _ m w (by show words.length<_;decide) hm).mono ?_;rintro e w' ⟨rfl,rfl⟩;refine ⟨Az ?_,rfl⟩
 congr 1
end
end Go.Proofs.YtbkemlgfdklpfaaGreatDoor

/- Contracts and plain laws on the way to the statement: part 18. -/
import Derived.Test.YtpnbpepkoekkoaaGreatZ7
import Derived.Test.YtpnbpepkoekkoaaGreatZ11
import Derived.Test.YtpnbpepkoekkoaaGreatZ6
import Derived.WalkSpells
import Derived.WalkLawsBesides
import Derived.Lib.Bytealg
import Derived.KernelRfl
import Derived.Test.YtpnbpepkoekkoaaGreatZ3
set_option linter.unusedVariables false
set_option linter.unusedSimpArgs false
set_option maxRecDepth 100000
set_option maxHeartbeats 16000000
namespace Go.Proofs.YtpnbpepkoekkoaaGreat
open Go.Value (int)
open Go.IntKind (i64)
section
open Go.RowKit
theorem GM{n:Nat}(h:(97≤n∧n≤122)∨(65≤n∧n≤90)):cls n=2:=by unfold cls;rw [if_pos h]
theorem J1{n:Nat}(h:48≤n∧n≤57):cls n=3:=by unfold cls;rw [if_neg (by omega),if_pos h]
theorem Kt{n:Nat}(h:n=95):cls n=5:=by unfold cls;rw [if_neg (by omega),if_neg (by omega),if_pos h]
theorem N2{n:Nat}(h:n=32∨n=9∨n=10∨n=13):cls n=1:=by
  unfold cls;rw [if_neg (by omega),if_neg (by omega),if_neg (by omega),if_pos h]
theorem OF{n:Nat}(h1:¬((97≤n∧n≤122)∨(65≤n∧n≤90)))(h2:¬(48≤n∧n≤57))(h3:¬n=95)(h4:¬(n=32∨n=9∨n=10∨n=13))
    (h:0≤Lib.indexByte [123,125,40,41,59,44,61,58,46,60,62,33,43,45,42,47] (UInt8.ofNat n)):cls n=4:=by
  unfold cls;rw [if_neg h1,if_neg h2,if_neg h3,if_neg h4,if_pos (by unfold FZ;exact h)]
theorem N1{n:Nat}(h1:¬((97≤n∧n≤122)∨(65≤n∧n≤90)))(h2:¬(48≤n∧n≤57))(h3:¬n=95)(h4:¬(n=32∨n=9∨n=10∨n=13))
    (h:Lib.indexByte [123,125,40,41,59,44,61,58,46,60,62,33,43,45,42,47] (UInt8.ofNat n)<0):cls n=0:=by
  unfold cls;rw [if_neg h1,if_neg h2,if_neg h3,if_neg h4,if_neg (by unfold FZ;omega)]
theorem E3(n:Nat)(w:World) :
    Calls Tryz.prog 103 #[.int .u8 n] w λe w'=>e=.returned (int i64 (cls n))∧w=w':=by
  go_enter Tryz.func103,Tryz.ntmps103
  go_wp2_with (go_at_call 115;refine (Tryz.strings_IndexByte _ _ _).mono ?_;rintro e w' ⟨rfl,rfl⟩)
  all_goals
    go_ret;refine ⟨DL ?_,rfl⟩
    try simp only [beq_iff_eq,beq_eq_false_iff_ne,ne_eq] at *
    first
      | exact (GM (by omega)).symm
      | exact (J1 (by omega)).symm
      | exact (Kt (by omega)).symm
      | exact (N2 (by omega)).symm
      | exact (OF (by omega) (by omega) (by omega) (by omega) (by assumption)).symm
      | exact (N1 (by omega) (by omega) (by omega) (by omega) (by assumption)).symm
theorem Cc(s:ByteArray)(k:Nat)(h:k<s.size):s.data.toList[k]?=some s[k]:=by
  rw [qg (by simpa using h)];rfl
theorem Fj{l:List UInt8}(h:l=[]):Bf l=false:=by subst h;rfl
theorem De{l:List UInt8}(h:32<l.length):Bf l=false:=by
  unfold Bf;have:decide (l.length≤32)=false:=by simp;omega
  rw [this];simp
theorem Gh{l:List UInt8}{c:UInt8}(h:l[0]?=some c)(hc:cls c.toNat≠2):Bf l=false:=by
  cases l with
  | nil=>rfl
  | cons d r=>simp at h;subst h;unfold Bf GU cl;simp [hc]
theorem Gi{l:List UInt8}{k:Nat}{c:UInt8}(h:l[k]?=some c)(h2:cls c.toNat≠2)(h3:cls c.toNat≠3)(h5:cls c.toNat≠5):Bf l=false:=by
  have:l.all Eg=false:=by
    rw [List.all_eq_false];exact ⟨c,List.mem_of_getElem? h,by unfold Eg cl;simp [h2,h3,h5]⟩
  unfold Bf;rw [this];simp
theorem Gj{l:List UInt8}{c:UInt8}(h:l[0]?=some c)(hc:cls c.toNat=2)(hl:l.length≤32)(ha:l.all Eg=true):Bf l=true:=by
  cases l with
  | nil=>simp at h
  | cons d r=>simp at h;subst h;unfold Bf;rw [ha];unfold GU cl;simp at hl;simp [hc];omega
theorem F6{l:List UInt8}{k:Nat}{c:UInt8}(h:l[k]?=some c)(ha:(l.take k).all Eg=true)(hc:cls c.toNat=2∨cls c.toNat=3∨cls c.toNat=5):(l.take (k+1)).all Eg=true:=by
  rw [List.take_add_one,List.all_append,ha,h];unfold Eg cl;rcases hc with hc|hc|hc<;>simp [hc]
theorem JD{s:ByteArray}(h:0<s.size):s.toList.isEmpty=false:=by
  rw [ByteArray.toList_eq,List.isEmpty_eq_false_iff];intro e;have h2:s.data.toList.length=0:=by rw [e];rfl
  rw [show s.data.toList.length=s.size by simp] at h2;omega
theorem PO{x:Int}(h:((x != 2)=false∨(x != 3)=false)∨(x != 5)=false):x=2∨x=3∨x=5:=by
  simp only [bne_eq_false_iff_eq] at h;omega
theorem Is{s:ByteArray}(h:s.size=0):s.toList=[]:=by
  rw [ByteArray.toList_eq];exact List.length_eq_zero_iff.1 (by simpa using h)
theorem Nn(s:ByteArray)(w:World)(hs:s.size≤maxLen) :
    Calls Tryz.prog 88 #[.string s] w λe w'=>e=.returned (.bool (Bf s.data.toList))∧w=w':=by
  unfold maxLen at hs;have hC:s.data.toList.length=s.size:=by simp
  have HZ:=qh hC;clear hC;by_cases hA:0<s.size
  · have hD := JD hA
    have hF:¬s.toList=[]:=by intro e;rw [e] at hD;simp at hD
    by_cases hH:s.size≤32
    · by_cases hc : (cls s[0].toNat == 2) = true
      · have hE : (cls s[0].toNat != 2) = false := by simpa using hc
        have HC:=qh hc;clear hc;go_enter Tryz.func88,Tryz.ntmps88
        go_wp2_with (go_at_call 103;refine (E3 _ _).mono ?_;rintro e w' ⟨rfl,rfl⟩);go_loop [20] (λi=>∃k:Nat,k≤s.size∧i=int i64 k∧Hid ((s.data.toList.take k).all Eg=true)) (λi=>s.size-(intOf i).toNat)
        case atStart=>exact ⟨0,Nat.zero_le _,rfl,by simp [Hid]⟩
        case round =>
          obtain ⟨k,hk,rfl,hB⟩:=hrel;by_cases hG:k<s.size
          · have hb := qh (Cc s k hG)
            go_wp2_with (go_at_call 103;refine (E3 _ _).mono ?_;rintro e w' ⟨rfl,rfl⟩)
            all_goals first
              | (go_ret;exact ⟨AT (Gi hb.out (by assumption) (by assumption) (by simp_all)).symm,rfl⟩)
              | (go_round
                 case rel=>exact ⟨k+1,by omega,by go_num,F6 hb.out hB.out (by first|exact Or.inl (by assumption)|exact Or.inr (Or.inl (by assumption))|exact PO (by assumption))⟩
                 case measure=>simp [intOf];omega)
          · go_wp2
            go_ret;refine ⟨AT (Gj (Cc s 0 hA) (by have:=HC.out;simpa using this) (by rw [HZ.out];omega) ?_).symm,rfl⟩;have:=hB.out
            rwa [List.take_of_length_le (by rw [HZ.out];omega)] at this
      · have hE : (cls s[0].toNat != 2) = true := by simpa using hc
        go_enter Tryz.func88,Tryz.ntmps88
        go_wp2_with (go_at_call 103;refine (E3 _ _).mono ?_;rintro e w' ⟨rfl,rfl⟩);go_ret;exact ⟨AT (Gh (Cc s 0 hA) (by simpa using hE)).symm,rfl⟩
    · go_enter Tryz.func88, Tryz.ntmps88
      go_wp2_with (go_at_call 103;refine (E3 _ _).mono ?_;rintro e w' ⟨rfl,rfl⟩);go_ret;exact ⟨AT (De (by rw [HZ.out];omega)).symm,rfl⟩
  · have he := Is (s := s) (by omega)
    go_enter Tryz.func88,Tryz.ntmps88
    go_wp2_with (go_at_call 103;refine (E3 _ _).mono ?_;rintro e w' ⟨rfl,rfl⟩);go_ret;exact ⟨AT (Fj (by rw [← ByteArray.toList_eq];exact he)).symm,rfl⟩
end
section
open Go Go.RowKit
theorem OC(n:Nat):cls n=2↔(97≤n∧n≤122)∨(65≤n∧n≤90):=by
 constructor
 ·intro h;unfold cls at h
  split at h
  ·assumption
  split at h
  ·omega
  split at h
  ·omega
  split at h
  ·omega
  split at h<;>omega
 ·exact GM
theorem OD(n:Nat):cls n=3↔48≤n∧n≤57:=by
 constructor
 ·intro h;unfold cls at h
  split at h
  ·omega
  split at h
  ·assumption
  split at h
  ·omega
  split at h
  ·omega
  split at h<;>omega
 ·exact J1
theorem OE(n:Nat):cls n=5↔n=95:=by
 constructor
 ·intro h;unfold cls at h
  split at h
  ·omega
  split at h
  ·omega
  split at h
  ·assumption
  split at h
  ·omega
  split at h<;>omega
 ·exact Kt
theorem Cn(n:Nat)(w:World) :
  Calls Tryz.prog 111 #[.int .u8 n] w λe w'=>e=.returned (.bool (cls n==2))∧w=w':=by
 have H2:=qh (OC n);go_enter Tryz.func111,Tryz.ntmps111;go_wp2_with fail
 all_goals
  go_ret;refine ⟨AT ?_,rfl⟩;rw [Bool.eq_iff_iff,beq_iff_eq,H2.out];simp;omega
theorem IL(n:Nat)(w:World) :
  Calls Tryz.prog 120 #[.int .u8 n] w λe w'=>e=.returned (.bool (cls n==3))∧w=w':=by
 have H2:=qh (OD n);go_enter Tryz.func120,Tryz.ntmps120;go_wp2_with fail
 all_goals
  go_ret;refine ⟨AT ?_,rfl⟩;rw [Bool.eq_iff_iff,beq_iff_eq,H2.out];simp;omega
theorem Gl(n:Nat)(w:World) :
  Calls Tryz.prog 112 #[.int .u8 n] w λe w'=>e=.returned (.bool (cls n==2||cls n==3||cls n==5))∧w=w':=by
 have H2:=qh (OE n);go_enter Tryz.func112,Tryz.ntmps112
 go_wp2_with (first|(go_at_call 111;refine (Cn _ _).mono ?_;rintro e w' ⟨rfl,rfl⟩)|(go_at_call 120;refine (IL _ _).mono ?_;rintro e w' ⟨rfl,rfl⟩))
 all_goals
  go_ret;refine ⟨AT ?_,rfl⟩;have h5:=H2.out;rw [Bool.eq_iff_iff];simp at *;omega
theorem NF(s:ByteArray)(w:World)(hs:s.size≤maxLen) :
  Calls Tryz.prog 99 #[.string s] w λe w'=>e=.returned (.bool (Bf s.data.toList))∧w=w':=by
 unfold maxLen at hs;have hC:s.data.toList.length=s.size:=by simp
 have HZ:=qh hC;clear hC;by_cases hA:0<s.size
 ·by_cases hG:s.size≤32
  ·by_cases hc:(cls s[0].toNat==2)=true
   ·have HC:=qh hc
    go_enter Tryz.func99,Tryz.ntmps99
    go_wp2_with (go_at_call 111;refine (Cn _ _).mono ?_;rintro e w' ⟨rfl,rfl⟩);go_loop [3] (λi=>∃k:Nat,k≤s.size∧i=int i64 k∧Hid ((s.data.toList.take k).all Eg=true)) (λi=>s.size-(intOf i).toNat)
    case atStart=>exact ⟨0,Nat.zero_le _,rfl,by simp [Hid]⟩
    case round =>
     obtain ⟨k,hk,rfl,hB⟩:=hrel;by_cases hD:k<s.size
     ·have hb:=qh (Cc s k hD)
      by_cases hp:(cls s[k].toNat==2||cls s[k].toNat==3||cls s[k].toNat==5)=true
      ·have HP:=qh hp
       go_wp2_with (go_at_call 112;refine (Gl _ _).mono ?_;rintro e w' ⟨rfl,rfl⟩);go_round
       case rel=>exact ⟨k+1,by omega,by go_num,qh (F6 hb.out hB.out (by have:=HP.out;simpa [or_assoc] using this))⟩
       case measure=>simp [intOf];omega
      ·have hE:(cls s[k].toNat==2||cls s[k].toNat==3||cls s[k].toNat==5)=false:=by simpa using hp
       have HP:=qh hE;clear hp
       go_wp2_with (go_at_call 112;refine (Gl _ _).mono ?_;rintro e w' ⟨rfl,rfl⟩);go_ret;have hq:=HP.out;simp at hq;exact ⟨AT (Gi hb.out hq.1.1 hq.1.2 hq.2).symm,rfl⟩
     ·go_wp2
      go_ret;refine ⟨AT (Gj (Cc s 0 hA) (by have:=HC.out;simpa using this) (by rw [HZ.out];omega) ?_).symm,rfl⟩;have:=hB.out
      rwa [List.take_of_length_le (by rw [HZ.out];omega)] at this
   ·have hF:(cls s[0].toNat==2)=false:=by simpa using hc
    have HC:=qh hF;clear hc;go_enter Tryz.func99,Tryz.ntmps99
    go_wp2_with (go_at_call 111;refine (Cn _ _).mono ?_;rintro e w' ⟨rfl,rfl⟩);go_ret;exact ⟨AT (Gh (Cc s 0 hA) (by simpa using HC.out)).symm,rfl⟩
  ·go_enter Tryz.func99,Tryz.ntmps99
   go_wp2_with (go_at_call 111;refine (Cn _ _).mono ?_;rintro e w' ⟨rfl,rfl⟩);go_ret;exact ⟨AT (De (by rw [HZ.out];omega)).symm,rfl⟩
 ·have he:=Is (s:=s) (by omega)
  go_enter Tryz.func99,Tryz.ntmps99
  go_wp2_with (go_at_call 111;refine (Cn _ _).mono ?_;rintro e w' ⟨rfl,rfl⟩);go_ret;exact ⟨AT (Fj (by rw [← ByteArray.toList_eq];exact he)).symm,rfl⟩
def Sp(xs:List Nm)(s:Nm)(w:World)(e:Ending)(w':World):Prop:=(∃k:Int,e=.returned (int i64 k)∧(0≤k↔s∈xs))∧w'=w
theorem F0{xs:List Nm}{i:Nat}{x s:Nm}(hx:xs[i]?=some x)(h:s∉xs.take i)(hA:(x==s)=false):s∉xs.take (i+1):=by
 rw [List.take_add_one,hx];intro hm;rcases List.mem_append.1 hm with hm|hm
 ·exact h hm
 ·have e:s=x:=by simpa using hm
  rw [e] at hA;simp at hA
theorem Vq(xs:List Nm)(g n c:Nat)(s:Nm)(w:World)(hA:∀j nm,xs[j]?=some nm→w.cell? ⟨g,j,none⟩=some (sv nm))(hn:xs.length=n)(hm:n≤maxLen):Calls Tryz.prog 101 #[.slice (some ⟨g,0,none⟩) n c,sv s] w (Sp xs s w):=by
 unfold maxLen at hm;have HR:=qh hA;have HN:=qh hn;clear hA hn;go_enter Tryz.func101,Tryz.ntmps101;go_wp2_with fail;go_loopw [4,5] (λrv iv wr=>∃i:Nat,iv=int i64 i∧rv=int i64 0∧i≤n∧Hid (s∉xs.take i)∧wr=w) (λ_ iv _=>n+1-(intOf iv).toNat)
 case atStart=>exact ⟨0,rfl,rfl,Nat.zero_le _,qh (by simp),rfl⟩
 case round =>
  obtain ⟨i,rfl,rfl,hC,hs,rfl⟩:=hrel;by_cases hB:i<n
  ·have hD:(i:Int)<(n:Int):=by omega
   obtain ⟨x,hx⟩:∃x,xs[i]?=some x:=⟨_,qg (by rw [HN.out];exact hB)⟩;have q0:=HR.out i x hx;have HX:=qh hx;clear hx;obtain ⟨b,hb⟩:∃b,(x==s)=b:=⟨_,rfl⟩
   cases b with
   | true =>
    have HB:=qh hb;go_wp2_with fail;go_ret;refine ⟨⟨_,rfl,⟨λ_=>?_,λ_=>by omega⟩⟩,rfl⟩;have e:x=s:=by simpa using HB.out
    rw [← e];exact List.mem_of_getElem? HX.out
   | false =>
    have HB:=qh hb;go_wp2_with fail;go_roundw
    case rel=>exact ⟨i+1,by go_num,rfl,by omega,qh (F0 HX.out hs.out HB.out),trivial⟩
    case measure=>simp [intOf];omega
  ·obtain rfl:i=n:=by omega
   have hz:¬(i:Int)<(i:Int):=by omega
   have h2:=hs.out;rw [← HN.out,List.take_length] at h2;have HS:=qh h2;clear h2 hs;go_wp2_with fail;go_ret;exact ⟨⟨_,rfl,⟨λh=>by omega,λh=>absurd h HS.out⟩⟩,rfl⟩
theorem R6(xs:List Nm)(g n c:Nat)(s:Nm)(w:World)(hA:∀j nm,xs[j]?=some nm→w.cell? ⟨g,j,none⟩=some (sv nm))(hn:xs.length=n)(hm:n≤maxLen):Calls Tryz.prog 113 #[.slice (some ⟨g,0,none⟩) n c,sv s] w (Sp xs s w):=by
 unfold maxLen at hm;have HR:=qh hA;have HN:=qh hn;clear hA hn;go_enter Tryz.func113,Tryz.ntmps113;go_wp2_with fail;go_loopw [4,5] (λrv iv wr=>∃i:Nat,iv=int i64 i∧rv=int i64 0∧i≤n∧Hid (s∉xs.take i)∧wr=w) (λ_ iv _=>n+1-(intOf iv).toNat)
 case atStart=>exact ⟨0,rfl,rfl,Nat.zero_le _,qh (by simp),rfl⟩
 case round =>
  obtain ⟨i,rfl,rfl,hC,hs,rfl⟩:=hrel;by_cases hB:i<n
  ·have hD:(i:Int)<(n:Int):=by omega
   obtain ⟨x,hx⟩:∃x,xs[i]?=some x:=⟨_,qg (by rw [HN.out];exact hB)⟩;have q0:=HR.out i x hx;have HX:=qh hx;clear hx;obtain ⟨b,hb⟩:∃b,(x==s)=b:=⟨_,rfl⟩
   cases b with
   | true =>
    have HB:=qh hb;go_wp2_with fail;go_ret;refine ⟨⟨_,rfl,⟨λ_=>?_,λ_=>by omega⟩⟩,rfl⟩;have e:x=s:=by simpa using HB.out
    rw [← e];exact List.mem_of_getElem? HX.out
   | false =>
    have HB:=qh hb;go_wp2_with fail;go_roundw
    case rel=>exact ⟨i+1,by go_num,rfl,by omega,qh (F0 HX.out hs.out HB.out),trivial⟩
    case measure=>simp [intOf];omega
  ·obtain rfl:i=n:=by omega
   have hz:¬(i:Int)<(i:Int):=by omega
   have h2:=hs.out;rw [← HN.out,List.take_length] at h2;have HS:=qh h2;clear h2 hs;go_wp2_with fail;go_ret;exact ⟨⟨_,rfl,⟨λh=>by omega,λh=>absurd h HS.out⟩⟩,rfl⟩
theorem LT(s:Nm)(w:World):Calls Tryz.prog 58 #[sv s] w λe w'=>e=.returned (sv s)∧w=w':=by
 go_enter Tryz.func58,Tryz.ntmps58;go_wp2;go_ret;exact ⟨rfl,rfl⟩
theorem LU(s:Nm)(x y f:Int)(w:World):Calls Tryz.prog 60 #[.agg #[sv s,int i64 x,int i64 y,int i64 f]] w λe w'=>e=.returned (sv s)∧Below w.heap.size w w':=by
 have HB:=qh ((Below.refl w.heap.size w).alloc (qn _) (.cells #[sv s,int i64 x,int i64 y,int i64 f] 60));go_enter Tryz.func60,Tryz.ntmps60;go_wp2;go_ret;exact ⟨rfl,HB.out⟩
theorem LV(s:Nm)(a:Option Addr)(n c:Nat)(w:World):Calls Tryz.prog 62 #[.agg #[sv s,.slice a n c]] w λe w'=>e=.returned (sv s)∧Below w.heap.size w w':=by
 have HB:=qh ((Below.refl w.heap.size w).alloc (qn _) (.cells #[sv s,.slice a n c] 51));go_enter Tryz.func62,Tryz.ntmps62;go_wp2;go_ret;exact ⟨rfl,HB.out⟩
theorem EY{l:Nm}(h:Bf l=true):l.length≤32:=by
 by_cases hl:l.length≤32
 ·exact hl
 ·rw [De (by omega)] at h;cases h
theorem CJ(s:Nm)(w:World):Calls Tryz.prog 88 #[sv s] w λe w'=>e=.returned (.bool (Bf s))∧w=w':=by
 by_cases hD:s.length≤32
 ·have h:=Nn ⟨s.toArray⟩ w (by show s.length≤maxLen;unfold maxLen;omega)
  refine h.mono ?_;rintro e w' ⟨rfl,rfl⟩;exact ⟨rfl,rfl⟩
 ·have hl:(32:Int)<((⟨s.toArray⟩:ByteArray).size:Int):=by show (32:Int)<(s.length:Int);omega
  have hB:0<(⟨s.toArray⟩:ByteArray).size:=by show 0<s.length;omega
  have hC:=JD hB;have hE:¬(⟨s.toArray⟩:ByteArray).toList=[]:=by intro e;rw [e] at hC;simp at hC
  have hA:Bf s=false:=De (by omega);have HB:=qh hA;clear hA hD;unfold sv;generalize (⟨s.toArray⟩:ByteArray)=t at *;go_enter Tryz.func88,Tryz.ntmps88;go_wp2_with fail;go_ret;exact ⟨AT HB.out.symm,rfl⟩
def Env(w:World):Prop:=∃m,w.cell? ⟨0,0,none⟩=some (int i64 m)
theorem Env.below{w w':World}(h:Env w)(hb:Below w.heap.size w w'):Env w':=by
 obtain ⟨m,h⟩:=h;exact ⟨m,Ac hb h⟩
theorem Cb(s:Nm)(w:World)(h:Env w):Calls Tryz.prog 89 #[.string ⟨words.toArray⟩,.string (ByteArray.append (ByteArray.append ⟨#[32]⟩ ⟨s.toArray⟩) ⟨#[32]⟩)] w λe w'=>e=.returned (.bool (Lib.contains words (32::(s++[32]))))∧w=w':=by
 obtain ⟨m,hm⟩:=h;refine (Tryz.strings_Contains _ _ m w (by show words.length<_;decide) hm).mono ?_;rintro e w' ⟨rfl,rfl⟩;refine ⟨AT ?_,rfl⟩
 congr 1
end
end Go.Proofs.YtpnbpepkoekkoaaGreat

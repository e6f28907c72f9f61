/- Contracts and plain laws on the way to the statement: part 16. -/
import Derived.Test.YtpnbpepkoekkoaaGreatZ13
import Derived.BigQuiet
import Derived.BigCall
import Derived.BigGuard
import Derived.Test.YtpnbpepkoekkoaaGreatZ3
set_option linter.unusedVariables false
set_option linter.unusedSimpArgs false
set_option maxRecDepth 100000
set_option maxHeartbeats 16000000
namespace Go.Proofs.YtpnbpepkoekkoaaGreat
open Go.Value (int)
open Go.IntKind (i64)
section
open Go Go.RowKit Go.Deep
theorem DH(b:Nat):∀(o:Nat) (ms:List Mov),(Aq b o ms).length=ms.length
 | _,[]=>rfl
 | o,m::r=>by simp [Aq,DH b (o+12) r]
theorem Lt.refsL_len:∀{T T':Lt} {b o b' o':Nat},T.strip=T'.strip→(T.refsL b o).length=(T'.refsL b' o').length:=by
 intro T T' b o b' o' h;have e1:=congrArg List.length (T.refsL_key b o);have e2:=congrArg List.length (T'.refsL_key b' o');rw [List.length_map] at e1 e2;rw [e1,e2,h]
theorem Lt.At.dn{w:World}{T:Lt}{b o:Nat}(h:T.At w b o)(q:Nat):T.At (w.drewN q) b o:=h.kept (λ_ _ _ h=>h) (λ_ _ _ _ h=>h)
theorem NsAt.dn{w:World}{xs:List RefL}{ks:List Int}(h:NsAt w xs ks)(q:Nat):NsAt (w.drewN q) xs ks:=h.kept λ_ _ _ h=>h
theorem NsAt.split3{w:World}{xs ys xs' ys':List RefL}{ks ks':List Int}(h:NsAt w (xs++ys) ks)(h':NsAt w (xs'++ys') ks')(hl:xs.length=xs'.length):∃a b a' b',NsAt w xs a∧NsAt w ys b∧NsAt w xs' a'∧NsAt w ys' b'∧(ks=ks'↔(a=a'∧b=b')):=by
 obtain ⟨a,b,rfl,ha,hb⟩:=h.split;obtain ⟨a',b',rfl,hA,hB⟩:=h'.split;have hC:a.length=a'.length:=by rw [ha.len,hA.len,hl]
 exact ⟨a,b,a',b',ha,hb,hA,hB,⟨λe=>List.append_inj e hC,λe=>by rw [e.1,e.2]⟩⟩
def SmP(dd:Bool)(w:World)(e:Ending)(w':World):Prop:=e=.returned (.bool dd)∧∃m,w'=w.drewN m
theorem Im(T T':Lt)(hI:∀U U':Lt,U.size<T.size→U.strip=U'.strip→∀(a:Option Addr) (c:Nat) (a':Option Addr) (c':Nat) (ks ks':List Int) (dd:Bool) (W:World),(dd=true↔ks=ks')→U.len≤maxLen→(U.len=0∨a=some ⟨blk a,off a,none⟩)→U.At W (blk a) (off a)→(U'.len=0∨a'=some ⟨blk a',off a',none⟩)→U'.At W (blk a') (off a')→NsAt W (U.refsL (blk a) (off a)) ks→NsAt W (U'.refsL (blk a') (off a')) ks'→Calls Tryz.prog 85 #[.slice a U.len c,.slice a' U'.len c'] W (SmP dd W))
  (hs:T.strip=T'.strip) (a:Option Addr) (c:Nat) (a':Option Addr) (c':Nat) (KS KS':List Int) (dd:Bool) (W:World) (hk:dd=true↔KS=KS') (hl:T.len≤maxLen) (hf:T.len=0∨a=some ⟨blk a,off a,none⟩) (hT:T.At W (blk a) (off a)) (hX:T'.len=0∨a'=some ⟨blk a',off a',none⟩) (hn:T'.At W (blk a') (off a')) (hN:NsAt W (T.refsL (blk a) (off a)) KS) (hB:NsAt W (T'.refsL (blk a') (off a')) KS'):Calls Tryz.prog 85 #[.slice a T.len c,.slice a' T'.len c'] W (SmP dd W):=by
 have ho:T'.len=T.len:=by rw [← T'.strip_len,← T.strip_len,hs]
 rw [ho] at hX ⊢;have HI:=qh hI;have HT:=qh hT;have hp:=qh hn;have HN:=qh hN;have hq:=qh hB;have HF:=qh hf;have ht:=qh hX;have HS:=qh hs;have HD:=qh hk;clear hI hT hn hN hB hf hX hs ho hk;unfold maxLen at hl;generalize hm:T.len=m at *;have HM:=qh hm;clear hm;go_enter Tryz.func85,Tryz.ntmps85;go_wp2_with fail;go_loopw [5] (λiv wr=>∃(i:Nat) (R R':Lt) (ks ks':List Int) (q:Nat),iv=int i64 i∧i+R.len=m∧wr=W.drewN q∧Hid (R.size≤T.size)∧Hid (R.strip=R'.strip)∧Hid (R.At W (blk a) (off a+i*6))∧Hid (R'.At W (blk a') (off a'+i*6))∧Hid (NsAt W (R.refsL (blk a) (off a+i*6)) ks)∧Hid (NsAt W (R'.refsL (blk a') (off a'+i*6)) ks')∧Hid (KS=KS'↔ks=ks')) (λiv _=>m+1-(intOf iv).toNat)
 case atStart=>exact ⟨0,T,T',KS,KS',0,rfl,by rw [HM.out];omega,rfl,qh (qn _),HS,by simpa [Hid] using HT.out,by simpa [Hid] using hp.out,by simpa [Hid] using HN.out,by simpa [Hid] using hq.out,qh Iff.rfl⟩
 case round =>
  obtain ⟨i,R,R',ks,ks',q,rfl,hY,rfl,hZ,hS,hR,hu,hN,hB,ha⟩:=hrel
  cases R with
  | nil =>
   simp only [Lt.len,Nat.add_zero] at hY;subst hY
   cases R' with
   | cons=>exact absurd hS.out (by simp [Lt.strip])
   | nil =>
   have e1:ks=[]:=by cases ks with
    | nil=>rfl
    | cons=>exact hN.out.elim
   have e2:ks'=[]:=by cases ks' with
    | nil=>rfl
    | cons=>exact hB.out.elim
   obtain rfl:dd=true:=HD.out.2 (ha.out.2 (by rw [e1,e2]));clear e1 e2;go_wp2_with fail;go_ret;exact ⟨rfl,q,rfl⟩
  | cons k n un ia ic its ma mc ms r =>
   cases R' with
   | nil=>exact absurd hS.out (by simp [Lt.strip])
   | cons k' n' un' ia' ic' its' ma' mc' ms' r' =>
   have hv:=hS.out;simp only [Lt.strip] at hv;injection hv with e1 e2 e3 e4 e5 e6;subst e1 e2 e3 e5;simp only [Lt.len] at hY;have hi:(i:Int)<(m:Int):=by omega
   have ea:=HF.out.resolve_left (by omega);have ea':=ht.out.resolve_left (by omega);obtain ⟨⟨c0,c1,c2,c4,c5⟩,⟨m1,m2,m3⟩,⟨i1,i2,i3⟩,hr⟩:=hR.out;obtain ⟨⟨d0,d1,d2,d4,d5⟩,⟨m1',m2',m3'⟩,⟨i1',i2',i3'⟩,hw⟩:=hu.out
   cases ks with
   | nil=>exact absurd hN.out (by simp [Lt.refsL,NsAt])
   | cons n0 ks =>
   cases ks' with
   | nil=>exact absurd hB.out (by simp [Lt.refsL,NsAt])
   | cons n0' ks' =>
   obtain ⟨c3,hx⟩:=hN.out;obtain ⟨d3,hE⟩:=hB.out;obtain ⟨k1,k2,k1',k2',hy,hz,hF,hG,h2⟩:=hx.split3 hE (by rw [DH,DH]);obtain ⟨k3,k4,k3',k4',h3,h4,hH,hJ,h5⟩:=hz.split3 hG (Lt.refsL_len e4);have hC:Hid (KS=KS'↔(n0=n0'∧(k1=k1'∧(k3=k3'∧k4=k4')))):=qh (ha.out.trans ((List.cons_eq_cons).trans (and_congr_right λ_=>h2.trans (and_congr_right λ_=>h5))));clear h2 h5;obtain ⟨dd3,hb⟩:∃d:Bool,(d=true↔k3=k3'):=⟨decide (k3=k3'),by simp⟩;have h6:its.size<T.size:=by have:=hZ.out;simp only [Lt.size] at this;omega
   have hK:r.size≤T.size:=by have:=hZ.out;simp only [Lt.size] at this;omega
   have C:∀q n:Nat,Calls Tryz.prog 85 #[.slice ia its.len ic,.slice ia' its'.len ic'] (W.drewN (q+n)) λe w'=>e=.returned (.bool dd3)∧∃m,w'=W.drewN (q+m):=λq n=>(HI.out its its' h6 e4 ia ic ia' ic' k3 k3' dd3 (W.drewN (q+n)) hb i2 i1 (i3.dn _) i1' (i3'.dn _) (h3.dn _) (hH.dn _)).mono λe w' h=>⟨h.1,by obtain ⟨m,hm⟩:=h.2;exact ⟨n+m,by rw [hm,World.drewN_drewN,Nat.add_assoc]⟩⟩
   have h7:its'.len=its.len:=by rw [← its'.strip_len,← its.strip_len,e4]
   rw [h7] at C d4;have HC:=qh C
   have hO:Hid (r.strip=r'.strip∧r.At W (blk a) (off a+(i+1)*6)∧r'.At W (blk a') (off a'+(i+1)*6)∧NsAt W (r.refsL (blk a) (off a+(i+1)*6)) k4∧NsAt W (r'.refsL (blk a') (off a'+(i+1)*6)) k4'):=qh (by
    rw [show off a+(i+1)*6=off a+i*6+6 by omega,show off a'+(i+1)*6=off a'+i*6+6 by omega]
    exact ⟨e6,hr,hw,h4,hJ⟩)
   have HG:=qh m1;have hc:=qh m1';have HH:=qh m3;have hd:=qh m3';have HJ:=qh hy;have he:=qh hF;have HK:=qh hK;have h8:=qh hb;unfold maxLen at m2;generalize h9:ms.length=nm at *;have hP:=qh h9;clear hN hB hx hE hz hG h3 hH h4 hJ hy hF h6 C hr hw i3 i3' i1 i1' i2 i2' m1 m1' m2' m3 m3' hS hR hu hZ e4 e6 h7 h9 hK hb ha;generalize HL:blk a=b1 at *;generalize HO:off a=o1 at *;generalize HP:blk a'=b2 at *;generalize HQ:off a'=o2 at *;subst ea ea';clear HL HP HO HQ HF ht HT hp HN hq;by_cases h0:n0=n0'
   case neg =>
    obtain rfl:dd=false:=by
     cases dd with
     | false=>rfl
     | true=>exact absurd (hC.out.1 (HD.out.1 rfl)).1 h0
    go_wp2_with fail;go_quiet (fail);go_wp2_with fail;go_ret;exact ⟨rfl,_,World.drewN_drewN _ _ _⟩
   subst h0;have hg:Hid (KS=KS'↔(k1=k1'∧(k3=k3'∧k4=k4'))):=qh (hC.out.trans ⟨λh=>h.2,λh=>⟨rfl,h⟩⟩);clear hC;go_wp2_with fail;go_quiet (fail);go_wp2_with fail;clear c0 c1 c2 c3 d0 d1 d2 d3;go_loopw [6] (λjv wr=>∃(j:Nat) (s:List Mov) (ls ls':List Int) (q:Nat),jv=int i64 j∧j+s.length=nm∧wr=W.drewN q∧Hid (B8 W (blk ma) (off ma+j*12) s)∧Hid (B8 W (blk ma') (off ma'+j*12) s)∧Hid (NsAt W (Aq (blk ma) (off ma+j*12) s) ls)∧Hid (NsAt W (Aq (blk ma') (off ma'+j*12) s) ls')∧Hid (KS=KS'↔(ls=ls'∧(k3=k3'∧k4=k4')))) (λjv _=>nm+1-(intOf jv).toNat)
   case atStart=>exact ⟨0,ms,k1,k1',_,rfl,by rw [hP.out];omega,World.drewN_drewN _ _ _,by simpa [Hid] using HH.out,by simpa [Hid] using hd.out,by simpa [Hid] using HJ.out,by simpa [Hid] using he.out,hg⟩
   case round =>
    obtain ⟨j,s,ls,ls',q2,rfl,hh,rfl,hM,HA,hL,hV,hA⟩:=hrel
    cases s with
    | nil =>
     simp only [List.length_nil,Nat.add_zero] at hh;subst hh
     have e1:ls=[]:=by cases ls with
      | nil=>rfl
      | cons=>exact hL.out.elim
     have e2:ls'=[]:=by cases ls' with
      | nil=>rfl
      | cons=>exact hV.out.elim
     rcases (by cases dd3<;>simp:dd3=false∨dd3=true) with rfl|rfl
     ·obtain rfl:dd=false:=by
       cases dd with
       | false=>rfl
       | true=>exact absurd (h8.out.2 (hA.out.1 (HD.out.1 rfl)).2.1) (by simp)
      clear e1 e2;go_wp2_with fail;go_quiet (first|(go_at_call 85;exact HC.out _ _));go_wp2_with fail;go_ret;exact ⟨rfl,_,World.drewN_drewN _ _ _⟩
     have hD:Hid (KS=KS'↔k4=k4'):=qh (hA.out.trans ⟨λh=>h.2.2,λh=>⟨by rw [e1,e2],h8.out.1 rfl,h⟩⟩);clear e1 e2;go_wp2_with fail;go_quiet (first|(go_at_call 85;exact HC.out _ _));go_wp2_with fail;go_roundw
     case rel=>exact ⟨i+1,r,r',k4,k4',_,by go_num,by omega,rfl,HK,qh hO.out.1,qh hO.out.2.1,qh hO.out.2.2.1,qh hO.out.2.2.2.1,qh hO.out.2.2.2.2,hD⟩
     case measure=>simp [intOf];omega
    | cons x s =>
     simp only [List.length_cons] at hh;have hj:(j:Int)<(nm:Int):=by omega
     have ema:=HG.out.resolve_left (λe=>by rw [e] at hP;have:=hP.out;simp at this;omega);have ema':=hc.out.resolve_left (λe=>by rw [e] at hP;have:=hP.out;simp at this;omega)
     cases ls with
     | nil=>exact absurd hL.out (by simp [Aq,NsAt])
     | cons n1 ls =>
     cases ls' with
     | nil=>exact absurd hV.out (by simp [Aq,NsAt])
     | cons n1' ls' =>
     obtain ⟨⟨f0,f1,f2,f3,f4,f5,f6,f8,f9,f10,f11⟩,HB⟩:=hM.out;obtain ⟨⟨g0,g1,g2,g3,g4,g5,g6,g8,g9,g10,g11⟩,hQ⟩:=HA.out;obtain ⟨f7,HE⟩:=hL.out;obtain ⟨g7,hU⟩:=hV.out
     have hW:Hid (B8 W (blk ma) (off ma+(j+1)*12) s∧B8 W (blk ma') (off ma'+(j+1)*12) s∧NsAt W (Aq (blk ma) (off ma+(j+1)*12) s) ls∧NsAt W (Aq (blk ma') (off ma'+(j+1)*12) s) ls'):=qh (by
      rw [show off ma+(j+1)*12=off ma+j*12+12 by omega,show off ma'+(j+1)*12=off ma'+j*12+12 by omega]
      exact ⟨HB,hQ,HE,hU⟩)
     clear hM HA hL hV HB hQ HE hU;generalize HR:blk ma=b3 at *;generalize HU:off ma=o3 at *;generalize HV:blk ma'=b4 at *;generalize HW:off ma'=o4 at *;subst ema ema';clear HR HV HU HW;by_cases h1:n1=n1'
     case neg =>
      obtain rfl:dd=false:=by
       cases dd with
       | false=>rfl
       | true=>exact absurd (List.cons_eq_cons.1 (hA.out.1 (HD.out.1 rfl)).1).1 h1
      go_wp2_with fail;go_quiet (fail);go_wp2_with fail;go_ret;exact ⟨rfl,_,World.drewN_drewN _ _ _⟩
     subst h1;have hD:Hid (KS=KS'↔(ls=ls'∧(k3=k3'∧k4=k4'))):=qh (hA.out.trans (and_congr_left λ_=>⟨λh=>(List.cons_eq_cons.1 h).2,λh=>by rw [h]⟩));clear hA;go_wp2_with fail;go_quiet (fail);go_wp2_with fail;go_roundw
     case rel=>exact ⟨j+1,s,ls,ls',_,by go_num,by omega,rfl,qh hW.out.1,qh hW.out.2.1,qh hW.out.2.2.1,qh hW.out.2.2.2,hD⟩
     case measure=>simp [intOf];omega
theorem In:∀(s:Nat) (T T':Lt),T.size≤s→T.strip=T'.strip→∀(a:Option Addr) (c:Nat) (a':Option Addr) (c':Nat) (ks ks':List Int) (dd:Bool) (W:World),(dd=true↔ks=ks')→T.len≤maxLen→(T.len=0∨a=some ⟨blk a,off a,none⟩)→T.At W (blk a) (off a)→(T'.len=0∨a'=some ⟨blk a',off a',none⟩)→T'.At W (blk a') (off a')→NsAt W (T.refsL (blk a) (off a)) ks→NsAt W (T'.refsL (blk a') (off a')) ks'→Calls Tryz.prog 85 #[.slice a T.len c,.slice a' T'.len c'] W (SmP dd W):=by
 intro s
 induction s with
 | zero=>intro T T' hs;exact Im T T' (λU U' hA=>absurd hA (by omega))
 | succ s ih=>intro T T' hs;exact Im T T' (λU U' hA=>ih U U' (by omega))
end
end Go.Proofs.YtpnbpepkoekkoaaGreat

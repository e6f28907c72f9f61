/- Contracts and plain laws on the way to the statement: part 23. -/
import Derived.Test.YtbkemlgfdklpfaaGreatDoorV22
import Derived.Test.YtbkemlgfdklpfaaGreatDoorV4
set_option linter.unusedVariables false
set_option linter.unusedSimpArgs false
set_option maxRecDepth 100000
set_option maxHeartbeats 16000000
namespace Go.Proofs.YtbkemlgfdklpfaaGreatDoor
open Go.Value (int)
open Go.IntKind (i64)
section
open Go Go.RowKit Go.Shelf
section
attribute [local go_sem] Oper.semAt_some Ek
theorem Pe(B0 l yB tB kB S:Nat)(J:List RefL→World→Prop)(Jx Jp:World→Prop)(Rd:World→Prop)(s:Ls)(hH:InH B0 l J Jx Jp s.refs (s.strip.kinds=true) Rd)(hC:∀W,Rd W→FldR kB S s W)
  (hO:s.phrases=[]∨s.fa=some ⟨blk s.fa,off s.fa,none⟩) (hX:s.phrases.length≤maxLen) (hA:s.dances=[]∨s.da=some ⟨blk s.da,off s.da,none⟩) (hD:s.dances.length≤maxLen) (W:World) (hY:yB=W.heap.size) (hZ:tB=W.heap.size+1) (ha:B0=W.heap.size) (W3:World)
  (hb:((W.alloc (.cells #[.func (.yield l) #[] #[]] 194)).alloc (.cells #[.nilFunc] 133)).setCell ⟨W.heap.size+1,0,none⟩ (.func (.func 131) #[] #[.pointer (some ⟨W.heap.size,0,none⟩),.pointer (some ⟨W.heap.size+1,0,none⟩)])=W3) (hW:InW B0 l yB tB W3) (hj:J [] W3) :
  Calls Tryz.prog 130 #[.func (.yield l) #[] #[],.pointer (some ⟨kB,0,none⟩)] W (U7 s.refs J Jx Jp (s.strip.kinds=true)):=by
 have hT:=λhc W4 hd he=>Pd B0 l yB tB kB S J Jx Jp s.refs (s.strip.kinds=true) hc Rd hH s hC hA hD (Ar s.phrases) rfl W4 hd he
 have hE:∀W,Rd W→W.cell? ⟨kB,0,none⟩=some (.pointer (some ⟨S,0,none⟩))∧W.cell? ⟨S,10,none⟩=some (.slice s.fa s.phrases.length s.fc)∧Bk W (blk s.fa) (off s.fa) s.phrases:=λW h=>⟨(hC W h).box,(hC W h).ph,(hC W h).phrases⟩
 subst hY hZ ha;obtain ⟨W1,x1,g1,b1,s1⟩:=DU W (.func (.yield l) #[] #[]) 194;obtain ⟨W2,x2,g2,b2,s2⟩:=DU W1 .nilFunc 133;rw [x1,x2] at hb;have k2:W2.cell? ⟨W1.heap.size,0,none⟩=some .nilFunc:=Aa g2 0 rfl;have f2:W2.frozen? ⟨W1.heap.size,0,none⟩=false:=by simp [World.frozen?,g2]
 rw [s1] at k2 f2;have HH:=qh hH;have hB:=qh hE;have HW:=qh hW;have HJ:=qh hj;have HF:=qh hO;have HT:=qh hT;clear hH hC hE hW hj hA hO hT g1 g2 b1 b2 s2 hD;unfold maxLen at hX;have mixed:Tryz.prog.follows .mixedOrders=true:=by kernel_rfl
 obtain ⟨ck,cs,_⟩:=hB.out _ (HH.out.rd _ _ HJ.out);generalize hn:s.phrases.length=n at *;have HN:=qh hn;clear hn;refine (callsIn_wide (n:=10)).1 ?_;refine callsIn_of_wp Tryz.func130 rfl trivial ?_ rfl;simp only [Tryz.ntmps130,List.size_toArray,List.length_cons,List.length_nil,Nat.reduceAdd,Nat.reduceSub,Array.replicate_succ,Array.replicate_zero,List.push_toArray,List.append_toArray,List.nil_append,List.cons_append];change Code.wpIn _ _ _ (Dl 4 LD part74n4) _ _ _
 conv=>arg 4;whnf
 gi_wp2_with fail
 conv=>arg 4;whnf
 gi_wp2_with fail
 conv=>arg 4;whnf
 gi_wp2_with fail
 conv=>arg 4;whnf
 gi_wp2_with fail
 conv=>arg 4;whnf
 gi_wp2_with fail;clear ck cs k2 f2;generalize W.heap.size+1=tB at *;generalize W.heap.size=B0 at *;gi_loopw [12] (λiv wr=>∃(i:Nat) (R:List Ph) (q:List RefL),iv=int i64 i∧i+R.length=n∧Hid (Ar s.phrases=q++Ar R)∧Hid (s.strip.kinds=(R.map Ph.strip).all λp=>p.items.kinds)∧Hid (∀W,Rd W→Bk W (blk s.fa) (off s.fa+i*2) R)∧Hid (J q wr)∧Hid (InW B0 l B0 tB wr)∧Hid (Beyond B0 W3 wr)) (λiv _=>n+1-(intOf iv).toNat)
 case atStart=>exact ⟨0,s.phrases,[],rfl,by rw [HN.out];omega,qh (by simp),qh rfl,qh (λW h=>by simpa using (hB.out W h).2.2),HJ,HW,qh (Beyond.refl _ _)⟩
 case round =>
  obtain ⟨i,R,q,rfl,hP,hq,hI,hR,hJ,hG,hf⟩:=hrel
  cases R with
  | nil =>
   simp only [List.length_nil] at hP;obtain rfl:i=n:=by omega
   have hK:=hq.out;simp only [Ar,List.append_nil] at hK;have hL:=hJ.out;rw [← hK] at hL;have hM:=hI.out;simp only [List.map_nil,List.all_nil] at hM;have hg:=qh (HT.out hM _ hG.out hL);clear hK hL hM;gi_wp2_with fail;exact hg.out _ _ _ _ _ _ _ _ _ _ _ _ _ _ _ _ _ _ _ _ _ _ _ _ _ _ _ _ _ _ _ _ _ _ _ _ _ _ _ _ _ _ _ _ _ _ _ _ _ _ _ _ _ _ _
  | cons p r =>
   simp only [List.length_cons] at hP;have hi:(i:Int)<(n:Int):=by omega
   have hh:s.fa=some ⟨blk s.fa,off s.fa,none⟩:=HF.out.resolve_left (λe=>by have:=HN.out;rw [e] at this;simp at this;omega);obtain ⟨ck,cs,_⟩:=hB.out _ (HH.out.rd _ _ hJ.out);obtain ⟨⟨q0,q1,qf,ql,qA⟩,hr⟩:=hR.out _ (HH.out.rd _ _ hJ.out);unfold Ph.val at q1;have ct:=cell_of_one hG.out.bt
   have hQ:s.refs=q++(p.its.refsL (blk p.ia) (off p.ia)++(Ar r++Ao (blk s.da) (off s.da) s.dances)):=by
    unfold Ls.refs;rw [hq.out];simp [Ar,Ph.refsL]
   have hS:Calls Tryz.prog 131 #[.slice p.ia p.its.len p.ic,.pointer (some ⟨B0,0,none⟩),.pointer (some ⟨tB,0,none⟩)] wr.drew (λe W'=>(∃t,e=.returned (.bool t)∧Hid (InP B0 J Jx Jp q p.refsL p.its.strip.kinds wr (.returned (.bool t)) W'))∨(e=.panicked (Aw 170)∧Jp W')):=by
    refine (Th B0 l B0 tB J Jx Jp s.refs (s.strip.kinds=true) Rd HH.out _ p.its (qn _) p.ia p.ic q _ wr.drew qf ql hQ (λW h=>(hR.out W h).1.2.2.2.2) (λhk=>by
     rw [hI.out];simp [Ph.strip,hk]) (hG.out.keep (Beyond.of_below (Below.refl _ _).drew)) (HH.out.kept _ _ _ hJ.out (Below.refl _ _).drew)).mono ?_
    intro e W' h;rcases h with ⟨rfl,h1,h2,h3⟩|⟨rfl,h1⟩|⟨rfl,h1⟩
    ·exact Or.inl ⟨true,rfl,qh (Or.inl ⟨rfl,h1,h2,h3⟩)⟩
    ·exact Or.inl ⟨false,rfl,qh (Or.inr (Or.inl ⟨rfl,h1⟩))⟩
    ·exact Or.inr ⟨rfl,h1⟩
   have hU:=qh hS;generalize ht:blk s.fa=fb at *;generalize hu:off s.fa=fo at *;generalize hv:s.fa=fv at *;subst hh;clear hS hr q0 qA qf ql hQ;gi_wp2_with fail;gi_region_with_o (refine ⟨trivial,?_⟩;refine (callsIn_wide.2 hU.out).mono ?_;rintro e W4 (⟨t4,rfl,h4⟩|⟨rfl,hp⟩);rotate_left;(exact ⟨rfl,Or.inr ⟨rfl,hp⟩⟩))
   all_goals clear ck cs q1 ct hU
   all_goals cases t4 with
   | false =>
    have hx:Jx W4:=by
     rcases h4.out with ⟨q1,_⟩|⟨_,q2⟩|⟨q1,_⟩
     ·cases q1
     ·exact q2
     ·cases q1
    have HX:=qh hx;clear hx h4;gi_wp2_with fail
    first|go_end0|refine bodyPost_ret (results_none rfl _ _ _) rfl ?_
    exact Or.inl ⟨_,rfl,Or.inr HX.out⟩
   | true =>
    obtain ⟨hF,hV,hN⟩:p.its.strip.kinds=true∧J (q++p.refsL) W4∧Beyond B0 wr W4:=by
     rcases h4.out with ⟨_,q1⟩|⟨q1,_⟩|⟨q1,_⟩
     ·exact q1
     ·cases q1
     ·cases q1
    have hl:=qh hF;have hm:=qh hV;have ho:=qh (hf.out.trans hN);have hs:=qh (hG.out.keep hN);clear hF hV hN h4;gi_wp2_with fail;go_roundw
    case rel=>exact ⟨i+1,r,q++p.refsL,by go_num,by omega,qh (by rw [hq.out];simp [Ar]),qh (by rw [hI.out];simp [Ph.strip,hl.out]),qh (λW hW=>by
      have:=(hR.out W hW).2
      rw [Nat.add_mul,Nat.one_mul,← Nat.add_assoc];exact this),hm,hs,ho⟩
    case measure=>simp [intOf];omega
end
theorem EQ(kB S:Nat)(s:Ls)(Rd:World→Prop)(hD:∀W,Rd W→FldR kB S s W)(hE:s.phrases=[]∨s.fa=some ⟨blk s.fa,off s.fa,none⟩)(hF:s.phrases.length≤maxLen)(hA:s.dances=[]∨s.da=some ⟨blk s.da,off s.da,none⟩)(hB:s.dances.length≤maxLen)(w:World) :
  OC Tryz.prog 130 #[.pointer (some ⟨kB,0,none⟩)] IB s.refs (s.strip.kinds=true) (Aw 170) Rd w:=by
 intro l R J Jx Jp W hb hI hK hJ hG hY hC h0;obtain ⟨W1,x1,g1,b1,s1⟩:=DU W (.func (.yield l) #[] #[]) 194;obtain ⟨W2,x2,g2,b2,s2⟩:=DU W1 .nilFunc 133;obtain ⟨W3,x3,g3,o3,b3,s3⟩:=Bp g2 (.func (.func 131) #[] #[.pointer (some ⟨W.heap.size,0,none⟩),.pointer (some ⟨W1.heap.size,0,none⟩)]);have hH:Below W.heap.size W W3:=b3 _ _ (b1.trans (b2.mono (by omega))) (by omega);rw [s1] at x3 g3;refine Pe W.heap.size l W.heap.size (W.heap.size+1) kB S J Jx Jp Rd s ⟨hJ,hG,hY,hC⟩ hD hE hF hA hB W rfl rfl rfl W3 (by rw [x1,x2];exact x3) ⟨(o3 _ (by omega)).trans ((b2.block _ (by omega)).trans g1),g3,by omega,by omega⟩ (hJ _ _ _ h0 hH)
theorem EP(p:Addr)(w:World):Calls Tryz.prog 90 #[.pointer (some p)] w λe w'=>e=.returned (.func (.func 130) #[] #[.pointer (some ⟨w.heap.size,0,none⟩)])∧w'.heap[w.heap.size]?=some (.cells #[.pointer (some p)] 154 (0,0))∧Below w.heap.size w w'∧w'.heap.size=w.heap.size+1:=by
 obtain ⟨W1,x1,g1,b1,s1⟩:=DU w (.pointer (some p)) 154;have G1:=qh g1;have HB:=qh b1;have S1:=qh s1;clear g1 b1 s1;go_enter Tryz.func90,Tryz.ntmps90;go_wp2_with fail;go_ret;exact ⟨rfl,G1.out,HB.out,S1.out⟩
end
end Go.Proofs.YtbkemlgfdklpfaaGreatDoor

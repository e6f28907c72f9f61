/- Contracts and plain laws on the way to the statement: part 22. -/
import Derived.Test.YtbkemlgfdklpfaaDoorZ21
import Derived.Test.YtbkemlgfdklpfaaDoorZ4
set_option linter.unusedVariables false
set_option linter.unusedSimpArgs false
set_option maxRecDepth 100000
set_option maxHeartbeats 16000000
namespace Go.Proofs.YtbkemlgfdklpfaaDoor
open Go.Value (int)
open Go.IntKind (i64)
section
open Go Go.RowKit Go.Shelf
structure FldR(kB S:Nat)(s:Ls)(W:World):Prop where
 box:W.cell? ⟨kB,0,none⟩=some (.pointer (some ⟨S,0,none⟩))
 ph:W.cell? ⟨S,10,none⟩=some (.slice s.fa s.phrases.length s.fc)
 da:W.cell? ⟨S,11,none⟩=some (.slice s.da s.dances.length s.dc)
 phrases:Bu W (blk s.fa) (off s.fa) s.phrases
def Ul(L:List RefL)(J:List RefL→World→Prop)(Jx Jp:World→Prop)(ok:Prop)(e:Ending)(W':World):Prop :=
 (∃v,e=.returned v∧((ok∧J L W')∨Jx W'))∨(e=.panicked (AD 170)∧Jp W')
noncomputable def LV:Code:=(Tryd.f83.body).getD .skip
noncomputable def part74n4:Code:=Ab 4 LV
section
attribute [local go_sem] Oper.semAt_some
theorem Pu(B0 l yB tB kB S:Nat)(J:List RefL→World→Prop)(Jx Jp:World→Prop)(A:List RefL)(ok:Prop)(he:ok)(Rd:World→Prop)(hH:InH B0 l J Jx Jp A ok Rd)(s:Ls)(hX:∀W,Rd W→FldR kB S s W)
  (hR:s.dances=[]∨s.da=some ⟨blk s.da,off s.da,none⟩) (hZ:s.dances.length≤maxLen) (pre0:List RefL) (hA:A=pre0++An (blk s.da) (off s.da) s.dances) (W:World) (hW:InW B0 l yB tB W) (hj:J pre0 W)
  (e0 e4 e5 e6 e7 e8 e9 ea eb ec ed ee ef eg eh ei ej ek el em en eo ep eq er es et eu ev ew ex ey ez eA eB eC eD eE eF eG eH eI eJ eK eL eM eN eO eP eQ eR eS eT eU eV:Value) :
  part74n4.wpIn Fence.wide 10 Tryd.prog (bodyPost Tryd.prog Tryd.f83 (Ul A J Jx Jp ok)) { tmps:=#[e0,.pointer (some ⟨kB,0,none⟩),.pointer (some ⟨yB,0,none⟩),.pointer (some ⟨tB,0,none⟩),e4,e5,e6,e7,e8,e9,ea,eb,ec,ed,ee,ef,eg,eh,ei,ej,ek,el,em,en,eo,ep,eq,er,es,et,eu,ev,ew,ex,ey,ez,eA,eB,eC,eD,eE,eF,eG,eH,eI,eJ,eK,eL,eM,eN,eO,eP,eQ,eR,eS,eT,eU,eV],defers:=[] } W:=by
 have hU:∀W,Rd W→W.cell? ⟨kB,0,none⟩=some (.pointer (some ⟨S,0,none⟩))∧W.cell? ⟨S,10,none⟩=some (.slice s.fa s.phrases.length s.fc)∧W.cell? ⟨S,11,none⟩=some (.slice s.da s.dances.length s.dc)∧True:=λW h=>⟨(hX W h).box,(hX W h).ph,(hX W h).da,trivial⟩
 have HH:=qh hH;have hM:=qh hU;have HW:=qh hW;have HJ:=qh hj;have HA:=qh hA;have hk:=qh he;have HF:=qh hR;clear hH hX hU hW hj hA he hR;unfold maxLen at hZ;have mixed:Tryd.prog.follows .mixedOrders=true:=by kernel_rfl
 obtain ⟨ck,_,cs,_⟩:=hM.out _ (HH.out.rd _ _ HJ.out);generalize hn:s.dances.length=n at *;have HN:=qh hn;clear hn;unfold part74n4 LV
 conv=>arg 4;whnf
 gi_wp2_with fail;clear ck cs;gi_loopw [32] (λiv wr=>∃(i:Nat) (R:List Dan) (q:List RefL),iv=int i64 i∧i+R.length=n∧Hid (An (blk s.da) (off s.da) s.dances=q++An (blk s.da) (off s.da+i*6) R)∧Hid (J (pre0++q) wr)∧Hid (InW B0 l yB tB wr)∧Hid (Beyond B0 W wr)) (λiv _=>n+1-(intOf iv).toNat)
 case atStart=>exact ⟨0,s.dances,[],rfl,by rw [HN.out];omega,qh (by simp),qh (by simpa using HJ.out),HW,qh (Beyond.refl _ _)⟩
 case round =>
  obtain ⟨i,R,q,rfl,hf,hq,hJ,hY,ha⟩:=hrel
  cases R with
  | nil =>
   simp only [List.length_nil] at hf;obtain rfl:i=n:=by omega
   gi_wp2_with fail;go_end0;refine Or.inl ⟨_,rfl,Or.inl ⟨hk.out,?_⟩⟩;have:=hq.out;simp only [An,List.append_nil] at this;rw [HA.out,this];exact hJ.out
  | cons d r =>
   simp only [List.length_cons] at hf;have hi:(i:Int)<(n:Int):=by omega
   have hl:s.da=some ⟨blk s.da,off s.da,none⟩:=HF.out.resolve_left (λe=>by have:=HN.out;rw [e] at this;simp at this;omega)
   have hb:A=(pre0++q)++((⟨blk s.da,off s.da+i*6,1,d.rn⟩:RefL)::((⟨blk s.da,off s.da+i*6+2,2,d.pn⟩:RefL)::An (blk s.da) (off s.da+i*6+6) r)):=by
    rw [HA.out,hq.out];simp [An]
   generalize hm:blk s.da=db at *;generalize ho:off s.da=do0 at *;generalize hr:s.da=dv at *;subst hl;have hc:=qh (show A=(pre0++q++[(⟨db,do0+i*6,1,d.rn⟩:RefL)])++((⟨db,do0+i*6+2,2,d.pn⟩:RefL)::An db (do0+i*6+6) r) by rw [hb];simp);obtain ⟨ck,_,cs,_⟩:=hM.out wr.drew (HH.out.rd _ _ (HH.out.kept _ _ _ hJ.out (Below.refl wr.heap.size wr).drew));have cy:wr.drew.cell? ⟨yB,0,none⟩=some (.func (.yield l) #[] #[]):=cell_of_one (hY.out.keep (Beyond.of_below (Below.refl _ _).drew)).by_;obtain ⟨fn1,tm1,as1,bo1,hV,hg⟩:=HH.out.one hb hJ.out ((Below.refl wr.heap.size wr).drew) 9;unfold GA at hV;rw [show ((1:Nat):Int)=1 from rfl] at hV;have hT:=qh hg;clear hg hb;gi_wp2_with fail;refine wpIn_region_any mixed ?_;change wpAnyIn _ _ _ _ _ _ _ _ _ wr.drew;have hd:=qh (show Beyond B0 wr wr.drew from Beyond.of_below (Below.refl _ _).drew);generalize wr.drew=V at *;refine wpAnyIn_take (i:=5) (oi:=_) (v:=int i64 (i:Int)) rfl rfl (by kernel_rfl) (by kernel_rfl) (by kernel_rfl) (λ_ _ _ h=>h) ⟨Or.inl ⟨by rfl,λw=>by go_simp⟩,λw=>by first|rfl|go_simp⟩ ?_
   try (simp only [Act.put,qA,qB,qC,qD,qE,qF])
   refine wpAnyIn_ready (rs:=[0,1]) (by kernel_rfl) (by simp) ?_;refine AllReadyIn.cons (o:=_) rfl (λK1 hK=>?_) (AllReadyIn.cons (o:=_) rfl (λK2 hK=>?_) AllReadyIn.nil)
   ·skip
    go_simp;refine hK _ _ ?_;clear hK
    try (simp only [Act.put,qA,qB,qC,qD,qE,qF])
    refine wpAnyIn_ready (rs:=[1]) (by kernel_rfl) (by simp) ?_;refine AllReadyIn.cons (o:=_) rfl (λK1 hK=>?_) AllReadyIn.nil;go_simp;refine hK _ _ ?_;clear hK
    try (simp only [Act.put,qA,qB,qC,qD,qE,qF])
    refine wpAnyIn_take (i:=2) (oi:=_) (v:=(.pointer (some ⟨S,0,none⟩))) rfl rfl (by kernel_rfl) (by kernel_rfl) (by kernel_rfl) (λ_ _ _ h=>h) ⟨Or.inl ⟨by rfl,λw=>by go_simp⟩,λw=>by first|rfl|go_simp⟩ ?_
    try (simp only [Act.put,qA,qB,qC,qD,qE,qF])
    refine wpAnyIn_take (i:=3) (oi:=_) (v:=(.pointer (some ⟨S,11,none⟩))) rfl rfl (by kernel_rfl) (by kernel_rfl) (by kernel_rfl) (λ_ _ _ h=>h) ⟨Or.inl ⟨by rfl,λw=>by go_simp⟩,λw=>by first|rfl|go_simp⟩ ?_
    try (simp only [Act.put,qA,qB,qC,qD,qE,qF])
    refine wpAnyIn_ready (rs:=[4]) (by kernel_rfl) (by simp) ?_;refine AllReadyIn.cons (o:=_) rfl (λK1 hK=>?_) AllReadyIn.nil;go_simp;refine hK _ _ ?_;clear hK
    try (simp only [Act.put,qA,qB,qC,qD,qE,qF])
    refine wpAnyIn_take (i:=6) (oi:=_) (v:=(.pointer (some ⟨db,do0+i*6,none⟩))) rfl rfl (by kernel_rfl) (by kernel_rfl) (by kernel_rfl) (λ_ _ _ h=>h) ⟨Or.inl ⟨by rfl,λw=>by go_simp⟩,λw=>by first|rfl|go_simp⟩ ?_
    try (simp only [Act.put,qA,qB,qC,qD,qE,qF])
    refine wpAnyIn_take (i:=7) (oi:=_) (v:=(.pointer (some ⟨db,do0+i*6,none⟩))) rfl rfl (by kernel_rfl) (by kernel_rfl) (by kernel_rfl) (λ_ _ _ h=>h) ⟨Or.inl ⟨by rfl,λw=>by go_simp⟩,λw=>by first|rfl|go_simp⟩ ?_
    try (simp only [Act.put,qA,qB,qC,qD,qE,qF])
    refine wpAnyIn_ready (rs:=[8]) (by kernel_rfl) (by simp) ?_;refine AllReadyIn.cons (o:=_) rfl (λK1 hK=>?_) AllReadyIn.nil;go_simp;refine RoundIn.mono (RoundIn.anyDepth rfl hT.out) ?_;rintro e W2 (⟨t1,rfl,h1⟩|⟨rfl,hp⟩)
    rotate_left
    ·exact ⟨rfl,Or.inr ⟨rfl,hp⟩⟩
    refine hK _ _ ?_;clear hK hV hT cy ck cs
    try (simp only [Act.put,qA,qB,qC,qD,qE,qF])
    cases t1 with
    | false =>
     refine wpAnyIn_take (i:=9) (oi:=_) (v:=.bool true) rfl rfl (by kernel_rfl) (by kernel_rfl) (by kernel_rfl) (λ_ _ _ h=>h) ⟨Or.inl ⟨by rfl,λw=>by go_simp⟩,λw=>by first|rfl|go_simp⟩ ?_
     try (simp only [Act.put,qA,qB,qC,qD,qE,qF])
     refine wpAnyIn_take (i:=10) (oi:=_) (v:=.bool true) rfl rfl (by kernel_rfl) (by kernel_rfl) (by kernel_rfl) (λ_ _ _ h=>h) ⟨Or.inl ⟨by rfl,λw=>by go_simp⟩,λw=>by first|rfl|go_simp⟩ ?_
     try (simp only [Act.put,qA,qB,qC,qD,qE,qF])
     refine wpAnyIn_take (i:=11) (oi:=_) (v:=undef) rfl rfl (by kernel_rfl) (by kernel_rfl) (by kernel_rfl) (λ_ _ _ h=>h) ⟨Or.inr ⟨by rfl,rfl⟩,λw=>by first|rfl|go_simp⟩ ?_
     try (simp only [Act.put,qA,qB,qC,qD,qE,qF])
     refine wpAnyIn_take (i:=12) (oi:=_) (v:=undef) rfl rfl (by kernel_rfl) (by kernel_rfl) (by kernel_rfl) (λ_ _ _ h=>h) ⟨Or.inr ⟨by rfl,rfl⟩,λw=>by first|rfl|go_simp⟩ ?_
     try (simp only [Act.put,qA,qB,qC,qD,qE,qF])
     refine wpAnyIn_take (i:=13) (oi:=_) (v:=undef) rfl rfl (by kernel_rfl) (by kernel_rfl) (by kernel_rfl) (λ_ _ _ h=>h) ⟨Or.inr ⟨by rfl,rfl⟩,λw=>by first|rfl|go_simp⟩ ?_
     try (simp only [Act.put,qA,qB,qC,qD,qE,qF])
     refine wpAnyIn_take (i:=14) (oi:=_) (v:=undef) rfl rfl (by kernel_rfl) (by kernel_rfl) (by kernel_rfl) (λ_ _ _ h=>h) ⟨Or.inr ⟨by rfl,rfl⟩,λw=>by first|rfl|go_simp⟩ ?_
     try (simp only [Act.put,qA,qB,qC,qD,qE,qF])
     refine wpAnyIn_take (i:=15) (oi:=_) (v:=undef) rfl rfl (by kernel_rfl) (by kernel_rfl) (by kernel_rfl) (λ_ _ _ h=>h) ⟨Or.inr ⟨by rfl,rfl⟩,λw=>by first|rfl|go_simp⟩ ?_
     try (simp only [Act.put,qA,qB,qC,qD,qE,qF])
     refine wpAnyIn_take (i:=16) (oi:=_) (v:=undef) rfl rfl (by kernel_rfl) (by kernel_rfl) (by kernel_rfl) (λ_ _ _ h=>h) ⟨Or.inr ⟨by rfl,rfl⟩,λw=>by first|rfl|go_simp⟩ ?_
     try (simp only [Act.put,qA,qB,qC,qD,qE,qF])
     refine wpAnyIn_take (i:=17) (oi:=_) (v:=undef) rfl rfl (by kernel_rfl) (by kernel_rfl) (by kernel_rfl) (λ_ _ _ h=>h) ⟨Or.inr ⟨by rfl,rfl⟩,λw=>by first|rfl|go_simp⟩ ?_
     try (simp only [Act.put,qA,qB,qC,qD,qE,qF])
     refine wpAnyIn_take (i:=18) (oi:=_) (v:=undef) rfl rfl (by kernel_rfl) (by kernel_rfl) (by kernel_rfl) (λ_ _ _ h=>h) ⟨Or.inr ⟨by rfl,rfl⟩,λw=>by first|rfl|go_simp⟩ ?_
     try (simp only [Act.put,qA,qB,qC,qD,qE,qF])
     refine wpAnyIn_take (i:=19) (oi:=_) (v:=undef) rfl rfl (by kernel_rfl) (by kernel_rfl) (by kernel_rfl) (λ_ _ _ h=>h) ⟨Or.inr ⟨by rfl,rfl⟩,λw=>by first|rfl|go_simp⟩ ?_
     try (simp only [Act.put,qA,qB,qC,qD,qE,qF])
     refine wpAnyIn_take (i:=20) (oi:=_) (v:=undef) rfl rfl (by kernel_rfl) (by kernel_rfl) (by kernel_rfl) (λ_ _ _ h=>h) ⟨Or.inr ⟨by rfl,rfl⟩,λw=>by first|rfl|go_simp⟩ ?_
     try (simp only [Act.put,qA,qB,qC,qD,qE,qF])
     refine wpAnyIn_take (i:=21) (oi:=_) (v:=.bool true) rfl rfl (by kernel_rfl) (by kernel_rfl) (by kernel_rfl) (λ_ _ _ h=>h) ⟨Or.inl ⟨by rfl,λw=>by go_simp⟩,λw=>by first|rfl|go_simp⟩ ?_
     try (simp only [Act.put,qA,qB,qC,qD,qE,qF])
     refine wpAnyIn_done (by kernel_rfl) ?_ _;gi_wp2_with fail
     first|go_end0|refine bodyPost_ret (results_none rfl _ _ _) rfl ?_
     have hx:Jx W2:=by
      rcases h1.out with ⟨q1,_⟩|⟨_,q2⟩
      ·cases q1
      ·exact q2
     exact Or.inl ⟨_,rfl,Or.inr hx⟩
    | true =>
     obtain ⟨hL,hN⟩:J (pre0++q++[(⟨db,do0+i*6,1,d.rn⟩:RefL)]) W2∧Beyond B0 wr W2:=by
      rcases h1.out with ⟨_,q1,q2⟩|⟨q1,_⟩
      ·exact ⟨q1,hd.out.trans q2⟩
      ·cases q1
     have hh:=qh hL;have hO:=qh (ha.out.trans hN);have hP:=hY.out.keep hN;clear h1;obtain ⟨ck2,_,cs2,_⟩:=hM.out _ (HH.out.rd _ _ hL);have cy2:=cell_of_one hP.by_;obtain ⟨fn2,tm2,as2,bo2,hE,hS⟩:=HH.out.one hc.out hL (Below.refl W2.heap.size W2) 9;unfold GA at hE;rw [show ((2:Nat):Int)=2 from rfl] at hE;have hD:=qh hS;have hQ:=qh hP;clear hS hL hN hP;refine wpAnyIn_take (i:=9) (oi:=_) (v:=.bool false) rfl rfl (by kernel_rfl) (by kernel_rfl) (by kernel_rfl) (λ_ _ _ h=>h) ⟨Or.inl ⟨by rfl,λw=>by go_simp⟩,λw=>by first|rfl|go_simp⟩ ?_
     try (simp only [Act.put,qA,qB,qC,qD,qE,qF])
     refine wpAnyIn_take (i:=10) (oi:=_) (v:=.bool false) rfl rfl (by kernel_rfl) (by kernel_rfl) (by kernel_rfl) (λ_ _ _ h=>h) ⟨Or.inl ⟨by rfl,λw=>by go_simp⟩,λw=>by first|rfl|go_simp⟩ ?_
     try (simp only [Act.put,qA,qB,qC,qD,qE,qF])
     refine wpAnyIn_take (i:=16) (oi:=_) (v:=int i64 (i:Int)) rfl rfl (by kernel_rfl) (by kernel_rfl) (by kernel_rfl) (λ_ _ _ h=>h) ⟨Or.inl ⟨by rfl,λw=>by go_simp⟩,λw=>by first|rfl|go_simp⟩ ?_
     try (simp only [Act.put,qA,qB,qC,qD,qE,qF])
     refine wpAnyIn_ready (rs:=[11,12]) (by kernel_rfl) (by simp) ?_;refine AllReadyIn.cons (o:=_) rfl (λK1 hK=>?_) (AllReadyIn.cons (o:=_) rfl (λK2 hK=>?_) AllReadyIn.nil)
     ·skip
      go_simp;refine hK _ _ ?_;clear hK
      try (simp only [Act.put,qA,qB,qC,qD,qE,qF])
      refine wpAnyIn_ready (rs:=[12]) (by kernel_rfl) (by simp) ?_;refine AllReadyIn.cons (o:=_) rfl (λK1 hK=>?_) AllReadyIn.nil;go_simp;refine hK _ _ ?_;clear hK
      try (simp only [Act.put,qA,qB,qC,qD,qE,qF])
      refine wpAnyIn_take (i:=13) (oi:=_) (v:=(.pointer (some ⟨S,0,none⟩))) rfl rfl (by kernel_rfl) (by kernel_rfl) (by kernel_rfl) (λ_ _ _ h=>h) ⟨Or.inl ⟨by rfl,λw=>by go_simp⟩,λw=>by first|rfl|go_simp⟩ ?_
      try (simp only [Act.put,qA,qB,qC,qD,qE,qF])
      refine wpAnyIn_take (i:=14) (oi:=_) (v:=(.pointer (some ⟨S,11,none⟩))) rfl rfl (by kernel_rfl) (by kernel_rfl) (by kernel_rfl) (λ_ _ _ h=>h) ⟨Or.inl ⟨by rfl,λw=>by go_simp⟩,λw=>by first|rfl|go_simp⟩ ?_
      try (simp only [Act.put,qA,qB,qC,qD,qE,qF])
      refine wpAnyIn_ready (rs:=[15]) (by kernel_rfl) (by simp) ?_;refine AllReadyIn.cons (o:=_) rfl (λK1 hK=>?_) AllReadyIn.nil;go_simp;refine hK _ _ ?_;clear hK
      try (simp only [Act.put,qA,qB,qC,qD,qE,qF])
      refine wpAnyIn_take (i:=17) (oi:=_) (v:=(.pointer (some ⟨db,do0+i*6,none⟩))) rfl rfl (by kernel_rfl) (by kernel_rfl) (by kernel_rfl) (λ_ _ _ h=>h) ⟨Or.inl ⟨by rfl,λw=>by go_simp⟩,λw=>by first|rfl|go_simp⟩ ?_
      try (simp only [Act.put,qA,qB,qC,qD,qE,qF])
      refine wpAnyIn_take (i:=18) (oi:=_) (v:=(.pointer (some ⟨db,do0+i*6+2,none⟩))) rfl rfl (by kernel_rfl) (by kernel_rfl) (by kernel_rfl) (λ_ _ _ h=>h) ⟨Or.inl ⟨by rfl,λw=>by go_simp⟩,λw=>by first|rfl|go_simp⟩ ?_
      try (simp only [Act.put,qA,qB,qC,qD,qE,qF])
      refine wpAnyIn_ready (rs:=[19]) (by kernel_rfl) (by simp) ?_;refine AllReadyIn.cons (o:=_) rfl (λK1 hK=>?_) AllReadyIn.nil;go_simp;refine RoundIn.mono (RoundIn.anyDepth rfl hD.out) ?_;rintro e W3 (⟨t2,rfl,h2⟩|⟨rfl,hp⟩)
      rotate_left
      ·exact ⟨rfl,Or.inr ⟨rfl,hp⟩⟩
      refine hK _ _ ?_;clear hK hE hD cy2 ck2 cs2
      try (simp only [Act.put,qA,qB,qC,qD,qE,qF])
      cases t2 with
      | false =>
       refine wpAnyIn_take (i:=20) (oi:=_) (v:=.bool true) rfl rfl (by kernel_rfl) (by kernel_rfl) (by kernel_rfl) (λ_ _ _ h=>h) ⟨Or.inl ⟨by rfl,λw=>by go_simp⟩,λw=>by first|rfl|go_simp⟩ ?_
       try (simp only [Act.put,qA,qB,qC,qD,qE,qF])
       refine wpAnyIn_take (i:=21) (oi:=_) (v:=.bool true) rfl rfl (by kernel_rfl) (by kernel_rfl) (by kernel_rfl) (λ_ _ _ h=>h) ⟨Or.inl ⟨by rfl,λw=>by go_simp⟩,λw=>by first|rfl|go_simp⟩ ?_
       try (simp only [Act.put,qA,qB,qC,qD,qE,qF])
       refine wpAnyIn_done (by kernel_rfl) ?_ _;gi_wp2_with fail
       first|go_end0|refine bodyPost_ret (results_none rfl _ _ _) rfl ?_
       have hx:Jx W3:=by
        rcases h2.out with ⟨q1,_⟩|⟨_,q2⟩
        ·cases q1
        ·exact q2
       exact Or.inl ⟨_,rfl,Or.inr hx⟩
      | true =>
       refine wpAnyIn_take (i:=20) (oi:=_) (v:=.bool false) rfl rfl (by kernel_rfl) (by kernel_rfl) (by kernel_rfl) (λ_ _ _ h=>h) ⟨Or.inl ⟨by rfl,λw=>by go_simp⟩,λw=>by first|rfl|go_simp⟩ ?_
       try (simp only [Act.put,qA,qB,qC,qD,qE,qF])
       refine wpAnyIn_take (i:=21) (oi:=_) (v:=.bool false) rfl rfl (by kernel_rfl) (by kernel_rfl) (by kernel_rfl) (λ_ _ _ h=>h) ⟨Or.inl ⟨by rfl,λw=>by go_simp⟩,λw=>by first|rfl|go_simp⟩ ?_
       try (simp only [Act.put,qA,qB,qC,qD,qE,qF])
       refine wpAnyIn_done (by kernel_rfl) ?_ _
       obtain ⟨hC,hB⟩:J (pre0++q++[(⟨db,do0+i*6,1,d.rn⟩:RefL)]++[(⟨db,do0+i*6+2,2,d.pn⟩:RefL)]) W3∧Beyond B0 W2 W3:=by
        rcases h2.out with ⟨_,q1,q2⟩|⟨q1,_⟩
        ·exact ⟨q1,q2⟩
        ·cases q1
       have hF:=qh hC;have hG:=qh (hO.out.trans hB);have hI:=qh (hQ.out.keep hB);clear h2 hC hB;gi_wp2_with fail;go_roundw
       case rel=>exact ⟨i+1,r,q++[(⟨db,do0+i*6,1,d.rn⟩:RefL),(⟨db,do0+i*6+2,2,d.pn⟩:RefL)],by go_num,by omega,qh (by rw [hq.out];simp only [An];rw [Nat.add_mul,Nat.one_mul,← Nat.add_assoc];simp),qh (by have:=hF.out;simpa [List.append_assoc] using this),hI,hG⟩
       case measure=>simp [intOf];omega
     ·skip
      go_simp;refine hK _ _ ?_;clear hK
      try (simp only [Act.put,qA,qB,qC,qD,qE,qF])
      refine wpAnyIn_take (i:=13) (oi:=_) (v:=(.pointer (some ⟨S,0,none⟩))) rfl rfl (by kernel_rfl) (by kernel_rfl) (by kernel_rfl) (λ_ _ _ h=>h) ⟨Or.inl ⟨by rfl,λw=>by go_simp⟩,λw=>by first|rfl|go_simp⟩ ?_
      try (simp only [Act.put,qA,qB,qC,qD,qE,qF])
      refine wpAnyIn_take (i:=14) (oi:=_) (v:=(.pointer (some ⟨S,11,none⟩))) rfl rfl (by kernel_rfl) (by kernel_rfl) (by kernel_rfl) (λ_ _ _ h=>h) ⟨Or.inl ⟨by rfl,λw=>by go_simp⟩,λw=>by first|rfl|go_simp⟩ ?_
      try (simp only [Act.put,qA,qB,qC,qD,qE,qF])
      refine wpAnyIn_ready (rs:=[11,15]) (by kernel_rfl) (by simp) ?_;refine AllReadyIn.cons (o:=_) rfl (λK1 hK=>?_) (AllReadyIn.cons (o:=_) rfl (λK2 hK=>?_) AllReadyIn.nil)
      ·skip
       go_simp;refine hK _ _ ?_;clear hK
       try (simp only [Act.put,qA,qB,qC,qD,qE,qF])
       refine wpAnyIn_ready (rs:=[15]) (by kernel_rfl) (by simp) ?_;refine AllReadyIn.cons (o:=_) rfl (λK1 hK=>?_) AllReadyIn.nil;go_simp;refine hK _ _ ?_;clear hK
       try (simp only [Act.put,qA,qB,qC,qD,qE,qF])
       refine wpAnyIn_take (i:=17) (oi:=_) (v:=(.pointer (some ⟨db,do0+i*6,none⟩))) rfl rfl (by kernel_rfl) (by kernel_rfl) (by kernel_rfl) (λ_ _ _ h=>h) ⟨Or.inl ⟨by rfl,λw=>by go_simp⟩,λw=>by first|rfl|go_simp⟩ ?_
       try (simp only [Act.put,qA,qB,qC,qD,qE,qF])
       refine wpAnyIn_take (i:=18) (oi:=_) (v:=(.pointer (some ⟨db,do0+i*6+2,none⟩))) rfl rfl (by kernel_rfl) (by kernel_rfl) (by kernel_rfl) (λ_ _ _ h=>h) ⟨Or.inl ⟨by rfl,λw=>by go_simp⟩,λw=>by first|rfl|go_simp⟩ ?_
       try (simp only [Act.put,qA,qB,qC,qD,qE,qF])
       refine wpAnyIn_ready (rs:=[19]) (by kernel_rfl) (by simp) ?_;refine AllReadyIn.cons (o:=_) rfl (λK1 hK=>?_) AllReadyIn.nil;go_simp;refine RoundIn.mono (RoundIn.anyDepth rfl hD.out) ?_;rintro e W3 (⟨t2,rfl,h2⟩|⟨rfl,hp⟩)
       rotate_left
       ·exact ⟨rfl,Or.inr ⟨rfl,hp⟩⟩
       refine hK _ _ ?_;clear hK hE hD cy2 ck2 cs2
       try (simp only [Act.put,qA,qB,qC,qD,qE,qF])
       cases t2 with
       | false =>
        refine wpAnyIn_take (i:=20) (oi:=_) (v:=.bool true) rfl rfl (by kernel_rfl) (by kernel_rfl) (by kernel_rfl) (λ_ _ _ h=>h) ⟨Or.inl ⟨by rfl,λw=>by go_simp⟩,λw=>by first|rfl|go_simp⟩ ?_
        try (simp only [Act.put,qA,qB,qC,qD,qE,qF])
        refine wpAnyIn_take (i:=21) (oi:=_) (v:=.bool true) rfl rfl (by kernel_rfl) (by kernel_rfl) (by kernel_rfl) (λ_ _ _ h=>h) ⟨Or.inl ⟨by rfl,λw=>by go_simp⟩,λw=>by first|rfl|go_simp⟩ ?_
        try (simp only [Act.put,qA,qB,qC,qD,qE,qF])
        refine wpAnyIn_done (by kernel_rfl) ?_ _;gi_wp2_with fail
        first|go_end0|refine bodyPost_ret (results_none rfl _ _ _) rfl ?_
        have hx:Jx W3:=by
         rcases h2.out with ⟨q1,_⟩|⟨_,q2⟩
         ·cases q1
         ·exact q2
        exact Or.inl ⟨_,rfl,Or.inr hx⟩
       | true =>
        refine wpAnyIn_take (i:=20) (oi:=_) (v:=.bool false) rfl rfl (by kernel_rfl) (by kernel_rfl) (by kernel_rfl) (λ_ _ _ h=>h) ⟨Or.inl ⟨by rfl,λw=>by go_simp⟩,λw=>by first|rfl|go_simp⟩ ?_
        try (simp only [Act.put,qA,qB,qC,qD,qE,qF])
        refine wpAnyIn_take (i:=21) (oi:=_) (v:=.bool false) rfl rfl (by kernel_rfl) (by kernel_rfl) (by kernel_rfl) (λ_ _ _ h=>h) ⟨Or.inl ⟨by rfl,λw=>by go_simp⟩,λw=>by first|rfl|go_simp⟩ ?_
        try (simp only [Act.put,qA,qB,qC,qD,qE,qF])
        refine wpAnyIn_done (by kernel_rfl) ?_ _
        obtain ⟨hC,hB⟩:J (pre0++q++[(⟨db,do0+i*6,1,d.rn⟩:RefL)]++[(⟨db,do0+i*6+2,2,d.pn⟩:RefL)]) W3∧Beyond B0 W2 W3:=by
         rcases h2.out with ⟨_,q1,q2⟩|⟨q1,_⟩
         ·exact ⟨q1,q2⟩
         ·cases q1
        have hF:=qh hC;have hG:=qh (hO.out.trans hB);have hI:=qh (hQ.out.keep hB);clear h2 hC hB;gi_wp2_with fail;go_roundw
        case rel=>exact ⟨i+1,r,q++[(⟨db,do0+i*6,1,d.rn⟩:RefL),(⟨db,do0+i*6+2,2,d.pn⟩:RefL)],by go_num,by omega,qh (by rw [hq.out];simp only [An];rw [Nat.add_mul,Nat.one_mul,← Nat.add_assoc];simp),qh (by have:=hF.out;simpa [List.append_assoc] using this),hI,hG⟩
        case measure=>simp [intOf];omega
      ·skip
       go_simp;refine hK _ _ ?_;clear hK
       try (simp only [Act.put,qA,qB,qC,qD,qE,qF])
       refine wpAnyIn_take (i:=17) (oi:=_) (v:=(.pointer (some ⟨db,do0+i*6,none⟩))) rfl rfl (by kernel_rfl) (by kernel_rfl) (by kernel_rfl) (λ_ _ _ h=>h) ⟨Or.inl ⟨by rfl,λw=>by go_simp⟩,λw=>by first|rfl|go_simp⟩ ?_
       try (simp only [Act.put,qA,qB,qC,qD,qE,qF])
       refine wpAnyIn_take (i:=18) (oi:=_) (v:=(.pointer (some ⟨db,do0+i*6+2,none⟩))) rfl rfl (by kernel_rfl) (by kernel_rfl) (by kernel_rfl) (λ_ _ _ h=>h) ⟨Or.inl ⟨by rfl,λw=>by go_simp⟩,λw=>by first|rfl|go_simp⟩ ?_
       try (simp only [Act.put,qA,qB,qC,qD,qE,qF])
       refine wpAnyIn_ready (rs:=[11]) (by kernel_rfl) (by simp) ?_;refine AllReadyIn.cons (o:=_) rfl (λK1 hK=>?_) AllReadyIn.nil;go_simp;refine hK _ _ ?_;clear hK
       try (simp only [Act.put,qA,qB,qC,qD,qE,qF])
       refine wpAnyIn_ready (rs:=[19]) (by kernel_rfl) (by simp) ?_;refine AllReadyIn.cons (o:=_) rfl (λK1 hK=>?_) AllReadyIn.nil;go_simp;refine RoundIn.mono (RoundIn.anyDepth rfl hD.out) ?_;rintro e W3 (⟨t2,rfl,h2⟩|⟨rfl,hp⟩)
       rotate_left
       ·exact ⟨rfl,Or.inr ⟨rfl,hp⟩⟩
       refine hK _ _ ?_;clear hK hE hD cy2 ck2 cs2
       try (simp only [Act.put,qA,qB,qC,qD,qE,qF])
       cases t2 with
       | false =>
        refine wpAnyIn_take (i:=20) (oi:=_) (v:=.bool true) rfl rfl (by kernel_rfl) (by kernel_rfl) (by kernel_rfl) (λ_ _ _ h=>h) ⟨Or.inl ⟨by rfl,λw=>by go_simp⟩,λw=>by first|rfl|go_simp⟩ ?_
        try (simp only [Act.put,qA,qB,qC,qD,qE,qF])
        refine wpAnyIn_take (i:=21) (oi:=_) (v:=.bool true) rfl rfl (by kernel_rfl) (by kernel_rfl) (by kernel_rfl) (λ_ _ _ h=>h) ⟨Or.inl ⟨by rfl,λw=>by go_simp⟩,λw=>by first|rfl|go_simp⟩ ?_
        try (simp only [Act.put,qA,qB,qC,qD,qE,qF])
        refine wpAnyIn_done (by kernel_rfl) ?_ _;gi_wp2_with fail
        first|go_end0|refine bodyPost_ret (results_none rfl _ _ _) rfl ?_
        have hx:Jx W3:=by
         rcases h2.out with ⟨q1,_⟩|⟨_,q2⟩
         ·cases q1
         ·exact q2
        exact Or.inl ⟨_,rfl,Or.inr hx⟩
       | true =>
        refine wpAnyIn_take (i:=20) (oi:=_) (v:=.bool false) rfl rfl (by kernel_rfl) (by kernel_rfl) (by kernel_rfl) (λ_ _ _ h=>h) ⟨Or.inl ⟨by rfl,λw=>by go_simp⟩,λw=>by first|rfl|go_simp⟩ ?_
        try (simp only [Act.put,qA,qB,qC,qD,qE,qF])
        refine wpAnyIn_take (i:=21) (oi:=_) (v:=.bool false) rfl rfl (by kernel_rfl) (by kernel_rfl) (by kernel_rfl) (λ_ _ _ h=>h) ⟨Or.inl ⟨by rfl,λw=>by go_simp⟩,λw=>by first|rfl|go_simp⟩ ?_
        try (simp only [Act.put,qA,qB,qC,qD,qE,qF])
        refine wpAnyIn_done (by kernel_rfl) ?_ _
        obtain ⟨hC,hB⟩:J (pre0++q++[(⟨db,do0+i*6,1,d.rn⟩:RefL)]++[(⟨db,do0+i*6+2,2,d.pn⟩:RefL)]) W3∧Beyond B0 W2 W3:=by
         rcases h2.out with ⟨_,q1,q2⟩|⟨q1,_⟩
         ·exact ⟨q1,q2⟩
         ·cases q1
        have hF:=qh hC;have hG:=qh (hO.out.trans hB);have hI:=qh (hQ.out.keep hB);clear h2 hC hB;gi_wp2_with fail;go_roundw
        case rel=>exact ⟨i+1,r,q++[(⟨db,do0+i*6,1,d.rn⟩:RefL),(⟨db,do0+i*6+2,2,d.pn⟩:RefL)],by go_num,by omega,qh (by rw [hq.out];simp only [An];rw [Nat.add_mul,Nat.one_mul,← Nat.add_assoc];simp),qh (by have:=hF.out;simpa [List.append_assoc] using this),hI,hG⟩
        case measure=>simp [intOf];omega
   ·skip
    go_simp;refine hK _ _ ?_;clear hK
    try (simp only [Act.put,qA,qB,qC,qD,qE,qF])
    refine wpAnyIn_take (i:=2) (oi:=_) (v:=(.pointer (some ⟨S,0,none⟩))) rfl rfl (by kernel_rfl) (by kernel_rfl) (by kernel_rfl) (λ_ _ _ h=>h) ⟨Or.inl ⟨by rfl,λw=>by go_simp⟩,λw=>by first|rfl|go_simp⟩ ?_
    try (simp only [Act.put,qA,qB,qC,qD,qE,qF])
    refine wpAnyIn_take (i:=3) (oi:=_) (v:=(.pointer (some ⟨S,11,none⟩))) rfl rfl (by kernel_rfl) (by kernel_rfl) (by kernel_rfl) (λ_ _ _ h=>h) ⟨Or.inl ⟨by rfl,λw=>by go_simp⟩,λw=>by first|rfl|go_simp⟩ ?_
    try (simp only [Act.put,qA,qB,qC,qD,qE,qF])
    refine wpAnyIn_ready (rs:=[0,4]) (by kernel_rfl) (by simp) ?_;refine AllReadyIn.cons (o:=_) rfl (λK1 hK=>?_) (AllReadyIn.cons (o:=_) rfl (λK2 hK=>?_) AllReadyIn.nil)
    ·skip
     go_simp;refine hK _ _ ?_;clear hK
     try (simp only [Act.put,qA,qB,qC,qD,qE,qF])
     refine wpAnyIn_ready (rs:=[4]) (by kernel_rfl) (by simp) ?_;refine AllReadyIn.cons (o:=_) rfl (λK1 hK=>?_) AllReadyIn.nil;go_simp;refine hK _ _ ?_;clear hK
     try (simp only [Act.put,qA,qB,qC,qD,qE,qF])
     refine wpAnyIn_take (i:=6) (oi:=_) (v:=(.pointer (some ⟨db,do0+i*6,none⟩))) rfl rfl (by kernel_rfl) (by kernel_rfl) (by kernel_rfl) (λ_ _ _ h=>h) ⟨Or.inl ⟨by rfl,λw=>by go_simp⟩,λw=>by first|rfl|go_simp⟩ ?_
     try (simp only [Act.put,qA,qB,qC,qD,qE,qF])
     refine wpAnyIn_take (i:=7) (oi:=_) (v:=(.pointer (some ⟨db,do0+i*6,none⟩))) rfl rfl (by kernel_rfl) (by kernel_rfl) (by kernel_rfl) (λ_ _ _ h=>h) ⟨Or.inl ⟨by rfl,λw=>by go_simp⟩,λw=>by first|rfl|go_simp⟩ ?_
     try (simp only [Act.put,qA,qB,qC,qD,qE,qF])
     refine wpAnyIn_ready (rs:=[8]) (by kernel_rfl) (by simp) ?_;refine AllReadyIn.cons (o:=_) rfl (λK1 hK=>?_) AllReadyIn.nil;go_simp;refine RoundIn.mono (RoundIn.anyDepth rfl hT.out) ?_;rintro e W2 (⟨t1,rfl,h1⟩|⟨rfl,hp⟩)
     rotate_left
     ·exact ⟨rfl,Or.inr ⟨rfl,hp⟩⟩
     refine hK _ _ ?_;clear hK hV hT cy ck cs
     try (simp only [Act.put,qA,qB,qC,qD,qE,qF])
     cases t1 with
     | false =>
      refine wpAnyIn_take (i:=9) (oi:=_) (v:=.bool true) rfl rfl (by kernel_rfl) (by kernel_rfl) (by kernel_rfl) (λ_ _ _ h=>h) ⟨Or.inl ⟨by rfl,λw=>by go_simp⟩,λw=>by first|rfl|go_simp⟩ ?_
      try (simp only [Act.put,qA,qB,qC,qD,qE,qF])
      refine wpAnyIn_take (i:=10) (oi:=_) (v:=.bool true) rfl rfl (by kernel_rfl) (by kernel_rfl) (by kernel_rfl) (λ_ _ _ h=>h) ⟨Or.inl ⟨by rfl,λw=>by go_simp⟩,λw=>by first|rfl|go_simp⟩ ?_
      try (simp only [Act.put,qA,qB,qC,qD,qE,qF])
      refine wpAnyIn_take (i:=11) (oi:=_) (v:=undef) rfl rfl (by kernel_rfl) (by kernel_rfl) (by kernel_rfl) (λ_ _ _ h=>h) ⟨Or.inr ⟨by rfl,rfl⟩,λw=>by first|rfl|go_simp⟩ ?_
      try (simp only [Act.put,qA,qB,qC,qD,qE,qF])
      refine wpAnyIn_take (i:=12) (oi:=_) (v:=undef) rfl rfl (by kernel_rfl) (by kernel_rfl) (by kernel_rfl) (λ_ _ _ h=>h) ⟨Or.inr ⟨by rfl,rfl⟩,λw=>by first|rfl|go_simp⟩ ?_
      try (simp only [Act.put,qA,qB,qC,qD,qE,qF])
      refine wpAnyIn_take (i:=13) (oi:=_) (v:=undef) rfl rfl (by kernel_rfl) (by kernel_rfl) (by kernel_rfl) (λ_ _ _ h=>h) ⟨Or.inr ⟨by rfl,rfl⟩,λw=>by first|rfl|go_simp⟩ ?_
      try (simp only [Act.put,qA,qB,qC,qD,qE,qF])
      refine wpAnyIn_take (i:=14) (oi:=_) (v:=undef) rfl rfl (by kernel_rfl) (by kernel_rfl) (by kernel_rfl) (λ_ _ _ h=>h) ⟨Or.inr ⟨by rfl,rfl⟩,λw=>by first|rfl|go_simp⟩ ?_
      try (simp only [Act.put,qA,qB,qC,qD,qE,qF])
      refine wpAnyIn_take (i:=15) (oi:=_) (v:=undef) rfl rfl (by kernel_rfl) (by kernel_rfl) (by kernel_rfl) (λ_ _ _ h=>h) ⟨Or.inr ⟨by rfl,rfl⟩,λw=>by first|rfl|go_simp⟩ ?_
      try (simp only [Act.put,qA,qB,qC,qD,qE,qF])
      refine wpAnyIn_take (i:=16) (oi:=_) (v:=undef) rfl rfl (by kernel_rfl) (by kernel_rfl) (by kernel_rfl) (λ_ _ _ h=>h) ⟨Or.inr ⟨by rfl,rfl⟩,λw=>by first|rfl|go_simp⟩ ?_
      try (simp only [Act.put,qA,qB,qC,qD,qE,qF])
      refine wpAnyIn_take (i:=17) (oi:=_) (v:=undef) rfl rfl (by kernel_rfl) (by kernel_rfl) (by kernel_rfl) (λ_ _ _ h=>h) ⟨Or.inr ⟨by rfl,rfl⟩,λw=>by first|rfl|go_simp⟩ ?_
      try (simp only [Act.put,qA,qB,qC,qD,qE,qF])
      refine wpAnyIn_take (i:=18) (oi:=_) (v:=undef) rfl rfl (by kernel_rfl) (by kernel_rfl) (by kernel_rfl) (λ_ _ _ h=>h) ⟨Or.inr ⟨by rfl,rfl⟩,λw=>by first|rfl|go_simp⟩ ?_
      try (simp only [Act.put,qA,qB,qC,qD,qE,qF])
      refine wpAnyIn_take (i:=19) (oi:=_) (v:=undef) rfl rfl (by kernel_rfl) (by kernel_rfl) (by kernel_rfl) (λ_ _ _ h=>h) ⟨Or.inr ⟨by rfl,rfl⟩,λw=>by first|rfl|go_simp⟩ ?_
      try (simp only [Act.put,qA,qB,qC,qD,qE,qF])
      refine wpAnyIn_take (i:=20) (oi:=_) (v:=undef) rfl rfl (by kernel_rfl) (by kernel_rfl) (by kernel_rfl) (λ_ _ _ h=>h) ⟨Or.inr ⟨by rfl,rfl⟩,λw=>by first|rfl|go_simp⟩ ?_
      try (simp only [Act.put,qA,qB,qC,qD,qE,qF])
      refine wpAnyIn_take (i:=21) (oi:=_) (v:=.bool true) rfl rfl (by kernel_rfl) (by kernel_rfl) (by kernel_rfl) (λ_ _ _ h=>h) ⟨Or.inl ⟨by rfl,λw=>by go_simp⟩,λw=>by first|rfl|go_simp⟩ ?_
      try (simp only [Act.put,qA,qB,qC,qD,qE,qF])
      refine wpAnyIn_done (by kernel_rfl) ?_ _;gi_wp2_with fail
      first|go_end0|refine bodyPost_ret (results_none rfl _ _ _) rfl ?_
      have hx:Jx W2:=by
       rcases h1.out with ⟨q1,_⟩|⟨_,q2⟩
       ·cases q1
       ·exact q2
      exact Or.inl ⟨_,rfl,Or.inr hx⟩
     | true =>
      obtain ⟨hL,hN⟩:J (pre0++q++[(⟨db,do0+i*6,1,d.rn⟩:RefL)]) W2∧Beyond B0 wr W2:=by
       rcases h1.out with ⟨_,q1,q2⟩|⟨q1,_⟩
       ·exact ⟨q1,hd.out.trans q2⟩
       ·cases q1
      have hh:=qh hL;have hO:=qh (ha.out.trans hN);have hP:=hY.out.keep hN;clear h1;obtain ⟨ck2,_,cs2,_⟩:=hM.out _ (HH.out.rd _ _ hL);have cy2:=cell_of_one hP.by_;obtain ⟨fn2,tm2,as2,bo2,hE,hS⟩:=HH.out.one hc.out hL (Below.refl W2.heap.size W2) 9;unfold GA at hE;rw [show ((2:Nat):Int)=2 from rfl] at hE;have hD:=qh hS;have hQ:=qh hP;clear hS hL hN hP;refine wpAnyIn_take (i:=9) (oi:=_) (v:=.bool false) rfl rfl (by kernel_rfl) (by kernel_rfl) (by kernel_rfl) (λ_ _ _ h=>h) ⟨Or.inl ⟨by rfl,λw=>by go_simp⟩,λw=>by first|rfl|go_simp⟩ ?_
      try (simp only [Act.put,qA,qB,qC,qD,qE,qF])
      refine wpAnyIn_take (i:=10) (oi:=_) (v:=.bool false) rfl rfl (by kernel_rfl) (by kernel_rfl) (by kernel_rfl) (λ_ _ _ h=>h) ⟨Or.inl ⟨by rfl,λw=>by go_simp⟩,λw=>by first|rfl|go_simp⟩ ?_
      try (simp only [Act.put,qA,qB,qC,qD,qE,qF])
      refine wpAnyIn_take (i:=16) (oi:=_) (v:=int i64 (i:Int)) rfl rfl (by kernel_rfl) (by kernel_rfl) (by kernel_rfl) (λ_ _ _ h=>h) ⟨Or.inl ⟨by rfl,λw=>by go_simp⟩,λw=>by first|rfl|go_simp⟩ ?_
      try (simp only [Act.put,qA,qB,qC,qD,qE,qF])
      refine wpAnyIn_ready (rs:=[11,12]) (by kernel_rfl) (by simp) ?_;refine AllReadyIn.cons (o:=_) rfl (λK1 hK=>?_) (AllReadyIn.cons (o:=_) rfl (λK2 hK=>?_) AllReadyIn.nil)
      ·skip
       go_simp;refine hK _ _ ?_;clear hK
       try (simp only [Act.put,qA,qB,qC,qD,qE,qF])
       refine wpAnyIn_ready (rs:=[12]) (by kernel_rfl) (by simp) ?_;refine AllReadyIn.cons (o:=_) rfl (λK1 hK=>?_) AllReadyIn.nil;go_simp;refine hK _ _ ?_;clear hK
       try (simp only [Act.put,qA,qB,qC,qD,qE,qF])
       refine wpAnyIn_take (i:=13) (oi:=_) (v:=(.pointer (some ⟨S,0,none⟩))) rfl rfl (by kernel_rfl) (by kernel_rfl) (by kernel_rfl) (λ_ _ _ h=>h) ⟨Or.inl ⟨by rfl,λw=>by go_simp⟩,λw=>by first|rfl|go_simp⟩ ?_
       try (simp only [Act.put,qA,qB,qC,qD,qE,qF])
       refine wpAnyIn_take (i:=14) (oi:=_) (v:=(.pointer (some ⟨S,11,none⟩))) rfl rfl (by kernel_rfl) (by kernel_rfl) (by kernel_rfl) (λ_ _ _ h=>h) ⟨Or.inl ⟨by rfl,λw=>by go_simp⟩,λw=>by first|rfl|go_simp⟩ ?_
       try (simp only [Act.put,qA,qB,qC,qD,qE,qF])
       refine wpAnyIn_ready (rs:=[15]) (by kernel_rfl) (by simp) ?_;refine AllReadyIn.cons (o:=_) rfl (λK1 hK=>?_) AllReadyIn.nil;go_simp;refine hK _ _ ?_;clear hK
       try (simp only [Act.put,qA,qB,qC,qD,qE,qF])
       refine wpAnyIn_take (i:=17) (oi:=_) (v:=(.pointer (some ⟨db,do0+i*6,none⟩))) rfl rfl (by kernel_rfl) (by kernel_rfl) (by kernel_rfl) (λ_ _ _ h=>h) ⟨Or.inl ⟨by rfl,λw=>by go_simp⟩,λw=>by first|rfl|go_simp⟩ ?_
       try (simp only [Act.put,qA,qB,qC,qD,qE,qF])
       refine wpAnyIn_take (i:=18) (oi:=_) (v:=(.pointer (some ⟨db,do0+i*6+2,none⟩))) rfl rfl (by kernel_rfl) (by kernel_rfl) (by kernel_rfl) (λ_ _ _ h=>h) ⟨Or.inl ⟨by rfl,λw=>by go_simp⟩,λw=>by first|rfl|go_simp⟩ ?_
       try (simp only [Act.put,qA,qB,qC,qD,qE,qF])
       refine wpAnyIn_ready (rs:=[19]) (by kernel_rfl) (by simp) ?_;refine AllReadyIn.cons (o:=_) rfl (λK1 hK=>?_) AllReadyIn.nil;go_simp;refine RoundIn.mono (RoundIn.anyDepth rfl hD.out) ?_;rintro e W3 (⟨t2,rfl,h2⟩|⟨rfl,hp⟩)
       rotate_left
       ·exact ⟨rfl,Or.inr ⟨rfl,hp⟩⟩
       refine hK _ _ ?_;clear hK hE hD cy2 ck2 cs2
       try (simp only [Act.put,qA,qB,qC,qD,qE,qF])
       cases t2 with
       | false =>
        refine wpAnyIn_take (i:=20) (oi:=_) (v:=.bool true) rfl rfl (by kernel_rfl) (by kernel_rfl) (by kernel_rfl) (λ_ _ _ h=>h) ⟨Or.inl ⟨by rfl,λw=>by go_simp⟩,λw=>by first|rfl|go_simp⟩ ?_
        try (simp only [Act.put,qA,qB,qC,qD,qE,qF])
        refine wpAnyIn_take (i:=21) (oi:=_) (v:=.bool true) rfl rfl (by kernel_rfl) (by kernel_rfl) (by kernel_rfl) (λ_ _ _ h=>h) ⟨Or.inl ⟨by rfl,λw=>by go_simp⟩,λw=>by first|rfl|go_simp⟩ ?_
        try (simp only [Act.put,qA,qB,qC,qD,qE,qF])
        refine wpAnyIn_done (by kernel_rfl) ?_ _;gi_wp2_with fail
        first|go_end0|refine bodyPost_ret (results_none rfl _ _ _) rfl ?_
        have hx:Jx W3:=by
         rcases h2.out with ⟨q1,_⟩|⟨_,q2⟩
         ·cases q1
         ·exact q2
        exact Or.inl ⟨_,rfl,Or.inr hx⟩
       | true =>
        refine wpAnyIn_take (i:=20) (oi:=_) (v:=.bool false) rfl rfl (by kernel_rfl) (by kernel_rfl) (by kernel_rfl) (λ_ _ _ h=>h) ⟨Or.inl ⟨by rfl,λw=>by go_simp⟩,λw=>by first|rfl|go_simp⟩ ?_
        try (simp only [Act.put,qA,qB,qC,qD,qE,qF])
        refine wpAnyIn_take (i:=21) (oi:=_) (v:=.bool false) rfl rfl (by kernel_rfl) (by kernel_rfl) (by kernel_rfl) (λ_ _ _ h=>h) ⟨Or.inl ⟨by rfl,λw=>by go_simp⟩,λw=>by first|rfl|go_simp⟩ ?_
        try (simp only [Act.put,qA,qB,qC,qD,qE,qF])
        refine wpAnyIn_done (by kernel_rfl) ?_ _
        obtain ⟨hC,hB⟩:J (pre0++q++[(⟨db,do0+i*6,1,d.rn⟩:RefL)]++[(⟨db,do0+i*6+2,2,d.pn⟩:RefL)]) W3∧Beyond B0 W2 W3:=by
         rcases h2.out with ⟨_,q1,q2⟩|⟨q1,_⟩
         ·exact ⟨q1,q2⟩
         ·cases q1
        have hF:=qh hC;have hG:=qh (hO.out.trans hB);have hI:=qh (hQ.out.keep hB);clear h2 hC hB;gi_wp2_with fail;go_roundw
        case rel=>exact ⟨i+1,r,q++[(⟨db,do0+i*6,1,d.rn⟩:RefL),(⟨db,do0+i*6+2,2,d.pn⟩:RefL)],by go_num,by omega,qh (by rw [hq.out];simp only [An];rw [Nat.add_mul,Nat.one_mul,← Nat.add_assoc];simp),qh (by have:=hF.out;simpa [List.append_assoc] using this),hI,hG⟩
        case measure=>simp [intOf];omega
      ·skip
       go_simp;refine hK _ _ ?_;clear hK
       try (simp only [Act.put,qA,qB,qC,qD,qE,qF])
       refine wpAnyIn_take (i:=13) (oi:=_) (v:=(.pointer (some ⟨S,0,none⟩))) rfl rfl (by kernel_rfl) (by kernel_rfl) (by kernel_rfl) (λ_ _ _ h=>h) ⟨Or.inl ⟨by rfl,λw=>by go_simp⟩,λw=>by first|rfl|go_simp⟩ ?_
       try (simp only [Act.put,qA,qB,qC,qD,qE,qF])
       refine wpAnyIn_take (i:=14) (oi:=_) (v:=(.pointer (some ⟨S,11,none⟩))) rfl rfl (by kernel_rfl) (by kernel_rfl) (by kernel_rfl) (λ_ _ _ h=>h) ⟨Or.inl ⟨by rfl,λw=>by go_simp⟩,λw=>by first|rfl|go_simp⟩ ?_
       try (simp only [Act.put,qA,qB,qC,qD,qE,qF])
       refine wpAnyIn_ready (rs:=[11,15]) (by kernel_rfl) (by simp) ?_;refine AllReadyIn.cons (o:=_) rfl (λK1 hK=>?_) (AllReadyIn.cons (o:=_) rfl (λK2 hK=>?_) AllReadyIn.nil)
       ·skip
        go_simp;refine hK _ _ ?_;clear hK
        try (simp only [Act.put,qA,qB,qC,qD,qE,qF])
        refine wpAnyIn_ready (rs:=[15]) (by kernel_rfl) (by simp) ?_;refine AllReadyIn.cons (o:=_) rfl (λK1 hK=>?_) AllReadyIn.nil;go_simp;refine hK _ _ ?_;clear hK
        try (simp only [Act.put,qA,qB,qC,qD,qE,qF])
        refine wpAnyIn_take (i:=17) (oi:=_) (v:=(.pointer (some ⟨db,do0+i*6,none⟩))) rfl rfl (by kernel_rfl) (by kernel_rfl) (by kernel_rfl) (λ_ _ _ h=>h) ⟨Or.inl ⟨by rfl,λw=>by go_simp⟩,λw=>by first|rfl|go_simp⟩ ?_
        try (simp only [Act.put,qA,qB,qC,qD,qE,qF])
        refine wpAnyIn_take (i:=18) (oi:=_) (v:=(.pointer (some ⟨db,do0+i*6+2,none⟩))) rfl rfl (by kernel_rfl) (by kernel_rfl) (by kernel_rfl) (λ_ _ _ h=>h) ⟨Or.inl ⟨by rfl,λw=>by go_simp⟩,λw=>by first|rfl|go_simp⟩ ?_
        try (simp only [Act.put,qA,qB,qC,qD,qE,qF])
        refine wpAnyIn_ready (rs:=[19]) (by kernel_rfl) (by simp) ?_;refine AllReadyIn.cons (o:=_) rfl (λK1 hK=>?_) AllReadyIn.nil;go_simp;refine RoundIn.mono (RoundIn.anyDepth rfl hD.out) ?_;rintro e W3 (⟨t2,rfl,h2⟩|⟨rfl,hp⟩)
        rotate_left
        ·exact ⟨rfl,Or.inr ⟨rfl,hp⟩⟩
        refine hK _ _ ?_;clear hK hE hD cy2 ck2 cs2
        try (simp only [Act.put,qA,qB,qC,qD,qE,qF])
        cases t2 with
        | false =>
         refine wpAnyIn_take (i:=20) (oi:=_) (v:=.bool true) rfl rfl (by kernel_rfl) (by kernel_rfl) (by kernel_rfl) (λ_ _ _ h=>h) ⟨Or.inl ⟨by rfl,λw=>by go_simp⟩,λw=>by first|rfl|go_simp⟩ ?_
         try (simp only [Act.put,qA,qB,qC,qD,qE,qF])
         refine wpAnyIn_take (i:=21) (oi:=_) (v:=.bool true) rfl rfl (by kernel_rfl) (by kernel_rfl) (by kernel_rfl) (λ_ _ _ h=>h) ⟨Or.inl ⟨by rfl,λw=>by go_simp⟩,λw=>by first|rfl|go_simp⟩ ?_
         try (simp only [Act.put,qA,qB,qC,qD,qE,qF])
         refine wpAnyIn_done (by kernel_rfl) ?_ _;gi_wp2_with fail
         first|go_end0|refine bodyPost_ret (results_none rfl _ _ _) rfl ?_
         have hx:Jx W3:=by
          rcases h2.out with ⟨q1,_⟩|⟨_,q2⟩
          ·cases q1
          ·exact q2
         exact Or.inl ⟨_,rfl,Or.inr hx⟩
        | true =>
         refine wpAnyIn_take (i:=20) (oi:=_) (v:=.bool false) rfl rfl (by kernel_rfl) (by kernel_rfl) (by kernel_rfl) (λ_ _ _ h=>h) ⟨Or.inl ⟨by rfl,λw=>by go_simp⟩,λw=>by first|rfl|go_simp⟩ ?_
         try (simp only [Act.put,qA,qB,qC,qD,qE,qF])
         refine wpAnyIn_take (i:=21) (oi:=_) (v:=.bool false) rfl rfl (by kernel_rfl) (by kernel_rfl) (by kernel_rfl) (λ_ _ _ h=>h) ⟨Or.inl ⟨by rfl,λw=>by go_simp⟩,λw=>by first|rfl|go_simp⟩ ?_
         try (simp only [Act.put,qA,qB,qC,qD,qE,qF])
         refine wpAnyIn_done (by kernel_rfl) ?_ _
         obtain ⟨hC,hB⟩:J (pre0++q++[(⟨db,do0+i*6,1,d.rn⟩:RefL)]++[(⟨db,do0+i*6+2,2,d.pn⟩:RefL)]) W3∧Beyond B0 W2 W3:=by
          rcases h2.out with ⟨_,q1,q2⟩|⟨q1,_⟩
          ·exact ⟨q1,q2⟩
          ·cases q1
         have hF:=qh hC;have hG:=qh (hO.out.trans hB);have hI:=qh (hQ.out.keep hB);clear h2 hC hB;gi_wp2_with fail;go_roundw
         case rel=>exact ⟨i+1,r,q++[(⟨db,do0+i*6,1,d.rn⟩:RefL),(⟨db,do0+i*6+2,2,d.pn⟩:RefL)],by go_num,by omega,qh (by rw [hq.out];simp only [An];rw [Nat.add_mul,Nat.one_mul,← Nat.add_assoc];simp),qh (by have:=hF.out;simpa [List.append_assoc] using this),hI,hG⟩
         case measure=>simp [intOf];omega
       ·skip
        go_simp;refine hK _ _ ?_;clear hK
        try (simp only [Act.put,qA,qB,qC,qD,qE,qF])
        refine wpAnyIn_take (i:=17) (oi:=_) (v:=(.pointer (some ⟨db,do0+i*6,none⟩))) rfl rfl (by kernel_rfl) (by kernel_rfl) (by kernel_rfl) (λ_ _ _ h=>h) ⟨Or.inl ⟨by rfl,λw=>by go_simp⟩,λw=>by first|rfl|go_simp⟩ ?_
        try (simp only [Act.put,qA,qB,qC,qD,qE,qF])
        refine wpAnyIn_take (i:=18) (oi:=_) (v:=(.pointer (some ⟨db,do0+i*6+2,none⟩))) rfl rfl (by kernel_rfl) (by kernel_rfl) (by kernel_rfl) (λ_ _ _ h=>h) ⟨Or.inl ⟨by rfl,λw=>by go_simp⟩,λw=>by first|rfl|go_simp⟩ ?_
        try (simp only [Act.put,qA,qB,qC,qD,qE,qF])
        refine wpAnyIn_ready (rs:=[11]) (by kernel_rfl) (by simp) ?_;refine AllReadyIn.cons (o:=_) rfl (λK1 hK=>?_) AllReadyIn.nil;go_simp;refine hK _ _ ?_;clear hK
        try (simp only [Act.put,qA,qB,qC,qD,qE,qF])
        refine wpAnyIn_ready (rs:=[19]) (by kernel_rfl) (by simp) ?_;refine AllReadyIn.cons (o:=_) rfl (λK1 hK=>?_) AllReadyIn.nil;go_simp;refine RoundIn.mono (RoundIn.anyDepth rfl hD.out) ?_;rintro e W3 (⟨t2,rfl,h2⟩|⟨rfl,hp⟩)
        rotate_left
        ·exact ⟨rfl,Or.inr ⟨rfl,hp⟩⟩
        refine hK _ _ ?_;clear hK hE hD cy2 ck2 cs2
        try (simp only [Act.put,qA,qB,qC,qD,qE,qF])
        cases t2 with
        | false =>
         refine wpAnyIn_take (i:=20) (oi:=_) (v:=.bool true) rfl rfl (by kernel_rfl) (by kernel_rfl) (by kernel_rfl) (λ_ _ _ h=>h) ⟨Or.inl ⟨by rfl,λw=>by go_simp⟩,λw=>by first|rfl|go_simp⟩ ?_
         try (simp only [Act.put,qA,qB,qC,qD,qE,qF])
         refine wpAnyIn_take (i:=21) (oi:=_) (v:=.bool true) rfl rfl (by kernel_rfl) (by kernel_rfl) (by kernel_rfl) (λ_ _ _ h=>h) ⟨Or.inl ⟨by rfl,λw=>by go_simp⟩,λw=>by first|rfl|go_simp⟩ ?_
         try (simp only [Act.put,qA,qB,qC,qD,qE,qF])
         refine wpAnyIn_done (by kernel_rfl) ?_ _;gi_wp2_with fail
         first|go_end0|refine bodyPost_ret (results_none rfl _ _ _) rfl ?_
         have hx:Jx W3:=by
          rcases h2.out with ⟨q1,_⟩|⟨_,q2⟩
          ·cases q1
          ·exact q2
         exact Or.inl ⟨_,rfl,Or.inr hx⟩
        | true =>
         refine wpAnyIn_take (i:=20) (oi:=_) (v:=.bool false) rfl rfl (by kernel_rfl) (by kernel_rfl) (by kernel_rfl) (λ_ _ _ h=>h) ⟨Or.inl ⟨by rfl,λw=>by go_simp⟩,λw=>by first|rfl|go_simp⟩ ?_
         try (simp only [Act.put,qA,qB,qC,qD,qE,qF])
         refine wpAnyIn_take (i:=21) (oi:=_) (v:=.bool false) rfl rfl (by kernel_rfl) (by kernel_rfl) (by kernel_rfl) (λ_ _ _ h=>h) ⟨Or.inl ⟨by rfl,λw=>by go_simp⟩,λw=>by first|rfl|go_simp⟩ ?_
         try (simp only [Act.put,qA,qB,qC,qD,qE,qF])
         refine wpAnyIn_done (by kernel_rfl) ?_ _
         obtain ⟨hC,hB⟩:J (pre0++q++[(⟨db,do0+i*6,1,d.rn⟩:RefL)]++[(⟨db,do0+i*6+2,2,d.pn⟩:RefL)]) W3∧Beyond B0 W2 W3:=by
          rcases h2.out with ⟨_,q1,q2⟩|⟨q1,_⟩
          ·exact ⟨q1,q2⟩
          ·cases q1
         have hF:=qh hC;have hG:=qh (hO.out.trans hB);have hI:=qh (hQ.out.keep hB);clear h2 hC hB;gi_wp2_with fail;go_roundw
         case rel=>exact ⟨i+1,r,q++[(⟨db,do0+i*6,1,d.rn⟩:RefL),(⟨db,do0+i*6+2,2,d.pn⟩:RefL)],by go_num,by omega,qh (by rw [hq.out];simp only [An];rw [Nat.add_mul,Nat.one_mul,← Nat.add_assoc];simp),qh (by have:=hF.out;simpa [List.append_assoc] using this),hI,hG⟩
         case measure=>simp [intOf];omega
    ·skip
     go_simp;refine hK _ _ ?_;clear hK
     try (simp only [Act.put,qA,qB,qC,qD,qE,qF])
     refine wpAnyIn_take (i:=6) (oi:=_) (v:=(.pointer (some ⟨db,do0+i*6,none⟩))) rfl rfl (by kernel_rfl) (by kernel_rfl) (by kernel_rfl) (λ_ _ _ h=>h) ⟨Or.inl ⟨by rfl,λw=>by go_simp⟩,λw=>by first|rfl|go_simp⟩ ?_
     try (simp only [Act.put,qA,qB,qC,qD,qE,qF])
     refine wpAnyIn_take (i:=7) (oi:=_) (v:=(.pointer (some ⟨db,do0+i*6,none⟩))) rfl rfl (by kernel_rfl) (by kernel_rfl) (by kernel_rfl) (λ_ _ _ h=>h) ⟨Or.inl ⟨by rfl,λw=>by go_simp⟩,λw=>by first|rfl|go_simp⟩ ?_
     try (simp only [Act.put,qA,qB,qC,qD,qE,qF])
     refine wpAnyIn_ready (rs:=[0]) (by kernel_rfl) (by simp) ?_;refine AllReadyIn.cons (o:=_) rfl (λK1 hK=>?_) AllReadyIn.nil;go_simp;refine hK _ _ ?_;clear hK
     try (simp only [Act.put,qA,qB,qC,qD,qE,qF])
     refine wpAnyIn_ready (rs:=[8]) (by kernel_rfl) (by simp) ?_;refine AllReadyIn.cons (o:=_) rfl (λK1 hK=>?_) AllReadyIn.nil;go_simp;refine RoundIn.mono (RoundIn.anyDepth rfl hT.out) ?_;rintro e W2 (⟨t1,rfl,h1⟩|⟨rfl,hp⟩)
     rotate_left
     ·exact ⟨rfl,Or.inr ⟨rfl,hp⟩⟩
     refine hK _ _ ?_;clear hK hV hT cy ck cs
     try (simp only [Act.put,qA,qB,qC,qD,qE,qF])
     cases t1 with
     | false =>
      refine wpAnyIn_take (i:=9) (oi:=_) (v:=.bool true) rfl rfl (by kernel_rfl) (by kernel_rfl) (by kernel_rfl) (λ_ _ _ h=>h) ⟨Or.inl ⟨by rfl,λw=>by go_simp⟩,λw=>by first|rfl|go_simp⟩ ?_
      try (simp only [Act.put,qA,qB,qC,qD,qE,qF])
      refine wpAnyIn_take (i:=10) (oi:=_) (v:=.bool true) rfl rfl (by kernel_rfl) (by kernel_rfl) (by kernel_rfl) (λ_ _ _ h=>h) ⟨Or.inl ⟨by rfl,λw=>by go_simp⟩,λw=>by first|rfl|go_simp⟩ ?_
      try (simp only [Act.put,qA,qB,qC,qD,qE,qF])
      refine wpAnyIn_take (i:=11) (oi:=_) (v:=undef) rfl rfl (by kernel_rfl) (by kernel_rfl) (by kernel_rfl) (λ_ _ _ h=>h) ⟨Or.inr ⟨by rfl,rfl⟩,λw=>by first|rfl|go_simp⟩ ?_
      try (simp only [Act.put,qA,qB,qC,qD,qE,qF])
      refine wpAnyIn_take (i:=12) (oi:=_) (v:=undef) rfl rfl (by kernel_rfl) (by kernel_rfl) (by kernel_rfl) (λ_ _ _ h=>h) ⟨Or.inr ⟨by rfl,rfl⟩,λw=>by first|rfl|go_simp⟩ ?_
      try (simp only [Act.put,qA,qB,qC,qD,qE,qF])
      refine wpAnyIn_take (i:=13) (oi:=_) (v:=undef) rfl rfl (by kernel_rfl) (by kernel_rfl) (by kernel_rfl) (λ_ _ _ h=>h) ⟨Or.inr ⟨by rfl,rfl⟩,λw=>by first|rfl|go_simp⟩ ?_
      try (simp only [Act.put,qA,qB,qC,qD,qE,qF])
      refine wpAnyIn_take (i:=14) (oi:=_) (v:=undef) rfl rfl (by kernel_rfl) (by kernel_rfl) (by kernel_rfl) (λ_ _ _ h=>h) ⟨Or.inr ⟨by rfl,rfl⟩,λw=>by first|rfl|go_simp⟩ ?_
      try (simp only [Act.put,qA,qB,qC,qD,qE,qF])
      refine wpAnyIn_take (i:=15) (oi:=_) (v:=undef) rfl rfl (by kernel_rfl) (by kernel_rfl) (by kernel_rfl) (λ_ _ _ h=>h) ⟨Or.inr ⟨by rfl,rfl⟩,λw=>by first|rfl|go_simp⟩ ?_
      try (simp only [Act.put,qA,qB,qC,qD,qE,qF])
      refine wpAnyIn_take (i:=16) (oi:=_) (v:=undef) rfl rfl (by kernel_rfl) (by kernel_rfl) (by kernel_rfl) (λ_ _ _ h=>h) ⟨Or.inr ⟨by rfl,rfl⟩,λw=>by first|rfl|go_simp⟩ ?_
      try (simp only [Act.put,qA,qB,qC,qD,qE,qF])
      refine wpAnyIn_take (i:=17) (oi:=_) (v:=undef) rfl rfl (by kernel_rfl) (by kernel_rfl) (by kernel_rfl) (λ_ _ _ h=>h) ⟨Or.inr ⟨by rfl,rfl⟩,λw=>by first|rfl|go_simp⟩ ?_
      try (simp only [Act.put,qA,qB,qC,qD,qE,qF])
      refine wpAnyIn_take (i:=18) (oi:=_) (v:=undef) rfl rfl (by kernel_rfl) (by kernel_rfl) (by kernel_rfl) (λ_ _ _ h=>h) ⟨Or.inr ⟨by rfl,rfl⟩,λw=>by first|rfl|go_simp⟩ ?_
      try (simp only [Act.put,qA,qB,qC,qD,qE,qF])
      refine wpAnyIn_take (i:=19) (oi:=_) (v:=undef) rfl rfl (by kernel_rfl) (by kernel_rfl) (by kernel_rfl) (λ_ _ _ h=>h) ⟨Or.inr ⟨by rfl,rfl⟩,λw=>by first|rfl|go_simp⟩ ?_
      try (simp only [Act.put,qA,qB,qC,qD,qE,qF])
      refine wpAnyIn_take (i:=20) (oi:=_) (v:=undef) rfl rfl (by kernel_rfl) (by kernel_rfl) (by kernel_rfl) (λ_ _ _ h=>h) ⟨Or.inr ⟨by rfl,rfl⟩,λw=>by first|rfl|go_simp⟩ ?_
      try (simp only [Act.put,qA,qB,qC,qD,qE,qF])
      refine wpAnyIn_take (i:=21) (oi:=_) (v:=.bool true) rfl rfl (by kernel_rfl) (by kernel_rfl) (by kernel_rfl) (λ_ _ _ h=>h) ⟨Or.inl ⟨by rfl,λw=>by go_simp⟩,λw=>by first|rfl|go_simp⟩ ?_
      try (simp only [Act.put,qA,qB,qC,qD,qE,qF])
      refine wpAnyIn_done (by kernel_rfl) ?_ _;gi_wp2_with fail
      first|go_end0|refine bodyPost_ret (results_none rfl _ _ _) rfl ?_
      have hx:Jx W2:=by
       rcases h1.out with ⟨q1,_⟩|⟨_,q2⟩
       ·cases q1
       ·exact q2
      exact Or.inl ⟨_,rfl,Or.inr hx⟩
     | true =>
      obtain ⟨hL,hN⟩:J (pre0++q++[(⟨db,do0+i*6,1,d.rn⟩:RefL)]) W2∧Beyond B0 wr W2:=by
       rcases h1.out with ⟨_,q1,q2⟩|⟨q1,_⟩
       ·exact ⟨q1,hd.out.trans q2⟩
       ·cases q1
      have hh:=qh hL;have hO:=qh (ha.out.trans hN);have hP:=hY.out.keep hN;clear h1;obtain ⟨ck2,_,cs2,_⟩:=hM.out _ (HH.out.rd _ _ hL);have cy2:=cell_of_one hP.by_;obtain ⟨fn2,tm2,as2,bo2,hE,hS⟩:=HH.out.one hc.out hL (Below.refl W2.heap.size W2) 9;unfold GA at hE;rw [show ((2:Nat):Int)=2 from rfl] at hE;have hD:=qh hS;have hQ:=qh hP;clear hS hL hN hP;refine wpAnyIn_take (i:=9) (oi:=_) (v:=.bool false) rfl rfl (by kernel_rfl) (by kernel_rfl) (by kernel_rfl) (λ_ _ _ h=>h) ⟨Or.inl ⟨by rfl,λw=>by go_simp⟩,λw=>by first|rfl|go_simp⟩ ?_
      try (simp only [Act.put,qA,qB,qC,qD,qE,qF])
      refine wpAnyIn_take (i:=10) (oi:=_) (v:=.bool false) rfl rfl (by kernel_rfl) (by kernel_rfl) (by kernel_rfl) (λ_ _ _ h=>h) ⟨Or.inl ⟨by rfl,λw=>by go_simp⟩,λw=>by first|rfl|go_simp⟩ ?_
      try (simp only [Act.put,qA,qB,qC,qD,qE,qF])
      refine wpAnyIn_take (i:=16) (oi:=_) (v:=int i64 (i:Int)) rfl rfl (by kernel_rfl) (by kernel_rfl) (by kernel_rfl) (λ_ _ _ h=>h) ⟨Or.inl ⟨by rfl,λw=>by go_simp⟩,λw=>by first|rfl|go_simp⟩ ?_
      try (simp only [Act.put,qA,qB,qC,qD,qE,qF])
      refine wpAnyIn_ready (rs:=[11,12]) (by kernel_rfl) (by simp) ?_;refine AllReadyIn.cons (o:=_) rfl (λK1 hK=>?_) (AllReadyIn.cons (o:=_) rfl (λK2 hK=>?_) AllReadyIn.nil)
      ·skip
       go_simp;refine hK _ _ ?_;clear hK
       try (simp only [Act.put,qA,qB,qC,qD,qE,qF])
       refine wpAnyIn_ready (rs:=[12]) (by kernel_rfl) (by simp) ?_;refine AllReadyIn.cons (o:=_) rfl (λK1 hK=>?_) AllReadyIn.nil;go_simp;refine hK _ _ ?_;clear hK
       try (simp only [Act.put,qA,qB,qC,qD,qE,qF])
       refine wpAnyIn_take (i:=13) (oi:=_) (v:=(.pointer (some ⟨S,0,none⟩))) rfl rfl (by kernel_rfl) (by kernel_rfl) (by kernel_rfl) (λ_ _ _ h=>h) ⟨Or.inl ⟨by rfl,λw=>by go_simp⟩,λw=>by first|rfl|go_simp⟩ ?_
       try (simp only [Act.put,qA,qB,qC,qD,qE,qF])
       refine wpAnyIn_take (i:=14) (oi:=_) (v:=(.pointer (some ⟨S,11,none⟩))) rfl rfl (by kernel_rfl) (by kernel_rfl) (by kernel_rfl) (λ_ _ _ h=>h) ⟨Or.inl ⟨by rfl,λw=>by go_simp⟩,λw=>by first|rfl|go_simp⟩ ?_
       try (simp only [Act.put,qA,qB,qC,qD,qE,qF])
       refine wpAnyIn_ready (rs:=[15]) (by kernel_rfl) (by simp) ?_;refine AllReadyIn.cons (o:=_) rfl (λK1 hK=>?_) AllReadyIn.nil;go_simp;refine hK _ _ ?_;clear hK
       try (simp only [Act.put,qA,qB,qC,qD,qE,qF])
       refine wpAnyIn_take (i:=17) (oi:=_) (v:=(.pointer (some ⟨db,do0+i*6,none⟩))) rfl rfl (by kernel_rfl) (by kernel_rfl) (by kernel_rfl) (λ_ _ _ h=>h) ⟨Or.inl ⟨by rfl,λw=>by go_simp⟩,λw=>by first|rfl|go_simp⟩ ?_
       try (simp only [Act.put,qA,qB,qC,qD,qE,qF])
       refine wpAnyIn_take (i:=18) (oi:=_) (v:=(.pointer (some ⟨db,do0+i*6+2,none⟩))) rfl rfl (by kernel_rfl) (by kernel_rfl) (by kernel_rfl) (λ_ _ _ h=>h) ⟨Or.inl ⟨by rfl,λw=>by go_simp⟩,λw=>by first|rfl|go_simp⟩ ?_
       try (simp only [Act.put,qA,qB,qC,qD,qE,qF])
       refine wpAnyIn_ready (rs:=[19]) (by kernel_rfl) (by simp) ?_;refine AllReadyIn.cons (o:=_) rfl (λK1 hK=>?_) AllReadyIn.nil;go_simp;refine RoundIn.mono (RoundIn.anyDepth rfl hD.out) ?_;rintro e W3 (⟨t2,rfl,h2⟩|⟨rfl,hp⟩)
       rotate_left
       ·exact ⟨rfl,Or.inr ⟨rfl,hp⟩⟩
       refine hK _ _ ?_;clear hK hE hD cy2 ck2 cs2
       try (simp only [Act.put,qA,qB,qC,qD,qE,qF])
       cases t2 with
       | false =>
        refine wpAnyIn_take (i:=20) (oi:=_) (v:=.bool true) rfl rfl (by kernel_rfl) (by kernel_rfl) (by kernel_rfl) (λ_ _ _ h=>h) ⟨Or.inl ⟨by rfl,λw=>by go_simp⟩,λw=>by first|rfl|go_simp⟩ ?_
        try (simp only [Act.put,qA,qB,qC,qD,qE,qF])
        refine wpAnyIn_take (i:=21) (oi:=_) (v:=.bool true) rfl rfl (by kernel_rfl) (by kernel_rfl) (by kernel_rfl) (λ_ _ _ h=>h) ⟨Or.inl ⟨by rfl,λw=>by go_simp⟩,λw=>by first|rfl|go_simp⟩ ?_
        try (simp only [Act.put,qA,qB,qC,qD,qE,qF])
        refine wpAnyIn_done (by kernel_rfl) ?_ _;gi_wp2_with fail
        first|go_end0|refine bodyPost_ret (results_none rfl _ _ _) rfl ?_
        have hx:Jx W3:=by
         rcases h2.out with ⟨q1,_⟩|⟨_,q2⟩
         ·cases q1
         ·exact q2
        exact Or.inl ⟨_,rfl,Or.inr hx⟩
       | true =>
        refine wpAnyIn_take (i:=20) (oi:=_) (v:=.bool false) rfl rfl (by kernel_rfl) (by kernel_rfl) (by kernel_rfl) (λ_ _ _ h=>h) ⟨Or.inl ⟨by rfl,λw=>by go_simp⟩,λw=>by first|rfl|go_simp⟩ ?_
        try (simp only [Act.put,qA,qB,qC,qD,qE,qF])
        refine wpAnyIn_take (i:=21) (oi:=_) (v:=.bool false) rfl rfl (by kernel_rfl) (by kernel_rfl) (by kernel_rfl) (λ_ _ _ h=>h) ⟨Or.inl ⟨by rfl,λw=>by go_simp⟩,λw=>by first|rfl|go_simp⟩ ?_
        try (simp only [Act.put,qA,qB,qC,qD,qE,qF])
        refine wpAnyIn_done (by kernel_rfl) ?_ _
        obtain ⟨hC,hB⟩:J (pre0++q++[(⟨db,do0+i*6,1,d.rn⟩:RefL)]++[(⟨db,do0+i*6+2,2,d.pn⟩:RefL)]) W3∧Beyond B0 W2 W3:=by
         rcases h2.out with ⟨_,q1,q2⟩|⟨q1,_⟩
         ·exact ⟨q1,q2⟩
         ·cases q1
        have hF:=qh hC;have hG:=qh (hO.out.trans hB);have hI:=qh (hQ.out.keep hB);clear h2 hC hB;gi_wp2_with fail;go_roundw
        case rel=>exact ⟨i+1,r,q++[(⟨db,do0+i*6,1,d.rn⟩:RefL),(⟨db,do0+i*6+2,2,d.pn⟩:RefL)],by go_num,by omega,qh (by rw [hq.out];simp only [An];rw [Nat.add_mul,Nat.one_mul,← Nat.add_assoc];simp),qh (by have:=hF.out;simpa [List.append_assoc] using this),hI,hG⟩
        case measure=>simp [intOf];omega
      ·skip
       go_simp;refine hK _ _ ?_;clear hK
       try (simp only [Act.put,qA,qB,qC,qD,qE,qF])
       refine wpAnyIn_take (i:=13) (oi:=_) (v:=(.pointer (some ⟨S,0,none⟩))) rfl rfl (by kernel_rfl) (by kernel_rfl) (by kernel_rfl) (λ_ _ _ h=>h) ⟨Or.inl ⟨by rfl,λw=>by go_simp⟩,λw=>by first|rfl|go_simp⟩ ?_
       try (simp only [Act.put,qA,qB,qC,qD,qE,qF])
       refine wpAnyIn_take (i:=14) (oi:=_) (v:=(.pointer (some ⟨S,11,none⟩))) rfl rfl (by kernel_rfl) (by kernel_rfl) (by kernel_rfl) (λ_ _ _ h=>h) ⟨Or.inl ⟨by rfl,λw=>by go_simp⟩,λw=>by first|rfl|go_simp⟩ ?_
       try (simp only [Act.put,qA,qB,qC,qD,qE,qF])
       refine wpAnyIn_ready (rs:=[11,15]) (by kernel_rfl) (by simp) ?_;refine AllReadyIn.cons (o:=_) rfl (λK1 hK=>?_) (AllReadyIn.cons (o:=_) rfl (λK2 hK=>?_) AllReadyIn.nil)
       ·skip
        go_simp;refine hK _ _ ?_;clear hK
        try (simp only [Act.put,qA,qB,qC,qD,qE,qF])
        refine wpAnyIn_ready (rs:=[15]) (by kernel_rfl) (by simp) ?_;refine AllReadyIn.cons (o:=_) rfl (λK1 hK=>?_) AllReadyIn.nil;go_simp;refine hK _ _ ?_;clear hK
        try (simp only [Act.put,qA,qB,qC,qD,qE,qF])
        refine wpAnyIn_take (i:=17) (oi:=_) (v:=(.pointer (some ⟨db,do0+i*6,none⟩))) rfl rfl (by kernel_rfl) (by kernel_rfl) (by kernel_rfl) (λ_ _ _ h=>h) ⟨Or.inl ⟨by rfl,λw=>by go_simp⟩,λw=>by first|rfl|go_simp⟩ ?_
        try (simp only [Act.put,qA,qB,qC,qD,qE,qF])
        refine wpAnyIn_take (i:=18) (oi:=_) (v:=(.pointer (some ⟨db,do0+i*6+2,none⟩))) rfl rfl (by kernel_rfl) (by kernel_rfl) (by kernel_rfl) (λ_ _ _ h=>h) ⟨Or.inl ⟨by rfl,λw=>by go_simp⟩,λw=>by first|rfl|go_simp⟩ ?_
        try (simp only [Act.put,qA,qB,qC,qD,qE,qF])
        refine wpAnyIn_ready (rs:=[19]) (by kernel_rfl) (by simp) ?_;refine AllReadyIn.cons (o:=_) rfl (λK1 hK=>?_) AllReadyIn.nil;go_simp;refine RoundIn.mono (RoundIn.anyDepth rfl hD.out) ?_;rintro e W3 (⟨t2,rfl,h2⟩|⟨rfl,hp⟩)
        rotate_left
        ·exact ⟨rfl,Or.inr ⟨rfl,hp⟩⟩
        refine hK _ _ ?_;clear hK hE hD cy2 ck2 cs2
        try (simp only [Act.put,qA,qB,qC,qD,qE,qF])
        cases t2 with
        | false =>
         refine wpAnyIn_take (i:=20) (oi:=_) (v:=.bool true) rfl rfl (by kernel_rfl) (by kernel_rfl) (by kernel_rfl) (λ_ _ _ h=>h) ⟨Or.inl ⟨by rfl,λw=>by go_simp⟩,λw=>by first|rfl|go_simp⟩ ?_
         try (simp only [Act.put,qA,qB,qC,qD,qE,qF])
         refine wpAnyIn_take (i:=21) (oi:=_) (v:=.bool true) rfl rfl (by kernel_rfl) (by kernel_rfl) (by kernel_rfl) (λ_ _ _ h=>h) ⟨Or.inl ⟨by rfl,λw=>by go_simp⟩,λw=>by first|rfl|go_simp⟩ ?_
         try (simp only [Act.put,qA,qB,qC,qD,qE,qF])
         refine wpAnyIn_done (by kernel_rfl) ?_ _;gi_wp2_with fail
         first|go_end0|refine bodyPost_ret (results_none rfl _ _ _) rfl ?_
         have hx:Jx W3:=by
          rcases h2.out with ⟨q1,_⟩|⟨_,q2⟩
          ·cases q1
          ·exact q2
         exact Or.inl ⟨_,rfl,Or.inr hx⟩
        | true =>
         refine wpAnyIn_take (i:=20) (oi:=_) (v:=.bool false) rfl rfl (by kernel_rfl) (by kernel_rfl) (by kernel_rfl) (λ_ _ _ h=>h) ⟨Or.inl ⟨by rfl,λw=>by go_simp⟩,λw=>by first|rfl|go_simp⟩ ?_
         try (simp only [Act.put,qA,qB,qC,qD,qE,qF])
         refine wpAnyIn_take (i:=21) (oi:=_) (v:=.bool false) rfl rfl (by kernel_rfl) (by kernel_rfl) (by kernel_rfl) (λ_ _ _ h=>h) ⟨Or.inl ⟨by rfl,λw=>by go_simp⟩,λw=>by first|rfl|go_simp⟩ ?_
         try (simp only [Act.put,qA,qB,qC,qD,qE,qF])
         refine wpAnyIn_done (by kernel_rfl) ?_ _
         obtain ⟨hC,hB⟩:J (pre0++q++[(⟨db,do0+i*6,1,d.rn⟩:RefL)]++[(⟨db,do0+i*6+2,2,d.pn⟩:RefL)]) W3∧Beyond B0 W2 W3:=by
          rcases h2.out with ⟨_,q1,q2⟩|⟨q1,_⟩
          ·exact ⟨q1,q2⟩
          ·cases q1
         have hF:=qh hC;have hG:=qh (hO.out.trans hB);have hI:=qh (hQ.out.keep hB);clear h2 hC hB;gi_wp2_with fail;go_roundw
         case rel=>exact ⟨i+1,r,q++[(⟨db,do0+i*6,1,d.rn⟩:RefL),(⟨db,do0+i*6+2,2,d.pn⟩:RefL)],by go_num,by omega,qh (by rw [hq.out];simp only [An];rw [Nat.add_mul,Nat.one_mul,← Nat.add_assoc];simp),qh (by have:=hF.out;simpa [List.append_assoc] using this),hI,hG⟩
         case measure=>simp [intOf];omega
       ·skip
        go_simp;refine hK _ _ ?_;clear hK
        try (simp only [Act.put,qA,qB,qC,qD,qE,qF])
        refine wpAnyIn_take (i:=17) (oi:=_) (v:=(.pointer (some ⟨db,do0+i*6,none⟩))) rfl rfl (by kernel_rfl) (by kernel_rfl) (by kernel_rfl) (λ_ _ _ h=>h) ⟨Or.inl ⟨by rfl,λw=>by go_simp⟩,λw=>by first|rfl|go_simp⟩ ?_
        try (simp only [Act.put,qA,qB,qC,qD,qE,qF])
        refine wpAnyIn_take (i:=18) (oi:=_) (v:=(.pointer (some ⟨db,do0+i*6+2,none⟩))) rfl rfl (by kernel_rfl) (by kernel_rfl) (by kernel_rfl) (λ_ _ _ h=>h) ⟨Or.inl ⟨by rfl,λw=>by go_simp⟩,λw=>by first|rfl|go_simp⟩ ?_
        try (simp only [Act.put,qA,qB,qC,qD,qE,qF])
        refine wpAnyIn_ready (rs:=[11]) (by kernel_rfl) (by simp) ?_;refine AllReadyIn.cons (o:=_) rfl (λK1 hK=>?_) AllReadyIn.nil;go_simp;refine hK _ _ ?_;clear hK
        try (simp only [Act.put,qA,qB,qC,qD,qE,qF])
        refine wpAnyIn_ready (rs:=[19]) (by kernel_rfl) (by simp) ?_;refine AllReadyIn.cons (o:=_) rfl (λK1 hK=>?_) AllReadyIn.nil;go_simp;refine RoundIn.mono (RoundIn.anyDepth rfl hD.out) ?_;rintro e W3 (⟨t2,rfl,h2⟩|⟨rfl,hp⟩)
        rotate_left
        ·exact ⟨rfl,Or.inr ⟨rfl,hp⟩⟩
        refine hK _ _ ?_;clear hK hE hD cy2 ck2 cs2
        try (simp only [Act.put,qA,qB,qC,qD,qE,qF])
        cases t2 with
        | false =>
         refine wpAnyIn_take (i:=20) (oi:=_) (v:=.bool true) rfl rfl (by kernel_rfl) (by kernel_rfl) (by kernel_rfl) (λ_ _ _ h=>h) ⟨Or.inl ⟨by rfl,λw=>by go_simp⟩,λw=>by first|rfl|go_simp⟩ ?_
         try (simp only [Act.put,qA,qB,qC,qD,qE,qF])
         refine wpAnyIn_take (i:=21) (oi:=_) (v:=.bool true) rfl rfl (by kernel_rfl) (by kernel_rfl) (by kernel_rfl) (λ_ _ _ h=>h) ⟨Or.inl ⟨by rfl,λw=>by go_simp⟩,λw=>by first|rfl|go_simp⟩ ?_
         try (simp only [Act.put,qA,qB,qC,qD,qE,qF])
         refine wpAnyIn_done (by kernel_rfl) ?_ _;gi_wp2_with fail
         first|go_end0|refine bodyPost_ret (results_none rfl _ _ _) rfl ?_
         have hx:Jx W3:=by
          rcases h2.out with ⟨q1,_⟩|⟨_,q2⟩
          ·cases q1
          ·exact q2
         exact Or.inl ⟨_,rfl,Or.inr hx⟩
        | true =>
         refine wpAnyIn_take (i:=20) (oi:=_) (v:=.bool false) rfl rfl (by kernel_rfl) (by kernel_rfl) (by kernel_rfl) (λ_ _ _ h=>h) ⟨Or.inl ⟨by rfl,λw=>by go_simp⟩,λw=>by first|rfl|go_simp⟩ ?_
         try (simp only [Act.put,qA,qB,qC,qD,qE,qF])
         refine wpAnyIn_take (i:=21) (oi:=_) (v:=.bool false) rfl rfl (by kernel_rfl) (by kernel_rfl) (by kernel_rfl) (λ_ _ _ h=>h) ⟨Or.inl ⟨by rfl,λw=>by go_simp⟩,λw=>by first|rfl|go_simp⟩ ?_
         try (simp only [Act.put,qA,qB,qC,qD,qE,qF])
         refine wpAnyIn_done (by kernel_rfl) ?_ _
         obtain ⟨hC,hB⟩:J (pre0++q++[(⟨db,do0+i*6,1,d.rn⟩:RefL)]++[(⟨db,do0+i*6+2,2,d.pn⟩:RefL)]) W3∧Beyond B0 W2 W3:=by
          rcases h2.out with ⟨_,q1,q2⟩|⟨q1,_⟩
          ·exact ⟨q1,q2⟩
          ·cases q1
         have hF:=qh hC;have hG:=qh (hO.out.trans hB);have hI:=qh (hQ.out.keep hB);clear h2 hC hB;gi_wp2_with fail;go_roundw
         case rel=>exact ⟨i+1,r,q++[(⟨db,do0+i*6,1,d.rn⟩:RefL),(⟨db,do0+i*6+2,2,d.pn⟩:RefL)],by go_num,by omega,qh (by rw [hq.out];simp only [An];rw [Nat.add_mul,Nat.one_mul,← Nat.add_assoc];simp),qh (by have:=hF.out;simpa [List.append_assoc] using this),hI,hG⟩
         case measure=>simp [intOf];omega
end
end
end Go.Proofs.YtbkemlgfdklpfaaDoor

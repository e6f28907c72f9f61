/- Contracts and plain laws on the way to the statement: part 22. -/
import Derived.Test.YtbkemlgfdklpfaaGreatDoorV21
import Derived.Test.YtbkemlgfdklpfaaGreatDoorV4
set_option linter.unusedVariables false
set_option linter.unusedSimpArgs false
set_option maxRecDepth 100000
set_option maxHeartbeats 16000000
namespace Go.Proofs.YtbkemlgfdklpfaaGreatDoor
open Go.Value (int)
open Go.IntKind (i64)
section
open Go Go.RowKit Go.Shelf
theorem via{G:Prop}(B:Prop)(f:B→G)(b:B):G:=f b
section
variable {F:Fence} {n:Nat} {P:Program} {ops:Array Oper} {Q:Exit→Act→World→Prop} {md:Region.Mode} {fuel:Nat} {listed:Array Bool} {a:Act} {w:World}
theorem tY(i:Nat)(oi:Oper)(v:Value)(hi:ops[i]?=some oi)(hy:Yields P ops oi v a)(hb:∀w,oi.about P w a.eval=none)(h2:(Region.noSelect ops&&Region.free md ops listed i&&(Region.ready md ops listed).contains i)=true)(h3:∀(c:List PanicEntry) (a:Act) (w:World),Q (.panic c) (a.put oi.dst v) w→Q (.panic c) a w)(hr:F.round=none)(h:wpAnyIn F n P md ops Q fuel (listed.setIfInBounds i true) (a.put oi.dst v) w):wpAnyIn F n P md ops Q (fuel+1) listed a w:=by
 rw [Bool.and_eq_true,Bool.and_eq_true] at h2;exact wpAnyIn_take hr hi h2.1.1 h2.1.2 h2.2 h3 ⟨hy,hb⟩ h
theorem tI(i:Nat)(oi:Oper)(v:Value)(hi:ops[i]?=some oi)(hv:∀w,(execOp a.eval oi).run P w=.ok (.value v) w)(h:wpAnyIn F n P md ops Q fuel (listed.setIfInBounds i true) (a.put oi.dst v) w)(hw:Region.wanted oi (yielded ops a.tmps)=true:=by kernel_rfl)(hb:∀w,oi.about P w a.eval=none:=by intro w;first|rfl|go_simp)(h2:(Region.noSelect ops&&Region.free md ops listed i&&(Region.ready md ops listed).contains i)=true:=by kernel_rfl)(h3:∀(c:List PanicEntry) (a:Act) (w:World),Q (.panic c) (a.put oi.dst v) w→Q (.panic c) a w:=by exact λ_ _ _ h=>h)(hr:F.round=none:=by rfl):wpAnyIn F n P md ops Q (fuel+1) listed a w :=
 tY i oi v hi (Or.inl ⟨hw,hv⟩) hb h2 h3 hr h
theorem tS(i:Nat)(oi:Oper)(hi:ops[i]?=some oi)(h:wpAnyIn F n P md ops Q fuel (listed.setIfInBounds i true) (a.put oi.dst undef) w)(hw:Region.wanted oi (yielded ops a.tmps)=false:=by kernel_rfl)(hb:∀w,oi.about P w a.eval=none:=by intro w;first|rfl|go_simp)(h2:(Region.noSelect ops&&Region.free md ops listed i&&(Region.ready md ops listed).contains i)=true:=by kernel_rfl)(h3:∀(c:List PanicEntry) (a:Act) (w:World),Q (.panic c) (a.put oi.dst undef) w→Q (.panic c) a w:=by exact λ_ _ _ h=>h)(hr:F.round=none:=by rfl):wpAnyIn F n P md ops Q (fuel+1) listed a w :=
 tY i oi undef hi (Or.inr ⟨hw,rfl⟩) hb h2 h3 hr h
end
structure FldR(kB S:Nat)(s:Ls)(W:World):Prop where
 box:W.cell? ⟨kB,0,none⟩=some (.pointer (some ⟨S,0,none⟩))
 ph:W.cell? ⟨S,10,none⟩=some (.slice s.fa s.phrases.length s.fc)
 da:W.cell? ⟨S,11,none⟩=some (.slice s.da s.dances.length s.dc)
 phrases:Bk W (blk s.fa) (off s.fa) s.phrases
def U7(L:List RefL)(J:List RefL→World→Prop)(Jx Jp:World→Prop)(ok:Prop)(e:Ending)(W':World):Prop :=
 (∃v,e=.returned v∧((ok∧J L W')∨Jx W'))∨(e=.panicked (Aw 170)∧Jp W')
noncomputable def LD:Code:=(Tryz.f130.body).getD .skip
noncomputable def part74n4:Code:=Ab 4 LD
section
attribute [local go_sem] Oper.semAt_some
theorem Pd(B0 l yB tB kB S:Nat)(J:List RefL→World→Prop)(Jx Jp:World→Prop)(A:List RefL)(ok:Prop)(hS:ok)(Rd:World→Prop)(hH:InH B0 l J Jx Jp A ok Rd)(s:Ls)(hG:∀W,Rd W→FldR kB S s W)
  (hD:s.dances=[]∨s.da=some ⟨blk s.da,off s.da,none⟩) (hL:s.dances.length≤maxLen) (pre0:List RefL) (hA:A=pre0++Ao (blk s.da) (off s.da) s.dances) (W:World) (hW:InW B0 l yB tB W) (hj:J pre0 W)
  (e0 e4 e5 e6 e7 e8 e9 ea eb ec ed ee ef eg eh ei ej ek el em en eo ep eq er es et eu ev ew ex ey ez eA eB eC eD eE eF eG eH eI eJ eK eL eM eN eO eP eQ eR eS eT eU eV:Value) :
  part74n4.wpIn Fence.wide 10 Tryz.prog (bodyPost Tryz.prog Tryz.f130 (U7 A J Jx Jp ok)) { tmps:=#[e0,.pointer (some ⟨kB,0,none⟩),.pointer (some ⟨yB,0,none⟩),.pointer (some ⟨tB,0,none⟩),e4,e5,e6,e7,e8,e9,ea,eb,ec,ed,ee,ef,eg,eh,ei,ej,ek,el,em,en,eo,ep,eq,er,es,et,eu,ev,ew,ex,ey,ez,eA,eB,eC,eD,eE,eF,eG,eH,eI,eJ,eK,eL,eM,eN,eO,eP,eQ,eR,eS,eT,eU,eV],defers:=[] } W:=by
 have hF:∀W,Rd W→W.cell? ⟨kB,0,none⟩=some (.pointer (some ⟨S,0,none⟩))∧W.cell? ⟨S,10,none⟩=some (.slice s.fa s.phrases.length s.fc)∧W.cell? ⟨S,11,none⟩=some (.slice s.da s.dances.length s.dc)∧True:=λW h=>⟨(hG W h).box,(hG W h).ph,(hG W h).da,trivial⟩
 have HH:=qh hH;have hE:=qh hF;have HW:=qh hW;have HJ:=qh hj;have HA:=qh hA;have hb:=qh hS;have HF:=qh hD;clear hH hG hF hW hj hA hS hD;unfold maxLen at hL;have mixed:Tryz.prog.follows .mixedOrders=true:=by kernel_rfl
 obtain ⟨ck,_,cs,_⟩:=hE.out _ (HH.out.rd _ _ HJ.out);generalize hn:s.dances.length=n at *;have HN:=qh hn;clear hn;unfold part74n4 LD
 conv=>arg 4;whnf
 gi_wp2_with fail;clear ck cs;gi_loopw [32] (λiv wr=>∃(i:Nat) (R:List Dan) (q:List RefL),iv=int i64 i∧i+R.length=n∧Hid (Ao (blk s.da) (off s.da) s.dances=q++Ao (blk s.da) (off s.da+i*6) R)∧Hid (J (pre0++q) wr)∧Hid (InW B0 l yB tB wr)∧Hid (Beyond B0 W wr)) (λiv _=>n+1-(intOf iv).toNat)
 case atStart=>exact ⟨0,s.dances,[],rfl,by rw [HN.out];omega,qh (by simp),qh (by simpa using HJ.out),HW,qh (Beyond.refl _ _)⟩
 case round =>
  obtain ⟨i,R,q,rfl,hT,hq,hJ,hU,hc⟩:=hrel
  cases R with
  | nil =>
   simp only [List.length_nil] at hT;obtain rfl:i=n:=by omega
   gi_wp2_with fail;go_end0;refine Or.inl ⟨_,rfl,Or.inl ⟨hb.out,?_⟩⟩;have:=hq.out;simp only [Ao,List.append_nil] at this;rw [HA.out,this];exact hJ.out
  | cons d r =>
   simp only [List.length_cons] at hT;have hi:(i:Int)<(n:Int):=by omega
   have hd:s.da=some ⟨blk s.da,off s.da,none⟩:=HF.out.resolve_left (λe=>by have:=HN.out;rw [e] at this;simp at this;omega)
   have hM:A=(pre0++q)++((⟨blk s.da,off s.da+i*6,1,d.rn⟩:RefL)::((⟨blk s.da,off s.da+i*6+2,2,d.pn⟩:RefL)::Ao (blk s.da) (off s.da+i*6+6) r)):=by
    rw [HA.out,hq.out];simp [Ao]
   generalize ho:blk s.da=db at *;generalize hr:off s.da=do0 at *;generalize hs:s.da=dv at *;subst hd;have he:=qh (show A=(pre0++q++[(⟨db,do0+i*6,1,d.rn⟩:RefL)])++((⟨db,do0+i*6+2,2,d.pn⟩:RefL)::Ao db (do0+i*6+6) r) by rw [hM];simp);obtain ⟨ck,_,cs,_⟩:=hE.out wr.drew (HH.out.rd _ _ (HH.out.kept _ _ _ hJ.out (Below.refl wr.heap.size wr).drew));have cy:wr.drew.cell? ⟨yB,0,none⟩=some (.func (.yield l) #[] #[]):=cell_of_one (hU.out.keep (Beyond.of_below (Below.refl _ _).drew)).by_;obtain ⟨fn1,tm1,as1,bo1,hN,hV⟩:=HH.out.one hM hJ.out ((Below.refl wr.heap.size wr).drew) 9;unfold IB at hN;rw [show ((1:Nat):Int)=1 from rfl] at hN;have hX:=qh hV;clear hV hM;gi_wp2_with fail;refine wpIn_region_any mixed ?_;change wpAnyIn _ _ _ _ _ _ _ _ _ wr.drew;have hf:=qh (show Beyond B0 wr wr.drew from Beyond.of_below (Below.refl _ _).drew);generalize wr.drew=V at *;refine tI 5 _ (int i64 (i:Int)) rfl (λw=>by go_simp) ?_
   try simp only [Act.put,qz]
   apply via
   ·intro hB
    refine wpAnyIn_ready (rs:=[0,1]) (by kernel_rfl) (by simp) ?_;refine AllReadyIn.cons (o:=_) rfl (λK1 hK=>?_) (AllReadyIn.cons (o:=_) rfl (λK2 hK=>?_) AllReadyIn.nil)
    ·skip
     go_simp;refine hK _ _ ?_;clear hK
     try simp only [Act.put,qz]
     refine wpAnyIn_ready (rs:=[1]) (by kernel_rfl) (by simp) (AllReadyIn.cons (o:=_) rfl (λK1 hK=>?_) AllReadyIn.nil);go_simp;refine hK _ _ ?_;clear hK
     try simp only [Act.put,qz]
     refine tI 2 _ (.pointer (some ⟨S,0,none⟩)) rfl (λw=>by go_simp) ?_
     try simp only [Act.put,qz]
     refine tI 3 _ (.pointer (some ⟨S,11,none⟩)) rfl (λw=>by go_simp) ?_
     try simp only [Act.put,qz]
     refine wpAnyIn_ready (rs:=[4]) (by kernel_rfl) (by simp) (AllReadyIn.cons (o:=_) rfl (λK1 hK=>?_) AllReadyIn.nil);go_simp;refine hK _ _ ?_;clear hK
     try simp only [Act.put,qz]
     refine tI 6 _ (.pointer (some ⟨db,do0+i*6,none⟩)) rfl (λw=>by go_simp) ?_
     try simp only [Act.put,qz]
     refine tI 7 _ (.pointer (some ⟨db,do0+i*6,none⟩)) rfl (λw=>by go_simp) ?_
     try simp only [Act.put,qz]
     exact hB
    ·skip
     go_simp;refine hK _ _ ?_;clear hK
     try simp only [Act.put,qz]
     refine tI 2 _ (.pointer (some ⟨S,0,none⟩)) rfl (λw=>by go_simp) ?_
     try simp only [Act.put,qz]
     refine tI 3 _ (.pointer (some ⟨S,11,none⟩)) rfl (λw=>by go_simp) ?_
     try simp only [Act.put,qz]
     refine wpAnyIn_ready (rs:=[0,4]) (by kernel_rfl) (by simp) ?_;refine AllReadyIn.cons (o:=_) rfl (λK1 hK=>?_) (AllReadyIn.cons (o:=_) rfl (λK2 hK=>?_) AllReadyIn.nil)
     ·skip
      go_simp;refine hK _ _ ?_;clear hK
      try simp only [Act.put,qz]
      refine wpAnyIn_ready (rs:=[4]) (by kernel_rfl) (by simp) (AllReadyIn.cons (o:=_) rfl (λK1 hK=>?_) AllReadyIn.nil);go_simp;refine hK _ _ ?_;clear hK
      try simp only [Act.put,qz]
      refine tI 6 _ (.pointer (some ⟨db,do0+i*6,none⟩)) rfl (λw=>by go_simp) ?_
      try simp only [Act.put,qz]
      refine tI 7 _ (.pointer (some ⟨db,do0+i*6,none⟩)) rfl (λw=>by go_simp) ?_
      try simp only [Act.put,qz]
      exact hB
     ·skip
      go_simp;refine hK _ _ ?_;clear hK
      try simp only [Act.put,qz]
      refine tI 6 _ (.pointer (some ⟨db,do0+i*6,none⟩)) rfl (λw=>by go_simp) ?_
      try simp only [Act.put,qz]
      refine tI 7 _ (.pointer (some ⟨db,do0+i*6,none⟩)) rfl (λw=>by go_simp) ?_
      try simp only [Act.put,qz]
      refine wpAnyIn_ready (rs:=[0]) (by kernel_rfl) (by simp) (AllReadyIn.cons (o:=_) rfl (λK1 hK=>?_) AllReadyIn.nil);go_simp;refine hK _ _ ?_;clear hK
      try simp only [Act.put,qz]
      exact hB
   refine wpAnyIn_ready (rs:=[8]) (by kernel_rfl) (by simp) (AllReadyIn.cons (o:=_) rfl (λK1 hK=>?_) AllReadyIn.nil);go_simp;refine RoundIn.mono (RoundIn.anyDepth rfl hX.out) ?_;rintro e W2 (⟨t1,rfl,h1⟩|⟨rfl,hp⟩)
   rotate_left
   ·exact ⟨rfl,Or.inr ⟨rfl,hp⟩⟩
   refine hK _ _ ?_;clear hK hN hX cy ck cs
   try simp only [Act.put,qz]
   cases t1 with
   | false =>
    refine tI 9 _ (.bool true) rfl (λw=>by go_simp) ?_
    try simp only [Act.put,qz]
    refine tI 10 _ (.bool true) rfl (λw=>by go_simp) ?_
    try simp only [Act.put,qz]
    refine tS 11 _ rfl ?_
    try simp only [Act.put,qz]
    refine tS 12 _ rfl ?_
    try simp only [Act.put,qz]
    refine tS 13 _ rfl ?_
    try simp only [Act.put,qz]
    refine tS 14 _ rfl ?_
    try simp only [Act.put,qz]
    refine tS 15 _ rfl ?_
    try simp only [Act.put,qz]
    refine tS 16 _ rfl ?_
    try simp only [Act.put,qz]
    refine tS 17 _ rfl ?_
    try simp only [Act.put,qz]
    refine tS 18 _ rfl ?_
    try simp only [Act.put,qz]
    refine tS 19 _ rfl ?_
    try simp only [Act.put,qz]
    refine tS 20 _ rfl ?_
    try simp only [Act.put,qz]
    refine tI 21 _ (.bool true) rfl (λw=>by go_simp) ?_
    try simp only [Act.put,qz]
    refine wpAnyIn_done (by kernel_rfl) ?_ _;gi_wp2_with fail
    first|go_end0|refine bodyPost_ret (results_none rfl _ _ _) rfl ?_
    exact Or.inl ⟨_,rfl,Or.inr (h1.out.elim (λq=>by cases q.1) λq=>q.2)⟩
   | true =>
    obtain ⟨hI,hO⟩:J (pre0++q++[(⟨db,do0+i*6,1,d.rn⟩:RefL)]) W2∧Beyond B0 wr W2:=h1.out.elim (λq=>⟨q.2.1,hf.out.trans q.2.2⟩) λq=>by cases q.1
    have ht:=qh hI;have hg:=qh (hc.out.trans hO);have hP:=hU.out.keep hO;clear h1;obtain ⟨ck2,_,cs2,_⟩:=hE.out _ (HH.out.rd _ _ hI);have cy2:=cell_of_one hP.by_;obtain ⟨fn2,tm2,as2,bo2,hQ,hY⟩:=HH.out.one he.out hI (Below.refl W2.heap.size W2) 9;unfold IB at hQ;rw [show ((2:Nat):Int)=2 from rfl] at hQ;have hZ:=qh hY;have hh:=qh hP;clear hY hI hO hP;refine tI 9 _ (.bool false) rfl (λw=>by go_simp) ?_
    try simp only [Act.put,qz]
    refine tI 10 _ (.bool false) rfl (λw=>by go_simp) ?_
    try simp only [Act.put,qz]
    refine tI 16 _ (int i64 (i:Int)) rfl (λw=>by go_simp) ?_
    try simp only [Act.put,qz]
    apply via
    ·intro hC
     refine wpAnyIn_ready (rs:=[11,12]) (by kernel_rfl) (by simp) ?_;refine AllReadyIn.cons (o:=_) rfl (λK1 hK=>?_) (AllReadyIn.cons (o:=_) rfl (λK2 hK=>?_) AllReadyIn.nil)
     ·skip
      go_simp;refine hK _ _ ?_;clear hK
      try simp only [Act.put,qz]
      refine wpAnyIn_ready (rs:=[12]) (by kernel_rfl) (by simp) (AllReadyIn.cons (o:=_) rfl (λK1 hK=>?_) AllReadyIn.nil);go_simp;refine hK _ _ ?_;clear hK
      try simp only [Act.put,qz]
      refine tI 13 _ (.pointer (some ⟨S,0,none⟩)) rfl (λw=>by go_simp) ?_
      try simp only [Act.put,qz]
      refine tI 14 _ (.pointer (some ⟨S,11,none⟩)) rfl (λw=>by go_simp) ?_
      try simp only [Act.put,qz]
      refine wpAnyIn_ready (rs:=[15]) (by kernel_rfl) (by simp) (AllReadyIn.cons (o:=_) rfl (λK1 hK=>?_) AllReadyIn.nil);go_simp;refine hK _ _ ?_;clear hK
      try simp only [Act.put,qz]
      refine tI 17 _ (.pointer (some ⟨db,do0+i*6,none⟩)) rfl (λw=>by go_simp) ?_
      try simp only [Act.put,qz]
      refine tI 18 _ (.pointer (some ⟨db,do0+i*6+2,none⟩)) rfl (λw=>by go_simp) ?_
      try simp only [Act.put,qz]
      exact hC
     ·skip
      go_simp;refine hK _ _ ?_;clear hK
      try simp only [Act.put,qz]
      refine tI 13 _ (.pointer (some ⟨S,0,none⟩)) rfl (λw=>by go_simp) ?_
      try simp only [Act.put,qz]
      refine tI 14 _ (.pointer (some ⟨S,11,none⟩)) rfl (λw=>by go_simp) ?_
      try simp only [Act.put,qz]
      refine wpAnyIn_ready (rs:=[11,15]) (by kernel_rfl) (by simp) ?_;refine AllReadyIn.cons (o:=_) rfl (λK1 hK=>?_) (AllReadyIn.cons (o:=_) rfl (λK2 hK=>?_) AllReadyIn.nil)
      ·skip
       go_simp;refine hK _ _ ?_;clear hK
       try simp only [Act.put,qz]
       refine wpAnyIn_ready (rs:=[15]) (by kernel_rfl) (by simp) (AllReadyIn.cons (o:=_) rfl (λK1 hK=>?_) AllReadyIn.nil);go_simp;refine hK _ _ ?_;clear hK
       try simp only [Act.put,qz]
       refine tI 17 _ (.pointer (some ⟨db,do0+i*6,none⟩)) rfl (λw=>by go_simp) ?_
       try simp only [Act.put,qz]
       refine tI 18 _ (.pointer (some ⟨db,do0+i*6+2,none⟩)) rfl (λw=>by go_simp) ?_
       try simp only [Act.put,qz]
       exact hC
      ·skip
       go_simp;refine hK _ _ ?_;clear hK
       try simp only [Act.put,qz]
       refine tI 17 _ (.pointer (some ⟨db,do0+i*6,none⟩)) rfl (λw=>by go_simp) ?_
       try simp only [Act.put,qz]
       refine tI 18 _ (.pointer (some ⟨db,do0+i*6+2,none⟩)) rfl (λw=>by go_simp) ?_
       try simp only [Act.put,qz]
       refine wpAnyIn_ready (rs:=[11]) (by kernel_rfl) (by simp) (AllReadyIn.cons (o:=_) rfl (λK1 hK=>?_) AllReadyIn.nil);go_simp;refine hK _ _ ?_;clear hK
       try simp only [Act.put,qz]
       exact hC
    refine wpAnyIn_ready (rs:=[19]) (by kernel_rfl) (by simp) (AllReadyIn.cons (o:=_) rfl (λK1 hK=>?_) AllReadyIn.nil);go_simp;refine RoundIn.mono (RoundIn.anyDepth rfl hZ.out) ?_;rintro e W3 (⟨t2,rfl,h2⟩|⟨rfl,hp⟩)
    rotate_left
    ·exact ⟨rfl,Or.inr ⟨rfl,hp⟩⟩
    refine hK _ _ ?_;clear hK hQ hZ cy2 ck2 cs2
    try simp only [Act.put,qz]
    cases t2 with
    | false =>
     refine tI 20 _ (.bool true) rfl (λw=>by go_simp) ?_
     try simp only [Act.put,qz]
     refine tI 21 _ (.bool true) rfl (λw=>by go_simp) ?_
     try simp only [Act.put,qz]
     refine wpAnyIn_done (by kernel_rfl) ?_ _;gi_wp2_with fail
     first|go_end0|refine bodyPost_ret (results_none rfl _ _ _) rfl ?_
     exact Or.inl ⟨_,rfl,Or.inr (h2.out.elim (λq=>by cases q.1) λq=>q.2)⟩
    | true =>
     refine tI 20 _ (.bool false) rfl (λw=>by go_simp) ?_
     try simp only [Act.put,qz]
     refine tI 21 _ (.bool false) rfl (λw=>by go_simp) ?_
     try simp only [Act.put,qz]
     refine wpAnyIn_done (by kernel_rfl) ?_ _;obtain ⟨ha,hR⟩:J (pre0++q++[(⟨db,do0+i*6,1,d.rn⟩:RefL)]++[(⟨db,do0+i*6+2,2,d.pn⟩:RefL)]) W3∧Beyond B0 W2 W3:=h2.out.elim (λq=>q.2) λq=>by cases q.1
     have hk:=qh ha;have hl:=qh (hg.out.trans hR);have hm:=qh (hh.out.keep hR);clear h2 ha hR;gi_wp2_with fail;go_roundw
     case rel=>exact ⟨i+1,r,q++[(⟨db,do0+i*6,1,d.rn⟩:RefL),(⟨db,do0+i*6+2,2,d.pn⟩:RefL)],by go_num,by omega,qh (by rw [hq.out];simp only [Ao];rw [Nat.add_mul,Nat.one_mul,← Nat.add_assoc];simp),qh (by have:=hk.out;simpa [List.append_assoc] using this),hm,hl⟩
     case measure=>simp [intOf];omega
end
end
end Go.Proofs.YtbkemlgfdklpfaaGreatDoor

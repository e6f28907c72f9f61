/- The walk of the statement: part 1. -/
import Derived.Test.YtpnbpepkoekkoaaGreatZ35
import Derived.Test.YtpnbpepkoekkoaaGreatZ36
import Derived.Test.YtpnbpepkoekkoaaGreatZ27
import Derived.Test.YtpnbpepkoekkoaaGreatZ3
set_option linter.unusedVariables false
set_option linter.unusedSimpArgs false
set_option maxRecDepth 100000
set_option maxHeartbeats 16000000
namespace Go.Proofs.YtpnbpepkoekkoaaGreat
open Go.Value (int)
open Go.IntKind (i64)
section
open Go Go.RowKit Go.Deep
theorem Ha(s:Ls)(ns:List Int)(w:World)(h:LawIn s ns w):Calls Tryz.prog 3 #[s.val] w (λe w'=>e=.returned (.bool true)∧Below w.heap.size w w'):=by
 obtain ⟨W1,hE,gW1,bW1,sW1⟩:=Ag w s.cells 30;obtain ⟨cs,hB⟩:∃cs,s.cells=cs:=⟨_,rfl⟩;have hv:s.val=.agg cs:=by rw [← hB];rfl
 have CS:=TN W1 (λV hV=>h.env _ (Ad bW1 hV));rw [hv];rw [hB] at hE gW1;have HH:=qh h;have hM:=qh hE;have HG:=qh gW1;have HB:=qh bW1;have hN:=qh CS;have hF:Hid (cs.size=12):=qh (by rw [← hB];rfl);have HV:=qh hv;clear h hE gW1 bW1 sW1 hv CS hB;have C6:=λV (hV:Below w.heap.size w V)=>TY s V (HH.out.at_.below hV) HH.out.fit
 have C7:=λV (hV:Below w.heap.size w V)=>Ds s ns V (HH.out.at_.below hV) (HH.out.ns.below hV) (HH.out.env _ hV)
 have C8:=λV (hV:Below w.heap.size w V)=>Lq s ns V (HH.out.at_.below hV) (HH.out.ns.below hV) (λV2 hL=>Ss s ns V2 (HH.out.at_.below (Ad hV hL)) (HH.out.ns.below (Ad hV hL)))
 simp only [HV.out] at C6 C7 C8;have hO:=qh C6;have hP:=qh C7;have hQ:=qh C8;clear C6 C7 C8;go_enter Tryz.func3,Tryz.ntmps3;refine Ae (λK hK=>?_);have HK:=qh hK;clear hK;go_wp2_with fail;rw [hM.out];refine HK.out _ _ ?_;clear HK K
 go_wp2_with (go_at_call 5;refine hN.out.mono ?_;rintro e V ⟨rfl,hv⟩;have H2:=qh (Ah hv HG.out);have hR:=qh (Ad HB.out hv);clear hv);refine wp_region_held (S:=λV=>V.heap[w.heap.size]?=some (.cells cs 30 (0,0))) (by kernel_rfl) ?_;change wpAnyH _ _ _ _ _ _ _ _ V.drew;have hG:V.drew.heap[w.heap.size]?=some (.cells cs 30 (0,0)):=H2.out;have hH:Below w.heap.size w V.drew:=hR.out.drew;generalize V.drew=Wd at *;refine tq 0 _ (.agg cs) rfl (by kernel_rfl) (λ_ _ _ h=>h) (FH (by kernel_rfl) 30 _ rfl w.heap.size rfl 30 cs (0,0) _ (λ_ h=>h) Tryz.underlying30 rfl (by rw [hF.out];kernel_rfl)) hG ?_
 try simp only [Act.put,qA,qB,qC,qD,qE,qF]
 refine tr 1 _ (by kernel_rfl) rfl λK1 hK=>?_
 go_simp;refine (hO.out _ hH).mono ?_;rintro e V3 ⟨bf,rfl,_,hv⟩;have hA:=Ah hv hG;have hC:=Ad hH hv;clear hv hG hH;refine hK.out _ _ hA (λ_=>?_);clear hK K1
 try simp only [Act.put,qA,qB,qC,qD,qE,qF]
 cases bf with
 | false =>
  refine tk 2 _ (.bool true) rfl (λV hb=>by go_simp) hA ?_
  try simp only [Act.put,qA,qB,qC,qD,qE,qF]
  refine tk 3 _ (.bool true) rfl (λV hb=>by go_simp) hA ?_
  try simp only [Act.put,qA,qB,qC,qD,qE,qF]
  refine tq 4 _ undef rfl (by kernel_rfl) (λ_ _ _ h=>h) (Or.inr ⟨by kernel_rfl,rfl⟩) hA ?_
  try simp only [Act.put,qA,qB,qC,qD,qE,qF]
  refine tq 6 _ undef rfl (by kernel_rfl) (λ_ _ _ h=>h) (Or.inr ⟨by kernel_rfl,rfl⟩) hA ?_
  try simp only [Act.put,qA,qB,qC,qD,qE,qF]
  refine tq 5 _ undef rfl (by kernel_rfl) (λ_ _ _ h=>h) (Or.inr ⟨by kernel_rfl,rfl⟩) hA ?_
  try simp only [Act.put,qA,qB,qC,qD,qE,qF]
  refine tq 7 _ undef rfl (by kernel_rfl) (λ_ _ _ h=>h) (Or.inr ⟨by kernel_rfl,rfl⟩) hA ?_
  try simp only [Act.put,qA,qB,qC,qD,qE,qF]
  refine tq 8 _ undef rfl (by kernel_rfl) (λ_ _ _ h=>h) (Or.inr ⟨by kernel_rfl,rfl⟩) hA ?_
  try simp only [Act.put,qA,qB,qC,qD,qE,qF]
  refine tk 9 _ (.bool true) rfl (λV hb=>by go_simp) hA ?_
  try simp only [Act.put,qA,qB,qC,qD,qE,qF]
  refine tk 10 _ (.bool true) rfl (λV hb=>by go_simp) hA ?_
  try simp only [Act.put,qA,qB,qC,qD,qE,qF]
  refine wpAnyH_done (by kernel_rfl) ?_ _;go_wp2_with fail;go_ret;exact ⟨rfl,hC⟩
 | true =>
  refine tk 2 _ (.bool false) rfl (λV hb=>by go_simp) hA ?_
  try simp only [Act.put,qA,qB,qC,qD,qE,qF]
  refine tk 3 _ (.bool false) rfl (λV hb=>by go_simp) hA ?_
  try simp only [Act.put,qA,qB,qC,qD,qE,qF]
  refine tq 4 _ (.agg cs) rfl (by kernel_rfl) (λ_ _ _ h=>h) (FH (by kernel_rfl) 30 _ rfl w.heap.size rfl 30 cs (0,0) _ (λ_ h=>h) Tryz.underlying30 rfl (by rw [hF.out];kernel_rfl)) hA ?_
  try simp only [Act.put,qA,qB,qC,qD,qE,qF]
  refine tq 6 _ (.agg cs) rfl (by kernel_rfl) (λ_ _ _ h=>h) (FH (by kernel_rfl) 30 _ rfl w.heap.size rfl 30 cs (0,0) _ (λ_ h=>h) Tryz.underlying30 rfl (by rw [hF.out];kernel_rfl)) hA ?_
  try simp only [Act.put,qA,qB,qC,qD,qE,qF]
  refine tr 5 _ (by kernel_rfl) rfl λK1 hK=>?_
  go_simp;refine (hP.out _ hC).mono ?_;rintro e V4 ⟨rfl,hv⟩;have hI:=Ah hv hA;have hJ:=Ad hC hv;clear hv hA hC;refine hK.out _ _ hI (λ_=>?_);clear hK K1
  try simp only [Act.put,qA,qB,qC,qD,qE,qF]
  refine tr 7 _ (by kernel_rfl) rfl λK1 hK=>?_
  go_simp;refine (hQ.out _ hJ).mono ?_;rintro e V5 ⟨rfl,hv⟩;have hD:=Ah hv hI;have hS:=Ad hJ hv;clear hv hI hJ;refine hK.out _ _ hD (λ_=>?_);clear hK K1
  try simp only [Act.put,qA,qB,qC,qD,qE,qF]
  refine tk 8 _ (.bool true) rfl (λV hb=>by go_simp) hD ?_
  try simp only [Act.put,qA,qB,qC,qD,qE,qF]
  refine tk 9 _ (.bool true) rfl (λV hb=>by go_simp) hD ?_
  try simp only [Act.put,qA,qB,qC,qD,qE,qF]
  refine tk 10 _ (.bool true) rfl (λV hb=>by go_simp) hD ?_
  try simp only [Act.put,qA,qB,qC,qD,qE,qF]
  refine wpAnyH_done (by kernel_rfl) ?_ _;go_wp2_with fail;go_ret;exact ⟨rfl,hS⟩
end
end Go.Proofs.YtpnbpepkoekkoaaGreat

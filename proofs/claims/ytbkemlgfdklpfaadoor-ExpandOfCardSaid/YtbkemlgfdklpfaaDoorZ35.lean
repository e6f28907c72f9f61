/- Contracts and plain laws on the way to the statement: part 35. -/
import Derived.Test.YtbkemlgfdklpfaaDoorZ34
import Derived.Laws.StructEq
import Derived.Test.YtbkemlgfdklpfaaDoorZ4
set_option autoImplicit true
set_option relaxedAutoImplicit true
set_option linter.unusedVariables false
set_option linter.unusedSimpArgs false
set_option maxRecDepth 100000
set_option maxHeartbeats 16000000
namespace Go.Proofs.YtbkemlgfdklpfaaDoor
open Go.Value (int)
open Go.IntKind (i64)
section
open Go Go.RowKit
theorem Ve:Ab 10 AJ=.seq elem29n10 (Ab 11 AJ):=rfl
theorem Td(E B:Nat)(W:World)(s:Ls)(ns:List Int)(w0:World)(hE:W.heap[E]?=some (.cells #[int i64 0] 35 (0,0)))(hA:w0.heap.size≤E)(hb:Below w0.heap.size w0 W)(h0:Bj s ns=0):
  (Ab 11 AJ).wp Tryd.prog (bodyPostD Tryd.prog Tryd.f23 (IS s ns w0)) { tmps:=#[e0,.pointer (some ⟨B,0,none⟩),.pointer (some ⟨E,0,none⟩),e3,e4,e5,e6,e7,e8,e9,ea,eb,ec,ed,ee,ef,eg,eh,ei,ej,ek,el,em,en,eo,ep,eq,er,es,et,eu,ev,ew,ex,ey,ez,eA,eB,eC,eD,eE,eF,eG,eH,eI,eJ,eK,eL,eM,eN,eO,eP,eQ,eR,eS,eT,eU,eV,eW,eX,eY,eZ,aa,ab,ac,ae,af,ag,ah,ai,aj,ak,al,am,an,ao,ap,aq,ar,au,av,aw,ax,ay,az,aA,aB,aC,aD,aE,aF,aG,aH,aI,aJ,aK,aL,aM,aN,aO,aP,aQ,aR,aS,aT,aU,aV,aW,aX,aY,aZ,ba,bb,bc,bd,be,bf,bg,bh,bi,bj,bk],defers:=[DY E] } W:=by
 have c0:=cell_of_one hE;have f0:=free_of_one hE;have HE:=qh hE;have HB:=qh hb;have H0:=qh h0;clear hE hb h0
 conv=>arg 2;whnf
 go_wp2_with fail;refine Qf _ E _ _ (int i64 0) rfl (cell_of_one (one_setCell HE.out)) ⟨by rw [H0.out],HB.out.setCell (p:=⟨E,0,none⟩) hA _⟩
theorem Dl(E:Nat)(s:Ls)(ns:List Int)(w0 w:World)(hA:w0.heap.size≤E)(hb:Below w0.heap.size w0 w)(hE:w.heap[E]?=some (.cells #[int i64 0] 35 (0,0)))(h0:Bj s ns=180)(t:Array Value)(V:World)(ht:t.getD 2 undef=.pointer (some ⟨E,0,none⟩))(hV:Below w.heap.size w V) :
  bodyPostD Tryd.prog Tryd.f23 (IS s ns w0) (.panic BQ) { tmps:=t,defers:=[DY E] } V :=
 Of t E _ V _ ht (Ah hV hE) λw' hw=>⟨by rw [h0],(Ag hb hV).trans (hw.mono hA)⟩
theorem UH(s:Ls)(ns:List Int)(B E:Nat)(w0 w W:World)(hc:Dk s.strip ns=0)(hs:RgS s (AR s.strip) B w)(hH:NumAt (AR s.strip) w (An (blk s.da) (off s.da) s.dances))(hE:w.heap[E]?=some (.cells #[int i64 0] 35 (0,0)))(hA:w0.heap.size≤E)(hF:Below w0.heap.size w0 w)(hb:Below w.heap.size w W)(hx:s.phrases.all (λp=>p.its.strip.exB)=true)(hr:BK (s.nexts (AR s.strip))=[])(hB:1≤s.bars∧s.bars≤4096)(hC:Bj s ns=if s.dances.all (CY s (AR s.strip) (E1 s.itsL (AR s.strip)))=true then 0 else 180):
  (Ab 9 AJ).wp Tryd.prog (bodyPostD Tryd.prog Tryd.f23 (IS s ns w0)) { tmps:=#[e0,.pointer (some ⟨B,0,none⟩),.pointer (some ⟨E,0,none⟩),e3,e4,e5,e6,e7,e8,e9,ea,eb,ec,ed,ee,ef,eg,eh,ei,ej,ek,el,em,en,eo,ep,eq,er,es,et,eu,ev,ew,ex,ey,ez,eA,eB,eC,eD,eE,eF,eG,eH,eI,eJ,eK,eL,eM,eN,eO,eP,eQ,eR,eS,eT,eU,eV,eW,eX,eY,eZ,aa,ab,ac,ae,af,ag,ah,ai,aj,ak,al,am,an,ao,ap,aq,ar,au,av,aw,ax,ay,az,aA,aB,aC,aD,aE,aF,aG,aH,aI,aJ,aK,aL,aM,aN,aO,aP,aQ,aR,aS,aT,aU,aV,aW,aX,aY,aZ,ba,bb,bc,bd,be,bf,bg,bh,bi,bj,bk],defers:=[DY E] } W:=by
 have hN:=FJ hc;have hG:=Ml hx hr (Ks hc)
 have hI:∀d∈s.dances,∀(B7 KB M SB PB:Nat) (V:World),LenW V s (AR s.strip) B7 KB M SB PB (E1 s.itsL (AR s.strip))→Calls Tryd.prog 65 #[int i64 (AR s.strip d.pn),.pointer (some ⟨KB,0,none⟩),.pointer (some ⟨SB,0,none⟩),.pointer (some ⟨B7,0,none⟩)] V (JI s (AR s.strip) B7 KB M SB PB (E1 s.itsL (AR s.strip)) (E1 s.itsL (AR s.strip) (AR s.strip d.pn)) V):=λd hd B7 KB M SB PB V hV=>by
  obtain ⟨i,hi,hD⟩:=FQ hc hd;rw [hi];exact RN s (AR s.strip) B7 KB M SB PB _ _ hG (by omega) _ i (qn _) hD V hV
 have hJ:∀d∈s.dances,0≤E1 s.itsL (AR s.strip) (AR s.strip d.pn)∧E1 s.itsL (AR s.strip) (AR s.strip d.pn)≤4097:=λd hd=>by
  obtain ⟨i,hi,hD⟩:=FQ hc hd;rw [hi];exact hG.bound i hD
 rw [Sb];refine Ae (λK hK=>?_);have HK:=qh hK;clear hK;refine UA s (AR s.strip) (E1 s.itsL (AR s.strip)) B E w W hs hb [DY E] _ ?_;intro B7 KB M SB PB x0 x3 x4 x5 x6 x8 x9 bl bm bn bo bp bq br bs bt bu bv bw bx bz bA bB bC bD bE bF bG bH bI bJ bK bL bM bN bO bP bQ bR bS bT bU bV bW bY bZ ca cb cc cd ce cf cg ch ci cj ck cm cn co cp cq cr cs ct cu cv cw cx cy cz cA cB cC cD cE cF cG cH cI cJ cK cL cM cN cO cP cQ cR cS cT cU cV cW cX cY cZ db dc dd de df dg dh di dj dk dl dm dn dp dq dr ds dt du dv dw dx V hL hM hV;refine HK.out _ _ ?_;clear HK K;rw [Ve];refine Ae (λK hK=>?_);have HK:=qh hK;clear hK;refine Tc s (AR s.strip) (E1 s.itsL (AR s.strip)) B E B7 KB M SB PB w V hs hV hL hM hH hB (λd hd V hV=>hI d hd B7 KB M SB PB V hV) hJ (by omega) [DY E] _ (λhd x0 x3 x4 x5 x6 x7 x8 x9 bl bm bn bo bp bq br bs bt bu bv bw bx bz bA bB bC bD bE bF bG bH bI bJ bK bL bM bN bO bP bQ bR bS bT bU bV bW bY bZ ca cb cc cd ce cf cg ch ci cj ck cm cn co cp cq cr cs ct cu cv cw cx cy cz cA cB cC cD cE cF cG cH cI cJ cK cL cM cN cO cP cQ cR cS cT cU cV cW cX cY cZ db dc dd de df dg dh di dj dk dl dm dn dp dq dr ds dt du dv dw dx V hV=>?_) (λhd t V ht hV=>?_)
 ·refine HK.out _ _ ?_
  exact Td E B V s ns w0 (Ah hV hE) hA (Ag hF hV) (by rw [hC,if_pos hd])
 ·exact Dl E s ns w0 w hA hF hE (by rw [hC,if_neg (by rw [hd];simp)]) t V ht hV
theorem UG(s:Ls)(ns:List Int)(B E:Nat)(w0 w W:World)(hc:Dk s.strip ns=0)(hs:RgS s (AR s.strip) B w)(hF:NumAt (AR s.strip) w (An (blk s.da) (off s.da) s.dances))(hE:w.heap[E]?=some (.cells #[int i64 0] 35 (0,0)))(hA:w0.heap.size≤E)(hD:Below w0.heap.size w0 w)(hb:Below w.heap.size w W)(hx:s.phrases.all (λp=>p.its.strip.exB)=true)(hB:1≤s.bars∧s.bars≤4096)(hC:Bj s ns=if (decide (BK (s.nexts (AR s.strip))=[])&&s.dances.all (CY s (AR s.strip) (E1 s.itsL (AR s.strip))))=true then 0 else 180):
  (Ab 8 AJ).wp Tryd.prog (bodyPostD Tryd.prog Tryd.f23 (IS s ns w0)) { tmps:=#[e0,.pointer (some ⟨B,0,none⟩),.pointer (some ⟨E,0,none⟩),e3,e4,e5,e6,e7,e8,e9,ea,eb,ec,ed,ee,ef,eg,eh,ei,ej,ek,el,em,en,eo,ep,eq,er,es,et,eu,ev,ew,ex,ey,ez,eA,eB,eC,eD,eE,eF,eG,eH,eI,eJ,eK,eL,eM,eN,eO,eP,eQ,eR,eS,eT,eU,eV,eW,eX,eY,eZ,aa,ab,ac,ae,af,ag,ah,ai,aj,ak,al,am,an,ao,ap,aq,ar,au,av,aw,ax,ay,az,aA,aB,aC,aD,aE,aF,aG,aH,aI,aJ,aK,aL,aM,aN,aO,aP,aQ,aR,aS,aT,aU,aV,aW,aX,aY,aZ,ba,bb,bc,bd,be,bf,bg,bh,bi,bj,bk],defers:=[DY E] } W:=by
 rw [Sa];refine Ae (λK hK=>?_);have HK:=qh hK;clear hK;refine Uz s (AR s.strip) B E w W hs hb (by have:=FJ hc;omega) [DY E] _ (λhd x0 x3 x4 x5 x6 x7 x8 x9 x10 x11 x12 x13 x14 x15 x16 x17 x18 x19 x20 x21 x22 x23 x24 x25 x26 x27 x28 x29 x30 x31 x32 x33 x34 x35 x36 x37 x38 x39 x40 x41 x42 x43 x44 x45 x46 x47 x48 x49 x50 x51 x52 x53 x54 x55 x56 x57 x58 x59 x60 x61 x62 x63 x64 x65 x66 x67 x68 x69 x70 x71 x72 x73 x74 x75 x76 x77 x78 x79 x80 x81 x82 x83 x84 x85 x86 x87 x88 x89 x90 x91 x92 x93 x94 x95 x96 x97 x98 x99 x100 x101 x102 x103 x104 x105 x106 x107 x108 x109 x110 x111 x112 x113 x114 x115 x116 x117 x118 x119 x120 x121 V hV=>?_) (λhd t V ht hV=>?_)
 ·refine HK.out _ _ ?_
  exact UH s ns B E w0 w V hc hs hF hE hA hD hV hx (of_decide_eq_true hd) hB (by rw [hC,hd,Bool.true_and])
 ·exact Dl E s ns w0 w hA hD hE (by rw [hC,hd,Bool.false_and,if_neg (by simp)]) t V ht hV
theorem UF(s:Ls)(ns:List Int)(B E:Nat)(w0 w W:World)(hc:Dk s.strip ns=0)(hs:RgS s (AR s.strip) B w)(hF:NumAt (AR s.strip) w (An (blk s.da) (off s.da) s.dances))(hE:w.heap[E]?=some (.cells #[int i64 0] 35 (0,0)))(hA:w0.heap.size≤E)(hD:Below w0.heap.size w0 w)(hb:Below w.heap.size w W)(hB:1≤s.bars∧s.bars≤4096)(hC:Bj s ns=if (s.phrases.all (λp=>p.its.strip.exB)&&(decide (BK (s.nexts (AR s.strip))=[])&&s.dances.all (CY s (AR s.strip) (E1 s.itsL (AR s.strip)))))=true then 0 else 180):
  (Ab 7 AJ).wp Tryd.prog (bodyPostD Tryd.prog Tryd.f23 (IS s ns w0)) { tmps:=#[e0,.pointer (some ⟨B,0,none⟩),.pointer (some ⟨E,0,none⟩),e3,e4,e5,e6,e7,e8,e9,ea,eb,ec,ed,ee,ef,eg,eh,ei,ej,ek,el,em,en,eo,ep,eq,er,es,et,eu,ev,ew,ex,ey,ez,eA,eB,eC,eD,eE,eF,eG,eH,eI,eJ,eK,eL,eM,eN,eO,eP,eQ,eR,eS,eT,eU,eV,eW,eX,eY,eZ,aa,ab,ac,ae,af,ag,ah,ai,aj,ak,al,am,an,ao,ap,aq,ar,au,av,aw,ax,ay,az,aA,aB,aC,aD,aE,aF,aG,aH,aI,aJ,aK,aL,aM,aN,aO,aP,aQ,aR,aS,aT,aU,aV,aW,aX,aY,aZ,ba,bb,bc,bd,be,bf,bg,bh,bi,bj,bk],defers:=[DY E] } W:=by
 rw [S9];refine Ae (λK hK=>?_);have HK:=qh hK;clear hK;refine Uy s (AR s.strip) B E w W hs hb (by have:=FJ hc;omega) [DY E] _ (λhd x0 x3 x4 x5 x6 x7 x8 x9 x10 x11 x12 x13 x14 x15 x16 x17 x18 x19 x20 x21 x22 x23 x24 x25 x26 x27 x28 x29 x30 x31 x32 x33 x34 x35 x36 x37 x38 x39 x40 x41 x42 x43 x44 x45 x46 x47 x48 x49 x50 x51 x52 x53 x54 x55 x56 x57 x58 x59 x60 x61 x62 x63 x64 x65 x66 x67 x68 x69 x70 x71 x72 x73 x74 x75 x76 x77 x78 x79 x80 x81 x82 x83 x84 x85 x86 x87 x88 x89 x90 x91 x92 x93 x94 x95 x96 x97 x98 x99 x100 x101 x102 x103 x104 x105 x106 x107 x108 x109 x110 x111 x112 x113 x114 x115 x116 x117 x118 x119 x120 x121 V hV=>?_) (λhd t V ht hV=>?_)
 ·refine HK.out _ _ ?_
  exact UG s ns B E w0 w V hc hs hF hE hA hD hV hd hB (by rw [hC,hd,Bool.true_and])
 ·exact Dl E s ns w0 w hA hD hE (by rw [hC,hd,Bool.false_and,if_neg (by simp)]) t V ht hV
theorem UE(s:Ls)(ns:List Int)(B E:Nat)(w0 w W:World)(hc:Dk s.strip ns=0)(hs:RgS s (AR s.strip) B w)(hD:NumAt (AR s.strip) w (An (blk s.da) (off s.da) s.dances))(hE:w.heap[E]?=some (.cells #[int i64 0] 35 (0,0)))(hA:w0.heap.size≤E)(hC:Below w0.heap.size w0 w)(hb:Below w.heap.size w W)(hB:Bj s ns=if (decide (Cb ⟨s.bars,s.tempos,s.pauses,s.spans⟩=0)&&(s.phrases.all (λp=>p.its.strip.exB)&&(decide (BK (s.nexts (AR s.strip))=[])&&s.dances.all (CY s (AR s.strip) (E1 s.itsL (AR s.strip))))))=true then 0 else 180):
  (Ab 6 AJ).wp Tryd.prog (bodyPostD Tryd.prog Tryd.f23 (IS s ns w0)) { tmps:=#[e0,.pointer (some ⟨B,0,none⟩),.pointer (some ⟨E,0,none⟩),e3,e4,e5,e6,e7,e8,e9,ea,eb,ec,ed,ee,ef,eg,eh,ei,ej,ek,el,em,en,eo,ep,eq,er,es,et,eu,ev,ew,ex,ey,ez,eA,eB,eC,eD,eE,eF,eG,eH,eI,eJ,eK,eL,eM,eN,eO,eP,eQ,eR,eS,eT,eU,eV,eW,eX,eY,eZ,aa,ab,ac,ae,af,ag,ah,ai,aj,ak,al,am,an,ao,ap,aq,ar,au,av,aw,ax,ay,az,aA,aB,aC,aD,aE,aF,aG,aH,aI,aJ,aK,aL,aM,aN,aO,aP,aQ,aR,aS,aT,aU,aV,aW,aX,aY,aZ,ba,bb,bc,bd,be,bf,bg,bh,bi,bj,bk],defers:=[DY E] } W:=by
 rw [S8];refine Ae (λK hK=>?_);have HK:=qh hK;clear hK;refine Ux s (AR s.strip) B E w W hs hb [DY E] _ (λhd x0 x3 x4 x5 x6 x7 x8 x9 x10 x11 x12 x13 x14 x15 x16 x17 x18 x19 x20 x21 x22 x23 x24 x25 x26 x27 x28 x29 x30 x31 x32 x33 x34 x35 x36 x37 x38 x39 x40 x41 x42 x43 x44 x45 x46 x47 x48 x49 x50 x51 x52 x53 x54 x55 x56 x57 x58 x59 x60 x61 x62 x63 x64 x65 x66 x67 x68 x69 x70 x71 x72 x73 x74 x75 x76 x77 x78 x79 x80 x81 x82 x83 x84 x85 x86 x87 x88 x89 x90 x91 x92 x93 x94 x95 x96 x97 x98 x99 x100 x101 x102 x103 x104 x105 x106 x107 x108 x109 x110 x111 x112 x113 x114 x115 x116 x117 x118 x119 x120 x121 V hV=>?_) (λhd t V ht hV=>?_)
 ·refine HK.out _ _ ?_
  exact UF s ns B E w0 w V hc hs hD hE hA hC hV (Fm (of_decide_eq_true hd)) (by rw [hB,hd,Bool.true_and])
 ·exact Dl E s ns w0 w hA hC hE (by rw [hB,hd,Bool.false_and,if_neg (by simp)]) t V ht hV
theorem UD(s:Ls)(ns:List Int)(B E:Nat)(w0 w W:World)(hc:Dk s.strip ns=0)(hs:RgS s (AR s.strip) B w)(hD:NumAt (AR s.strip) w (An (blk s.da) (off s.da) s.dances))(hE:w.heap[E]?=some (.cells #[int i64 0] 35 (0,0)))(hA:w0.heap.size≤E)(hC:Below w0.heap.size w0 w)(hb:Below w.heap.size w W)(hB:Bj s ns=if (s.roles.all (Ca s)&&(decide (Cb ⟨s.bars,s.tempos,s.pauses,s.spans⟩=0)&&(s.phrases.all (λp=>p.its.strip.exB)&&(decide (BK (s.nexts (AR s.strip))=[])&&s.dances.all (CY s (AR s.strip) (E1 s.itsL (AR s.strip)))))))=true then 0 else 180):
  (Ab 5 AJ).wp Tryd.prog (bodyPostD Tryd.prog Tryd.f23 (IS s ns w0)) { tmps:=#[e0,.pointer (some ⟨B,0,none⟩),.pointer (some ⟨E,0,none⟩),e3,e4,e5,e6,e7,e8,e9,ea,eb,ec,ed,ee,ef,eg,eh,ei,ej,ek,el,em,en,eo,ep,eq,er,es,et,eu,ev,ew,ex,ey,ez,eA,eB,eC,eD,eE,eF,eG,eH,eI,eJ,eK,eL,eM,eN,eO,eP,eQ,eR,eS,eT,eU,eV,eW,eX,eY,eZ,aa,ab,ac,ae,af,ag,ah,ai,aj,ak,al,am,an,ao,ap,aq,ar,au,av,aw,ax,ay,az,aA,aB,aC,aD,aE,aF,aG,aH,aI,aJ,aK,aL,aM,aN,aO,aP,aQ,aR,aS,aT,aU,aV,aW,aX,aY,aZ,ba,bb,bc,bd,be,bf,bg,bh,bi,bj,bk],defers:=[DY E] } W:=by
 rw [S7];refine Ae (λK hK=>?_);have HK:=qh hK;clear hK;refine Uw s (AR s.strip) B E w W hs hb (by have:=FJ hc;omega) [DY E] _ (λhd x0 x3 x4 x5 x6 x7 x8 x9 x10 x11 x12 x13 x14 x15 x16 x17 x18 x19 x20 x21 x22 x23 x24 x25 x26 x27 x28 x29 x30 x31 x32 x33 x34 x35 x36 x37 x38 x39 x40 x41 x42 x43 x44 x45 x46 x47 x48 x49 x50 x51 x52 x53 x54 x55 x56 x57 x58 x59 x60 x61 x62 x63 x64 x65 x66 x67 x68 x69 x70 x71 x72 x73 x74 x75 x76 x77 x78 x79 x80 x81 x82 x83 x84 x85 x86 x87 x88 x89 x90 x91 x92 x93 x94 x95 x96 x97 x98 x99 x100 x101 x102 x103 x104 x105 x106 x107 x108 x109 x110 x111 x112 x113 x114 x115 x116 x117 x118 x119 x120 x121 V hV=>?_) (λhd t V ht hV=>?_)
 ·refine HK.out _ _ ?_
  exact UE s ns B E w0 w V hc hs hD hE hA hC hV (by rw [hB,hd,Bool.true_and])
 ·exact Dl E s ns w0 w hA hC hE (by rw [hB,hd,Bool.false_and,if_neg (by simp)]) t V ht hV
theorem UC(s:Ls)(ns:List Int)(B E:Nat)(w0 w W:World)(hc:Dk s.strip ns=0)(hs:RgS s (AR s.strip) B w)(hD:NumAt (AR s.strip) w (An (blk s.da) (off s.da) s.dances))(hE:w.heap[E]?=some (.cells #[int i64 0] 35 (0,0)))(hA:w0.heap.size≤E)(hC:Below w0.heap.size w0 w)(hb:Below w.heap.size w W)(hB:Bj s ns=if ((inB s.t0 1 127&&inB s.t1 0 s.t0)&&(s.roles.all (Ca s)&&(decide (Cb ⟨s.bars,s.tempos,s.pauses,s.spans⟩=0)&&(s.phrases.all (λp=>p.its.strip.exB)&&(decide (BK (s.nexts (AR s.strip))=[])&&s.dances.all (CY s (AR s.strip) (E1 s.itsL (AR s.strip))))))))=true then 0 else 180):
  (Ab 4 AJ).wp Tryd.prog (bodyPostD Tryd.prog Tryd.f23 (IS s ns w0)) { tmps:=#[e0,.pointer (some ⟨B,0,none⟩),.pointer (some ⟨E,0,none⟩),e3,e4,e5,e6,e7,e8,e9,ea,eb,ec,ed,ee,ef,eg,eh,ei,ej,ek,el,em,en,eo,ep,eq,er,es,et,eu,ev,ew,ex,ey,ez,eA,eB,eC,eD,eE,eF,eG,eH,eI,eJ,eK,eL,eM,eN,eO,eP,eQ,eR,eS,eT,eU,eV,eW,eX,eY,eZ,aa,ab,ac,ae,af,ag,ah,ai,aj,ak,al,am,an,ao,ap,aq,ar,au,av,aw,ax,ay,az,aA,aB,aC,aD,aE,aF,aG,aH,aI,aJ,aK,aL,aM,aN,aO,aP,aQ,aR,aS,aT,aU,aV,aW,aX,aY,aZ,ba,bb,bc,bd,be,bf,bg,bh,bi,bj,bk],defers:=[DY E] } W:=by
 rw [S6];refine Ae (λK hK=>?_);have HK:=qh hK;clear hK;refine Uv s (AR s.strip) B E w W hs hb [DY E] _ (λhd x0 x3 x4 x5 x6 x7 x8 x9 x10 x11 x12 x13 x14 x15 x16 x17 x18 x19 x20 x21 x22 x23 x24 x25 x26 x27 x28 x29 x30 x31 x32 x33 x34 x35 x36 x37 x38 x39 x40 x41 x42 x43 x44 x45 x46 x47 x48 x49 x50 x51 x52 x53 x54 x55 x56 x57 x58 x59 x60 x61 x62 x63 x64 x65 x66 x67 x68 x69 x70 x71 x72 x73 x74 x75 x76 x77 x78 x79 x80 x81 x82 x83 x84 x85 x86 x87 x88 x89 x90 x91 x92 x93 x94 x95 x96 x97 x98 x99 x100 x101 x102 x103 x104 x105 x106 x107 x108 x109 x110 x111 x112 x113 x114 x115 x116 x117 x118 x119 x120 x121 V hV=>?_) (λhd t V ht hV=>?_)
 ·refine HK.out _ _ ?_
  exact UD s ns B E w0 w V hc hs hD hE hA hC hV (by rw [hB,hd,Bool.true_and])
 ·exact Dl E s ns w0 w hA hC hE (by rw [hB,hd,Bool.false_and,if_neg (by simp)]) t V ht hV
theorem UB(s:Ls)(ns:List Int)(B E:Nat)(w0 w W:World)(hc:Dk s.strip ns=0)(hs:RgS s (AR s.strip) B w)(hD:NumAt (AR s.strip) w (An (blk s.da) (off s.da) s.dances))(hE:w.heap[E]?=some (.cells #[int i64 0] 35 (0,0)))(hA:w0.heap.size≤E)(hC:Below w0.heap.size w0 w)(hb:Below w.heap.size w W)(hB:Bj s ns=if ((inB s.wd 1 1000&&inB s.dp 1 1000)&&((inB s.t0 1 127&&inB s.t1 0 s.t0)&&(s.roles.all (Ca s)&&(decide (Cb ⟨s.bars,s.tempos,s.pauses,s.spans⟩=0)&&(s.phrases.all (λp=>p.its.strip.exB)&&(decide (BK (s.nexts (AR s.strip))=[])&&s.dances.all (CY s (AR s.strip) (E1 s.itsL (AR s.strip)))))))))=true then 0 else 180):
  (Ab 3 AJ).wp Tryd.prog (bodyPostD Tryd.prog Tryd.f23 (IS s ns w0)) { tmps:=#[e0,.pointer (some ⟨B,0,none⟩),.pointer (some ⟨E,0,none⟩),e3,e4,e5,e6,e7,e8,e9,ea,eb,ec,ed,ee,ef,eg,eh,ei,ej,ek,el,em,en,eo,ep,eq,er,es,et,eu,ev,ew,ex,ey,ez,eA,eB,eC,eD,eE,eF,eG,eH,eI,eJ,eK,eL,eM,eN,eO,eP,eQ,eR,eS,eT,eU,eV,eW,eX,eY,eZ,aa,ab,ac,ae,af,ag,ah,ai,aj,ak,al,am,an,ao,ap,aq,ar,au,av,aw,ax,ay,az,aA,aB,aC,aD,aE,aF,aG,aH,aI,aJ,aK,aL,aM,aN,aO,aP,aQ,aR,aS,aT,aU,aV,aW,aX,aY,aZ,ba,bb,bc,bd,be,bf,bg,bh,bi,bj,bk],defers:=[DY E] } W:=by
 rw [S5];refine Ae (λK hK=>?_);have HK:=qh hK;clear hK;refine Uu s (AR s.strip) B E w W hs hb [DY E] _ (λhd x0 x3 x4 x5 x6 x7 x8 x9 x10 x11 x12 x13 x14 x15 x16 x17 x18 x19 x20 x21 x22 x23 x24 x25 x26 x27 x28 x29 x30 x31 x32 x33 x34 x35 x36 x37 x38 x39 x40 x41 x42 x43 x44 x45 x46 x47 x48 x49 x50 x51 x52 x53 x54 x55 x56 x57 x58 x59 x60 x61 x62 x63 x64 x65 x66 x67 x68 x69 x70 x71 x72 x73 x74 x75 x76 x77 x78 x79 x80 x81 x82 x83 x84 x85 x86 x87 x88 x89 x90 x91 x92 x93 x94 x95 x96 x97 x98 x99 x100 x101 x102 x103 x104 x105 x106 x107 x108 x109 x110 x111 x112 x113 x114 x115 x116 x117 x118 x119 x120 x121 V hV=>?_) (λhd t V ht hV=>?_)
 ·refine HK.out _ _ ?_
  exact UC s ns B E w0 w V hc hs hD hE hA hC hV (by rw [hB,hd,Bool.true_and])
 ·exact Dl E s ns w0 w hA hC hE (by rw [hB,hd,Bool.false_and,if_neg (by simp)]) t V ht hV
theorem G9(s:Ls)(ns:List Int)(w:World)(hA:s.At w)(hN:NsAt w s.refs ns)(he:Env w):Calls Tryd.prog 23 #[s.val] w (IS s ns w):=by
 have hX:∀(fn:Fn) (first cap:Array Value) (w:World),(Instr.makeFunc fn first cap).run Tryd.prog w=.ok (.func fn first cap) w:=λ_ _ _ _=>rfl
 obtain ⟨W0,hH,gB,b0,s0⟩:=Af w s.cells 55;obtain ⟨W1,hM,gE,b1,s1⟩:=Af W0 #[int i64 0] 35;have b01:=Ag b0 b1;have C:=QX s ns W1 (hA.below b01) (hN.below b01) (he.below b01);have gB1:=Ah b1 gB
 -- behind names.Check
 have hO:∀V c,Below W1.heap.size W1 V→∃V2,V.setCell ⟨W0.heap.size,0,none⟩ (int i64 c)=V2∧V2.heap[W0.heap.size]?=some (.cells #[int i64 c] 35 (0,0))∧V2.heap[w.heap.size]?=some (.cells s.cells 55 (0,0))∧Below w.heap.size w V2:=λV c hV =>
  ⟨_,rfl,one_setCell (Ah hV gE),by rw [Bd _ (by omega)];exact Ah hV gB1,((Ag b01 hV)).setCell (p:=⟨W0.heap.size,0,none⟩) (by show w.heap.size≤W0.heap.size;omega) _⟩
 have hC:w.heap.size≤W0.heap.size:=by omega
 have hv:s.val=.agg s.cells:=rfl;rw [hv];have HX:=qh gB1;have HC:=qh C;have hP:=qh hO;have HA:=qh hA;have HN:=qh hN;have hU:=qh hM;have hF:=qh gE;have hY:=qh hH;have hQ:=qh hC;unfold Ls.cells at hH ⊢;clear hA hN he gB gB1 gE b0 b1 b01 C hO hv s0 s1 hM hC;go_enter_defers Tryd.func23,Tryd.ntmps23;change Code.wp Tryd.prog AJ _ _ _;rw [S0];refine Ae (λK hK=>?_);have HK:=qh hK;clear hK
 conv=>arg 2;whnf
 go_wp2_with fail;rw [hU.out];refine HK.out _ _ ?_;clear HK K hH;rw [S3];refine Ae (λK hK=>?_);have HK:=qh hK;clear hK
 conv=>arg 2;whnf
 have st0:True:=trivial;obtain ⟨c,hc⟩:∃c,Dk s.strip ns=c:=⟨_,rfl⟩;have hG:=qh hc;unfold Nq at HC;rw [hc] at HC;clear hc;generalize hR:w.heap.size=B at *;generalize hW:W0.heap.size=E at *;by_cases hz:c=0
 ·subst hz
  go_wp2_with (first|(have q:=st0;clear q st0;(refine wpList_load_row rfl 55 _ rfl B rfl 55 s.cells (0,0) _ HX.out Tryd.underlying55 rfl (by kernel_rfl) ?_;simp only [Act.put,qD,qE,qF]))|(go_at_call 40;refine HC.out.mono ?_;rintro e V ⟨rfl,hv⟩;have HV:=qh hv;have x0:=cell_of_one (Ah hv hF.out);have f0:=free_of_one (Ah hv hF.out);obtain ⟨V2,hS,g1,g2,g3⟩:=hP.out V 0 hv;have y1:=cell_of_one g1;have hI:=qh g1;have hT:=qh g2;have hD:=qh g3;clear hv g1 g2 g3));refine HK.out _ _ ?_;clear HK K;subst hR;subst hW;have hA:=HA.out.below hD.out;have hE:=N6 hG.out (HN.out.below hD.out);have hB:Bj s ns=if ((inB s.wd 1 1000&&inB s.dp 1 1000)&&((inB s.t0 1 127&&inB s.t1 0 s.t0)&&(s.roles.all (Ca s)&&(decide (Cb ⟨s.bars,s.tempos,s.pauses,s.spans⟩=0)&&(s.phrases.all (λp=>p.its.strip.exB)&&(decide (BK (s.nexts (AR s.strip))=[])&&s.dances.all (CY s (AR s.strip) (E1 s.itsL (AR s.strip)))))))))=true then 0 else 180:=by unfold Bj;rw [if_pos hG.out];rfl
  have hJ:=qh (And.intro hA hE);have hL:=qh hB;clear hA hE hB x0 f0 hS y1;rw [S4];refine Ae (λK hK=>?_);have HK:=qh hK;clear hK
  conv=>arg 2;whnf
  go_wp2_with fail;refine HK.out _ _ ?_;exact UB s ns w.heap.size W0.heap.size w V2 V2 hG.out ⟨hJ.out.1,hT.out,λx hx=>hJ.out.2 x (by unfold Ls.refs;exact List.mem_append.2 (Or.inl hx))⟩ (λx hx=>hJ.out.2 x (by unfold Ls.refs;exact List.mem_append.2 (Or.inr hx))) hI.out hQ.out hD.out (Below.refl _ _) hL.out
 ·have hB:Bj s ns=c:=by unfold Bj;rw [hG.out,if_neg hz]
  have hL:=qh hB;clear hB
  go_wp2_with (first|(have q:=st0;clear q st0;(refine wpList_load_row rfl 55 _ rfl B rfl 55 s.cells (0,0) _ HX.out Tryd.underlying55 rfl (by kernel_rfl) ?_;simp only [Act.put,qD,qE,qF]))|(go_at_call 40;refine HC.out.mono ?_;rintro e V ⟨rfl,hv⟩;have HV:=qh hv;have x0:=cell_of_one (Ah hv hF.out);have f0:=free_of_one (Ah hv hF.out);obtain ⟨V2,hS,g1,g2,g3⟩:=hP.out V c hv;have y1:=cell_of_one g1;have f1:=free_of_one g1;have hI:=qh g1;have hT:=qh g2;have hD:=qh g3;clear hv g1 g2 g3));have y2:=cell_of_one (one_setCell (u:=int i64 c) hI.out);simp [bodyPostD,Leaves,results,Tryd.results23,go_sem,y2];subst hR;exact ⟨by rw [hL.out],hD.out.setCell (p:=⟨E,0,none⟩) hQ.out _⟩
end
section
open Go Go.RowKit Go.Deep
theorem PE{a b:Int}{r:Bool}{w:World}{X:Result Bool}(h:X=.ok r w):(if a=b then X else .ok false w)=.ok (a==b&&r) w:=by
 by_cases e:a=b<;>simp [e,h]
theorem Pn(a0 a1 a2 a3 a4 a5 a6 a7 a8 a9 aa ab ac ad b0 b1 b2 b3 b4 b5 b6 b7 b8 b9 ba bb bc bd:Int)(w:World) :
  (Op.equalIn 10000 43 (.agg #[int i64 a0,int i64 a1,int i64 a2,int i64 a3,int i64 a4,int i64 a5,int i64 a6,int i64 a7,int i64 a8,int i64 a9,int i64 aa,int i64 ab,int i64 ac,int i64 ad])
   (.agg #[int i64 b0,int i64 b1,int i64 b2,int i64 b3,int i64 b4,int i64 b5,int i64 b6,int i64 b7,int i64 b8,int i64 b9,int i64 ba,int i64 bb,int i64 bc,int i64 bd])).run Tryd.prog w =
  .ok (a0==b0&&(a1==b1&&(a2==b2&&(a3==b3&&(a4==b4&&(a5==b5&&(a6==b6&&(a7==b7&&(a8==b8&&(a9==b9&&(aa==ba&&(ab==bb&&(ac==bc&&ad==bd))))))))))))) w:=by
 have hS:Tryd.prog.underlying 43=some (.struct (Tryd.prog.fieldsOf 43)):=by kernel_rfl
 have hp:Tryd.prog.stoodInHeld 43=false:=by kernel_rfl
 have hA:Tryd.prog.underlying 41=some (.struct (Tryd.prog.fieldsOf 41)):=by kernel_rfl
 have hB:Tryd.prog.stoodInHeld 41=false:=by kernel_rfl
 have u3:=Tryd.underlying3;have q3:=Tryd.isAgg3;have z3:=Tryd.sizeOf3;have a41:=Tryd.isAgg41;have z41:=Tryd.sizeOf41;rw [show (10000:Nat)=9999+1 from rfl,run_equalIn_agg w 9999 43 _ _ hS hp];clear hS;simp only [Program.fieldsOf,Tryd.underlying43];simp only [Op.eqFields];clear hA;have hC:=Tryd.underlying41;go_simp
 iterate 13 refine PE ?_
 by_cases h:ad=bd<;>simp [h]
theorem Qu(x y:Sgn):(x.id==y.id&&(x.role==y.role&&(x.bar==y.bar&&(x.mark==y.mark&&(x.kind==y.kind&&(x.side==y.side&&(x.dir==y.dir&&(x.level==y.level&&(x.size==y.size&&(x.wth==y.wth&&(x.fn==y.fn&&(x.fd==y.fd&&(x.tn==y.tn&&x.td==y.td)))))))))))))=decide (x=y):=by
 cases x;cases y;rw [Bool.eq_iff_iff];simp only [Bool.and_eq_true,beq_iff_eq,decide_eq_true_eq,Sgn.mk.injEq]
theorem Le:Tryd.prog.eqGuardType Tryd.prog.depth 43=false:=by kernel_rfl
theorem Ma(a:Act)(o:Oper)(x y:Operand)(t:TypeId)(ho:o.op=.binOp .neq 43 x y t)(s u:Sgn)(hx:a.eval x=.agg (AC s).toArray)(hy:a.eval y=.agg (AC u).toArray)(w:World):(execOp a.eval o).run Tryd.prog w=.ok (.value (.bool (!decide (s=u)))) w:=by
 unfold execOp;simp only [ho,hx,hy,Sem.run_bind,Sem.run_pure,run_eqGuard_agg w .neq 43 x y _ _ Le,Result.andThen_ok,run_neq_struct];unfold AC;rw [Pn,Qu]
 rfl
theorem EY{P:Program}{ops:Array Oper}{w:World}{Q:Exit→Act→World→Prop}{op:Oper}{rest:List Oper}{a:Act}(hw:Region.wanted op (yielded ops a.tmps)=true)(v:Value)(h0:(execOp a.eval op).run P w=.ok (.value v) w)(h:wpList P ops Q rest (a.put op.dst v) w):wpList P ops Q (op::rest) a w :=
 wpList_step λK hK=>by
  rw [if_pos hw];unfold Oper.wp;rw [h0];exact hK _ _ h
theorem IsRow.parts{α:Type}{enc:α→List Value}{k:Nat}{w:World}{ao:Option Addr}{n c:Nat}{xs:List α}(h:IsRow enc k w (.slice ao n c) xs):∃g o,(xs=[]∨ao=some ⟨g,o,none⟩)∧xs.length≤maxLen∧∀(i:Nat) (x:α),xs[i]?=some x→w.rangeAt g (o+i*k) (enc x):=by
 obtain ⟨ao',c',e,hl,h⟩:=h;injection e with e1 e2 e3;rcases h with h|⟨b,o,e4,h1,h2⟩
 ·exact ⟨0,0,Or.inl h,hl,λi x hx=>by rw [h] at hx;cases hx⟩
 ·exact ⟨b,o,Or.inr (e1.trans e4),hl,λi x hx j v hv=>h1 i x hx j v hv⟩
theorem IA(xs ys:List Sgn)(a1 a2:Option Addr)(c1 c2:Nat)(W:World)(h1:IsRow AC 14 W (.slice a1 xs.length c1) xs)(h2:IsRow AC 14 W (.slice a2 ys.length c2) ys):Calls Tryd.prog 14 #[.slice a1 xs.length c1,.slice a2 ys.length c2] W λe w'=>e=.returned (.bool (decide (xs=ys)))∧Below W.heap.size W w':=by
 obtain ⟨g1,o1,f1,m1,k1⟩:=h1.parts;obtain ⟨g2,o2,f2,m2,k2⟩:=h2.parts;clear h1 h2;have hL:=qh f1;have hM:=qh f2;have hN:=qh k1;have hO:=qh k2;clear f1 f2 k1 k2;unfold maxLen at m1 m2;generalize hF:xs.length=n1 at *;generalize hG:ys.length=n2 at *;have hC:=qh hF;have hD:=qh hG;clear hF hG;by_cases hH:(n1:Int)=(n2:Int)
 ·obtain rfl:n1=n2:=by omega
  clear hH;go_enter Tryd.func14,Tryd.ntmps14;go_wp2_with fail;go_loopw [5] (λiv wr=>∃(i q:Nat),iv=int i64 i∧i≤n1∧wr=W.drewN q∧Hid (∀j,j<i→xs[j]?=ys[j]?)) (λiv _=>n1+1-(intOf iv).toNat)
  case atStart=>exact ⟨0,0,rfl,Nat.zero_le _,rfl,qh (λj hj=>by omega)⟩
  case round =>
   obtain ⟨i,q,rfl,hQ,rfl,hI⟩:=hrel;by_cases hJ:i<n1
   ·have hi:(i:Int)<(n1:Int):=by omega
    obtain ⟨x,hx⟩:∃x,xs[i]?=some x:=⟨_,qg (by rw [hC.out];exact hJ)⟩;obtain ⟨y,hy⟩:∃y,ys[i]?=some y:=⟨_,qg (by rw [hD.out];exact hJ)⟩;have e1:=hL.out.resolve_left (λe=>by rw [e] at hx;simp at hx);have e2:=hM.out.resolve_left (λe=>by rw [e] at hy;simp at hy);have HA:=qh (hN.out i x hx);have HC:=qh (hO.out i y hy);have HX:=qh hx;have HY:=qh hy;clear hx hy;subst e1 e2;go_wp2_with fail;refine AU (λw2=>w2=(W.drewN q).drew) 8 (by kernel_rfl) (by kernel_rfl) rfl ?_;intro w2 hS;subst hS;simp only [List.take_succ_cons,List.take_zero,List.drop_succ_cons,List.drop_zero]
    iterate 3 still_step
    refine AP (by kernel_rfl) 43 _ rfl g1 (o1+i*14) rfl _ _ HA.out Tryd.underlying43 rfl (by kernel_rfl) ?_
    try simp only [Act.put,qA,qB,qC,qD,qE,qF]
    iterate 3 still_step
    refine AP (by kernel_rfl) 43 _ rfl g2 (o2+i*14) rfl _ _ HC.out Tryd.underlying43 rfl (by kernel_rfl) ?_
    try simp only [Act.put,qA,qB,qC,qD,qE,qF]
    refine wpStill_nil ?_;refine EY (by kernel_rfl) _ (Ma _ _ _ _ _ rfl x y rfl rfl _) ?_
    try simp only [Act.put,qA,qB,qC,qD,qE,qF]
    by_cases hB:x=y
    ·rw [decide_eq_true hB]
     subst hB;go_wp2_with fail;go_roundw
     case rel=>exact ⟨i+1,_,by go_num,by omega,rfl,qh (λj hj=>by rcases Nat.lt_or_ge j i with h|h;exact hI.out j h;rw [show j=i by omega,HX.out,HY.out])⟩
     case measure=>simp [intOf];omega
    ·have hA:¬xs=ys:=λe=>by have:=HX.out;rw [e,HY.out] at this;cases this;exact hB rfl
     have hE:=qh hA;rw [decide_eq_false hB];clear hA;go_wp2_with fail;go_ret;exact ⟨by rw [decide_eq_false hE.out];rfl,Ak (Ak (Below.refl _ _) _) _⟩
   ·have:i=n1:=by omega
    subst this;have hz:¬(i:Int)<(i:Int):=by omega
    have hK:xs=ys:=by
     apply List.ext_getElem?;intro j;rcases Nat.lt_or_ge j i with h|h
     ·exact hI.out j h
     ·rw [List.getElem?_eq_none (by rw [hC.out];exact h),List.getElem?_eq_none (by rw [hD.out];exact h)]
    have hP:=qh hK;clear hK;go_wp2_with fail;go_ret;exact ⟨by rw [decide_eq_true hP.out];rfl,Ak (Below.refl _ _) _⟩
 ·have hA:¬xs=ys:=λe=>hH (by rw [← hC.out,← hD.out,e])
  have hE:=qh hA;clear hA;go_enter Tryd.func14,Tryd.ntmps14;go_wp2_with fail;go_ret;exact ⟨by rw [decide_eq_false hE.out];rfl,Below.refl _ _⟩
end
section
open Go Go.RowKit
def Tr(k:Wrk):Bool :=
 !(decide (100<k.roles.length)||decide (64<k.clock.tempos.length)||decide (64<k.clock.pauses.length)||decide (64<k.clock.spans.length)) &&
 (decide (k.signs.length≤80)&&decide (k.clock.bars≤4096)||decide (4096<k.signs.length)&&decide (k.signs.length≤5000)||decide (4096<k.clock.bars)&&decide (k.signs.length≤80))
theorem UT(wd dp ta tb tc bars:Int)(aR aT aP aX aS:Option Addr)(cR cT cP cX cS:Nat)(rs:List Rol)(ts:List Tmp)(ps:List Pau)(xs:List Con)(ss:List Sgn)(w:World) :
  Calls Tryd.prog 6 #[.agg #[int i64 wd,int i64 dp,int i64 ta,int i64 tb,int i64 tc,.slice aR rs.length cR,int i64 bars,.slice aT ts.length cT,.slice aP ps.length cP,.slice aX xs.length cX,.slice aS ss.length cS]] w λe w'=>e=.returned (.bool (Tr ⟨wd,dp,ta,tb,tc,rs,⟨bars,ts,ps,xs⟩,ss⟩))∧Below w.heap.size w w':=by
 have hf:Tr ⟨wd,dp,ta,tb,tc,rs,⟨bars,ts,ps,xs⟩,ss⟩=(!(decide (100<rs.length)||decide (64<ts.length)||decide (64<ps.length)||decide (64<xs.length)) &&
  (decide (ss.length≤80)&&decide (bars≤4096)||decide (4096<ss.length)&&decide (ss.length≤5000)||decide (4096<bars)&&decide (ss.length≤80))):=rfl
 generalize Tr ⟨wd,dp,ta,tb,tc,rs,⟨bars,ts,ps,xs⟩,ss⟩=ans at *;generalize rs.length=nR at *;generalize ts.length=nT at *;generalize ps.length=nP at *;generalize xs.length=nX at *;generalize ss.length=nS at *;have hb:Below w.heap.size w (w.alloc (.cells #[int i64 wd,int i64 dp,int i64 ta,int i64 tb,int i64 tc,.slice aR nR cR,int i64 bars,.slice aT nT cT,.slice aP nP cP,.slice aX nX cX,.slice aS nS cS] 32)):=(Below.refl _ _).alloc (qn _) _;have HB:=qh hb;have HF:=qh hf;clear hb hf;by_cases h1:100<nR
 ·have f1:(100:Int)<(nR:Int):=by omega
  obtain rfl:ans=false:=by rw [HF.out,decide_eq_true h1];simp
  clear h1;go_enter Tryd.func6,Tryd.ntmps6;go_wp2_with fail;go_ret;exact ⟨rfl,HB.out⟩
 have f1:¬(100:Int)<(nR:Int):=by omega
 by_cases h2:64<nT
 ·have f2:(64:Int)<(nT:Int):=by omega
  obtain rfl:ans=false:=by rw [HF.out,decide_eq_true h2];simp
  clear h1 h2;go_enter Tryd.func6,Tryd.ntmps6;go_wp2_with fail;go_ret;exact ⟨rfl,HB.out⟩
 have f2:¬(64:Int)<(nT:Int):=by omega
 by_cases h3:64<nP
 ·have f3:(64:Int)<(nP:Int):=by omega
  obtain rfl:ans=false:=by rw [HF.out,decide_eq_true h3];simp
  clear h1 h2 h3;go_enter Tryd.func6,Tryd.ntmps6;go_wp2_with fail;go_ret;exact ⟨rfl,HB.out⟩
 have f3:¬(64:Int)<(nP:Int):=by omega
 by_cases h4:64<nX
 ·have f4:(64:Int)<(nX:Int):=by omega
  obtain rfl:ans=false:=by rw [HF.out,decide_eq_true h4];simp
  clear h1 h2 h3 h4;go_enter Tryd.func6,Tryd.ntmps6;go_wp2_with fail;go_ret;exact ⟨rfl,HB.out⟩
 have f4:¬(64:Int)<(nX:Int):=by omega
 replace HF:=qh (HF.out.trans (by rw [decide_eq_false h1,decide_eq_false h2,decide_eq_false h3,decide_eq_false h4];rfl):ans=(decide (nS≤80)&&decide (bars≤4096)||decide (4096<nS)&&decide (nS≤5000)||decide (4096<bars)&&decide (nS≤80)))
 clear h1 h2 h3 h4;by_cases h5:nS≤80
 ·have f5:(nS:Int)≤80:=by omega
  have f6:¬(4096:Int)<(nS:Int):=by omega
  obtain rfl:ans=true:=by
   rw [HF.out,decide_eq_true h5];by_cases hb:bars≤4096
   ·rw [decide_eq_true hb];rfl
   ·rw [decide_eq_true (show 4096<bars by omega)];simp
  clear h5;by_cases hb:bars≤4096
  ·go_enter Tryd.func6,Tryd.ntmps6
   go_wp2_with fail;go_ret;exact ⟨rfl,HB.out⟩
  ·have hA:4096<bars:=by omega
   go_enter Tryd.func6,Tryd.ntmps6;go_wp2_with fail;go_ret;exact ⟨rfl,HB.out⟩
 ·have f5:¬(nS:Int)≤80:=by omega
  have f7:decide ((nS:Int)≤80)=false:=decide_eq_false f5
  replace HF:=qh (HF.out.trans (by rw [decide_eq_false h5];simp):ans=(decide (4096<nS)&&decide (nS≤5000)))
  by_cases h6:4096<nS
  ·have f6:(4096:Int)<(nS:Int):=by omega
   by_cases h7:nS≤5000
   ·have f8:(nS:Int)≤5000:=by omega
    obtain rfl:ans=true:=by rw [HF.out,decide_eq_true h6,decide_eq_true h7];rfl
    clear h5 h6 h7;go_enter Tryd.func6,Tryd.ntmps6;go_wp2_with fail;go_ret;exact ⟨rfl,HB.out⟩
   ·have f8:¬(nS:Int)≤5000:=by omega
    obtain rfl:ans=false:=by rw [HF.out,decide_eq_false h7];simp
    clear h5 h6 h7;by_cases hb:4096<bars
    ·go_enter Tryd.func6,Tryd.ntmps6
     go_wp2_with fail;go_ret;exact ⟨rfl,HB.out⟩
    ·go_enter Tryd.func6,Tryd.ntmps6
     go_wp2_with fail;go_ret;exact ⟨rfl,HB.out⟩
  ·have f6:¬(4096:Int)<(nS:Int):=by omega
   obtain rfl:ans=false:=by rw [HF.out,decide_eq_false h6];rfl
   clear h5 h6;by_cases hb:4096<bars
   ·go_enter Tryd.func6,Tryd.ntmps6
    go_wp2_with fail;go_ret;exact ⟨rfl,HB.out⟩
   ·go_enter Tryd.func6,Tryd.ntmps6
    go_wp2_with fail;go_ret;exact ⟨rfl,HB.out⟩
end
end Go.Proofs.YtbkemlgfdklpfaaDoor
